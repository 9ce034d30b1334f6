/- Parts of a proof, laid one behind the other by our own merge.py: Sh1 FmMem FmRep FmLead FmState FmLink WdIndex WdCheck WdReduce WdInverse FmPath FmTab FmMap FmBfs FmNum FmEnd FmMadeC FmEnd2 FmMade. -/
import Derived.Test.YtffdjfkekdoeaaaDoorXi1
import Derived.Test.YtffdjfkekdoeaaaDoorProg
import Derived.KernelRfl
import Derived.Laws.RangeAny
import Derived.Laws.BitsAllLaws
import Derived.Laws.Cover3
import Derived.Recover
set_option linter.unusedVariables false
set_option linter.unusedSimpArgs false
section
set_option maxRecDepth 10000
namespace Go.Proofs.YtffdjfkekdoeaaaDoor
open Fw
noncomputable def fold_isRank.ann:Ann where
 loops:=fun | _=>[]
 joins:=fun | _=>none
noncomputable def fold_isRank.body:Code:=match Tryd.f44.body with | some c=>c | none=>.skip
def fold_isRank.sh (p0:Int) (R:Ending → World → Prop) (w:World):Prop:=
 Br (decide ((p0:Int) ≥ 1))
  (R (.returned (.bool (decide ((p0:Int) ≤ 8)))) w)
  (R (.returned (.bool false)) w)
theorem fold_isRank.calls (p0:Int) {R:Ending → World → Prop} {w:World} (h:fold_isRank.sh p0 R w):Calls Tryd.prog 44 #[(.int .i64 p0)] w R:=calls_of_wpc mixed Tryd.func44 (by kernel_rfl) (by kernel_rfl) ((show _ = wpc Tryd.prog fold_isRank.ann fold_isRank.body (fnKs Tryd.prog Tryd.f44 R) [] (env0 #[(.int .i64 p0)]) w by kernel_rfl).mp h)
noncomputable def fold_degree.ann:Ann where
 loops:=fun | 3=>[(3,.sc (.int .i64)),(6,.sc .sl),(7,.sc (.int .i64)),(8,.sc (.int .i64))] | _=>[]
 joins:=fun | _=>none
noncomputable def fold_degree.body:Code:=match Tryd.f62.body with | some c=>c | none=>.skip
def fold_degree.sh (p0:Sl) (R:Ending → World → Prop) (w:World):Prop:=
 LoopT (σ:=Int × Sl × Int × Int × Unit) (0,p0,((p0.n:Nat):Int),0,()) w fun l1 g2 w3 I4=>
  Br (decide ((l1.2.2.2.1:Int) < l1.2.2.1))
   (Idx l1.2.1.a l1.2.1.n 1 l1.2.2.2.1 fun a5=>
   LoadT (.sc (.int .i64)) w3 a5 fun x6=>
   Br (decide ((x6:Int) ≥ 0))
    (I4 ((IntKind.wrap .i64 (l1.1 + 1)),l1.2.1,l1.2.2.1,(IntKind.wrap .i64 (l1.2.2.2.1 + 1)),()) w3)
    (I4 (l1.1,l1.2.1,l1.2.2.1,(IntKind.wrap .i64 (l1.2.2.2.1 + 1)),()) w3))
   (R (.returned (.int .i64 l1.1)) w3)
theorem fold_degree.calls (p0:Sl) {R:Ending → World → Prop} {w:World} (h:fold_degree.sh p0 R w):Calls Tryd.prog 62 #[(.slice p0.a p0.n p0.c)] w R:=calls_of_wpc mixed Tryd.func62 (by kernel_rfl) (by kernel_rfl) ((show _ = wpc Tryd.prog fold_degree.ann fold_degree.body (fnKs Tryd.prog Tryd.f62 R) [] (env0 #[(.slice p0.a p0.n p0.c)]) w by kernel_rfl).mp h)
noncomputable def fold_edges.ann:Ann where
 loops:=fun | _=>[]
 joins:=fun | _=>none
noncomputable def fold_edges.body:Code:=match Tryd.f64.body with | some c=>c | none=>.skip
def fold_edges.sh (p0_0:Int) (p0_1:Int) (p0_2:Sl) (p0_3:Sl) (p1:Int) (R:Ending → World → Prop) (w:World):Prop:=
 New w (.cells #[(.int .i64 p0_0),(.int .i64 p0_1),(.slice p0_2.a p0_2.n p0_2.c),(.slice p0_3.a p0_3.n p0_3.c)] 27) fun b1 w2=>
 New w2 (.cells #[(.int .i64 p1)] 3) fun b3 w4=>
 R (.returned (.func (.func 88) #[] #[(.pointer (some (Addr.mk b1 0 none))),(.pointer (some (Addr.mk b3 0 none)))])) w4
theorem fold_edges.calls (p0_0:Int) (p0_1:Int) (p0_2:Sl) (p0_3:Sl) (p1:Int) {R:Ending → World → Prop} {w:World} (h:fold_edges.sh p0_0 p0_1 p0_2 p0_3 p1 R w):Calls Tryd.prog 64 #[(.agg #[(.int .i64 p0_0),(.int .i64 p0_1),(.slice p0_2.a p0_2.n p0_2.c),(.slice p0_3.a p0_3.n p0_3.c)]),(.int .i64 p1)] w R:=calls_of_wpc mixed Tryd.func64 (by kernel_rfl) (by kernel_rfl) ((show _ = wpc Tryd.prog fold_edges.ann fold_edges.body (fnKs Tryd.prog Tryd.f64 R) [] (env0 #[(.agg #[(.int .i64 p0_0),(.int .i64 p0_1),(.slice p0_2.a p0_2.n p0_2.c),(.slice p0_3.a p0_3.n p0_3.c)]),(.int .i64 p1)]) w by kernel_rfl).mp h)
noncomputable def fold_edges_c1.ann:Ann where
 loops:=fun | 1=>[(0,.sc .yld),(10,.sc .sl),(11,.sc (.int .i64)),(12,.sc (.int .i64))] | _=>[]
 joins:=fun | _=>none
noncomputable def fold_edges_c1.body:Code:=match Tryd.f88.body with | some c=>c | none=>.skip
def fold_edges_c1.sh (p0:Nat) (q0:Addr) (q1:Addr) (R:Ending → World → Prop) (w:World):Prop:=
 LoadT (.sc .sl) w (q0.add 3) fun x1=>
 LoadT (.sc (.int .i64)) w q1 fun x2=>
 Idx x1.a x1.n 1 x2 fun a3=>
 LoadT (.sc .sl) w a3 fun x4=>
 LoopT (σ:=Nat × Sl × Int × Int × Unit) (p0,x4,((x4.n:Nat):Int),0,()) w fun l5 g6 w7 I8=>
  Br (decide ((l5.2.2.2.1:Int) < l5.2.2.1))
   (Idx l5.2.1.a l5.2.1.n 1 l5.2.2.2.1 fun a9=>
   LoadT (.sc (.int .i64)) w7 a9 fun x10=>
   Br (decide ((x10:Int) ≥ 0))
    (YieldT Tryd.prog l5.1 #[(.int .i64 l5.2.2.2.1),(.int .i64 x10)] w7 fun r11 w12=>
    Br (!r11)
     (R (.returned (.tuple #[])) w12)
     (I8 (l5.1,l5.2.1,l5.2.2.1,(IntKind.wrap .i64 (l5.2.2.2.1 + 1)),()) w12))
    (Br false
     (R (.returned (.tuple #[])) w7)
     (I8 (l5.1,l5.2.1,l5.2.2.1,(IntKind.wrap .i64 (l5.2.2.2.1 + 1)),()) w7)))
   (R (.returned (.tuple #[])) w7)
theorem fold_edges_c1.calls (p0:Nat) (q0:Addr) (q1:Addr) {R:Ending → World → Prop} {w:World} (h:fold_edges_c1.sh p0 q0 q1 R w):Calls Tryd.prog 88 #[(.func (.yield p0) #[] #[]),(.pointer (some q0)),(.pointer (some q1))] w R:=calls_of_wpc mixed Tryd.func88 (by kernel_rfl) (by kernel_rfl) ((show _ = wpc Tryd.prog fold_edges_c1.ann fold_edges_c1.body (fnKs Tryd.prog Tryd.f88 R) [] (env0 #[(.func (.yield p0) #[] #[]),(.pointer (some q0)),(.pointer (some q1))]) w by kernel_rfl).mp h)
noncomputable def fsa_Check.ann:Ann where
 loops:=fun | 5=>[(1,.sc .adr),(3,.sc (.int .i64)),(43,.sc .sl),(44,.sc (.int .i64)),(45,.sc (.int .i64))] | 10=>[(1,.sc .adr),(3,.sc (.int .i64)),(43,.sc .sl),(44,.sc (.int .i64)),(45,.sc (.int .i64)),(54,.sc .sl),(55,.sc (.int .i64)),(56,.sc (.int .i64))] | _=>[]
 joins:=fun | 4=>some [(1,.sc .adr),(3,.sc (.int .i64))] | _=>none
noncomputable def fsa_Check.body:Code:=match Tryd.f63.body with | some c=>c | none=>.skip
def fsa_Check.sh (p0_0:Int) (p0_1:Int) (p0_2:Sl) (p0_3:Sl) (R:Ending → World → Prop) (w:World):Prop:=
 New w (.cells #[(.int .i64 p0_0),(.int .i64 p0_1),(.slice p0_2.a p0_2.n p0_2.c),(.slice p0_3.a p0_3.n p0_3.c)] 27) fun b1 w2=>
 LoadT (.sc .sl) w2 ((Addr.mk b1 0 none).add 2) fun x3=>
 Join (σ:=Addr × Int × Unit) (fun j6 g5 w14=>
  LoadT (.sc .sl) w14 (j6.1.add 3) fun x15=>
  LoopT (σ:=Addr × Int × Sl × Int × Int × Unit) (j6.1,j6.2.1,x15,((x15.n:Nat):Int),0,()) w14 fun l16 g17 w18 I19=>
   Br (decide ((l16.2.2.2.2.1:Int) < l16.2.2.2.1))
    (Idx l16.2.2.1.a l16.2.2.1.n 1 l16.2.2.2.2.1 fun a20=>
    LoadT (.sc .sl) w18 a20 fun x21=>
    LoadT (.sc (.int .i64)) w18 (l16.1.add 0) fun x22=>
    Br ((((x21.n:Nat):Int):Int) != x22)
     (R (.returned (.int .i64 60)) w18)
     (LoopT (σ:=Addr × Int × Sl × Int × Int × Sl × Int × Int × Unit) (l16.1,l16.2.1,l16.2.2.1,l16.2.2.2.1,l16.2.2.2.2.1,x21,((x21.n:Nat):Int),0,()) w18 fun l23 g24 w25 I26=>
      Br (decide ((l23.2.2.2.2.2.2.2.1:Int) < l23.2.2.2.2.2.2.1))
       (Idx l23.2.2.2.2.2.1.a l23.2.2.2.2.2.1.n 1 l23.2.2.2.2.2.2.2.1 fun a27=>
       LoadT (.sc (.int .i64)) w25 a27 fun x28=>
       Br (decide ((x28:Int) < (-1)))
        (Br true
         (R (.returned (.int .i64 60)) w25)
         (I26 (l23.1,l23.2.1,l23.2.2.1,l23.2.2.2.1,l23.2.2.2.2.1,l23.2.2.2.2.2.1,l23.2.2.2.2.2.2.1,(IntKind.wrap .i64 (l23.2.2.2.2.2.2.2.1 + 1)),()) w25))
        (Br (decide ((x28:Int) ≥ l23.2.1))
         (R (.returned (.int .i64 60)) w25)
         (I26 (l23.1,l23.2.1,l23.2.2.1,l23.2.2.2.1,l23.2.2.2.2.1,l23.2.2.2.2.2.1,l23.2.2.2.2.2.2.1,(IntKind.wrap .i64 (l23.2.2.2.2.2.2.2.1 + 1)),()) w25)))
       (I19 (l23.1,l23.2.1,l23.2.2.1,l23.2.2.2.1,(IntKind.wrap .i64 (l23.2.2.2.2.1 + 1)),()) w25)))
    (R (.returned (.int .i64 0)) w18)) fun J4=>
  LoadT (.sc (.int .i64)) w2 ((Addr.mk b1 0 none).add 0) fun x7=>
  Br (decide ((x7:Int) < 1))
   (Br true
    (R (.returned (.int .i64 60)) w2)
    (J4 ((Addr.mk b1 0 none),((x3.n:Nat):Int),()) w2))
   (LoadT (.sc (.int .i64)) w2 ((Addr.mk b1 0 none).add 0) fun x8=>
   Br (decide ((x8:Int) > 400))
    (Br true
     (R (.returned (.int .i64 60)) w2)
     (J4 ((Addr.mk b1 0 none),((x3.n:Nat):Int),()) w2))
    (Br (decide ((((x3.n:Nat):Int):Int) > 20000))
     (Br true
      (R (.returned (.int .i64 60)) w2)
      (J4 ((Addr.mk b1 0 none),((x3.n:Nat):Int),()) w2))
     (LoadT (.sc .sl) w2 ((Addr.mk b1 0 none).add 3) fun x9=>
     Br ((((x9.n:Nat):Int):Int) != ((x3.n:Nat):Int))
      (Br true
       (R (.returned (.int .i64 60)) w2)
       (J4 ((Addr.mk b1 0 none),((x3.n:Nat):Int),()) w2))
      (LoadT (.sc (.int .i64)) w2 ((Addr.mk b1 0 none).add 1) fun x10=>
      Br (decide ((x10:Int) < 0))
       (Br true
        (R (.returned (.int .i64 60)) w2)
        (J4 ((Addr.mk b1 0 none),((x3.n:Nat):Int),()) w2))
       (LoadT (.sc (.int .i64)) w2 ((Addr.mk b1 0 none).add 1) fun x11=>
       RunT Tryd.prog (.sc (.int .i64)) (Builtin.max_ #[3,3] 3 #[(.int .i64 ((x3.n:Nat):Int)),(.int .i64 1)]) w2 fun r12 w13=>
       Br (decide ((x11:Int) ≥ r12))
        (R (.returned (.int .i64 60)) w13)
        (J4 ((Addr.mk b1 0 none),((x3.n:Nat):Int),()) w13))))))
theorem fsa_Check.calls (p0_0:Int) (p0_1:Int) (p0_2:Sl) (p0_3:Sl) {R:Ending → World → Prop} {w:World} (h:fsa_Check.sh p0_0 p0_1 p0_2 p0_3 R w):Calls Tryd.prog 63 #[(.agg #[(.int .i64 p0_0),(.int .i64 p0_1),(.slice p0_2.a p0_2.n p0_2.c),(.slice p0_3.a p0_3.n p0_3.c)])] w R:=calls_of_wpc mixed Tryd.func63 (by kernel_rfl) (by kernel_rfl) ((show _ = wpc Tryd.prog fsa_Check.ann fsa_Check.body (fnKs Tryd.prog Tryd.f63 R) [] (env0 #[(.agg #[(.int .i64 p0_0),(.int .i64 p0_1),(.slice p0_2.a p0_2.n p0_2.c),(.slice p0_3.a p0_3.n p0_3.c)])]) w by kernel_rfl).mp h)
noncomputable def fold_union_add.ann:Ann where
 loops:=fun | _=>[]
 joins:=fun | _=>none
noncomputable def fold_union_add.body:Code:=match Tryd.f89.body with | some c=>c | none=>.skip
def fold_union_add.sh (p0:Option Addr) (R:Ending → World → Prop) (w:World):Prop:=
 ∃ S1:World → Prop,S1 w.drew ∧
 (NilCk p0 fun a2=>
 LoadS S1 (.sc .sl) (a2.add 0) fun x3=>
 NilCk p0 fun a4=>
 LoadS S1 (.sc .sl) (a4.add 0) fun x5=>
 New w.drew (.cells #[(.int .i64 ((x5.n:Nat):Int))] 3) fun b6 w7=>
  S1 w7 ∧
  (RunT Tryd.prog (.sc .sl) (Builtin.append_ #[85,85] 85 #[(.slice x3.a x3.n x3.c),(.slice (some (Addr.mk b6 0 none)) 1 1)]) w7 fun r8 w9=>
   S1 w9 ∧
   (NilCk p0 fun a10=>
   Store1 w9 (a10.add 0) (.slice r8.a r8.n r8.c) fun w11=>
    NilCk p0 fun a12=>
    LoadT (.sc .sl) w11 (a12.add 0) fun x13=>
    R (.returned (.int .i64 (IntKind.wrap .i64 (((x13.n:Nat):Int) - 1)))) w11)))
theorem fold_union_add.calls (p0:Option Addr) {R:Ending → World → Prop} {w:World} (h:fold_union_add.sh p0 R w):Calls Tryd.prog 89 #[(.pointer p0)] w R:=calls_of_wpc mixed Tryd.func89 (by kernel_rfl) (by kernel_rfl) ((show _ = wpc Tryd.prog fold_union_add.ann fold_union_add.body (fnKs Tryd.prog Tryd.f89 R) [] (env0 #[(.pointer p0)]) w by kernel_rfl).mp h)
noncomputable def fold_union_find.ann:Ann where
 loops:=fun | 1=>[(0,.sc .ptr),(1,.sc (.int .i64))] | _=>[]
 joins:=fun | _=>none
noncomputable def fold_union_find.body:Code:=match Tryd.f82.body with | some c=>c | none=>.skip
def fold_union_find.sh (p0:Option Addr) (p1:Int) (R:Ending → World → Prop) (w:World):Prop:=
 LoopT (σ:=Option Addr × Int × Unit) (p0,p1,()) w fun l1 g2 w3 I4=>
  NilCk l1.1 fun a5=>
  LoadT (.sc .sl) w3 (a5.add 0) fun x6=>
  Idx x6.a x6.n 1 l1.2.1 fun a7=>
  LoadT (.sc (.int .i64)) w3 a7 fun x8=>
  Br ((x8:Int) != l1.2.1)
   (NilCk l1.1 fun a9=>
   LoadT (.sc .sl) w3.drew (a9.add 0) fun x10=>
   NilCk l1.1 fun a11=>
   LoadT (.sc .sl) w3.drew (a11.add 0) fun x12=>
   NilCk l1.1 fun a13=>
   LoadT (.sc .sl) w3.drew (a13.add 0) fun x14=>
   Idx x14.a x14.n 1 l1.2.1 fun a15=>
   LoadT (.sc (.int .i64)) w3.drew a15 fun x16=>
   Idx x12.a x12.n 1 x16 fun a17=>
   LoadT (.sc (.int .i64)) w3.drew a17 fun x18=>
   Idx x10.a x10.n 1 l1.2.1 fun a19=>
   Store1 w3.drew a19 (.int .i64 x18) fun w20=>
   NilCk l1.1 fun a21=>
   LoadT (.sc .sl) w20 (a21.add 0) fun x22=>
   Idx x22.a x22.n 1 l1.2.1 fun a23=>
   LoadT (.sc (.int .i64)) w20 a23 fun x24=>
   I4 (l1.1,x24,()) w20)
   (R (.returned (.int .i64 l1.2.1)) w3)
theorem fold_union_find.calls (p0:Option Addr) (p1:Int) {R:Ending → World → Prop} {w:World} (h:fold_union_find.sh p0 p1 R w):Calls Tryd.prog 82 #[(.pointer p0),(.int .i64 p1)] w R:=calls_of_wpc mixed Tryd.func82 (by kernel_rfl) (by kernel_rfl) ((show _ = wpc Tryd.prog fold_union_find.ann fold_union_find.body (fnKs Tryd.prog Tryd.f82 R) [] (env0 #[(.pointer p0),(.int .i64 p1)]) w by kernel_rfl).mp h)
noncomputable def slices_Clone___int_int_.ann:Ann where
 loops:=fun | _=>[]
 joins:=fun | _=>none
noncomputable def slices_Clone___int_int_.body:Code:=match Tryd.f83.body with | some c=>c | none=>.skip
def slices_Clone___int_int_.sh (p0:Sl) (R:Ending → World → Prop) (w:World):Prop:=
 RunT Tryd.prog (.sc .bool) (do eqGuard .eql 85 (.tmp 3) (.const (.slice none 0 0)) (.slice p0.a p0.n p0.c) (.slice none 0 0); binOp .eql 85 (.slice p0.a p0.n p0.c) (.slice none 0 0)) w fun r1 w2=>
 Br r1
  (R (.returned (.slice none 0 0)) w2)
  (New w2 (.cells #[] 3) fun b3 w4=>
  RunT Tryd.prog (.sc .sl) (Builtin.append_ #[85,85] 85 #[(.slice (some (Addr.mk b3 0 none)) 0 0),(.slice p0.a p0.n p0.c)]) w4 fun r5 w6=>
  R (.returned (.slice r5.a r5.n r5.c)) w6)
theorem slices_Clone___int_int_.calls (p0:Sl) {R:Ending → World → Prop} {w:World} (h:slices_Clone___int_int_.sh p0 R w):Calls Tryd.prog 83 #[(.slice p0.a p0.n p0.c)] w R:=calls_of_wpc mixed Tryd.func83 (by kernel_rfl) (by kernel_rfl) ((show _ = wpc Tryd.prog slices_Clone___int_int_.ann slices_Clone___int_int_.body (fnKs Tryd.prog Tryd.f83 R) [] (env0 #[(.slice p0.a p0.n p0.c)]) w by kernel_rfl).mp h)
noncomputable def fold_folding_state.ann:Ann where
 loops:=fun | 3=>[(0,.sc .ptr),(3,.sc .sl),(11,.sc (.int .i64)),(12,.sc (.int .i64))] | _=>[]
 joins:=fun | _=>none
noncomputable def fold_folding_state.body:Code:=match Tryd.f66.body with | some c=>c | none=>.skip
def fold_folding_state.sh (p0:Option Addr) (R:Ending → World → Prop) (w:World):Prop:=
 NilCk p0 fun a1=>
 LoadT (.sc (.int .i64)) w (a1.add 1) fun x2=>
 RunT Tryd.prog (.sc .sl) (Instr.makeSlice 85 (.int .i64 x2) (.int .i64 x2)) w fun r3 w4=>
 LoopT (σ:=Option Addr × Sl × Int × Int × Unit) (p0,r3,((r3.n:Nat):Int),0,()) w4 fun l5 g6 w7 I8=>
  Br (decide ((l5.2.2.2.1:Int) < l5.2.2.1))
   (Idx l5.2.1.a l5.2.1.n 1 l5.2.2.2.1 fun a9=>
   Store1 w7 a9 (.int .i64 (-1)) fun w10=>
   I8 (l5.1,l5.2.1,l5.2.2.1,(IntKind.wrap .i64 (l5.2.2.2.1 + 1)),()) w10)
   (NilCk l5.1 fun a11=>
   LoadT (.sc .sl) w7 (a11.add 2) fun x12=>
   New w7 (.cells #[(.slice l5.2.1.a l5.2.1.n l5.2.1.c)] 85) fun b13 w14=>
   RunT Tryd.prog (.sc .sl) (Builtin.append_ #[25,25] 25 #[(.slice x12.a x12.n x12.c),(.slice (some (Addr.mk b13 0 none)) 1 1)]) w14 fun r15 w16=>
   NilCk l5.1 fun a17=>
   Store1 w16 (a17.add 2) (.slice r15.a r15.n r15.c) fun w18=>
   NilCk l5.1 fun a19=>
   CallT Tryd.prog 89 #[(.pointer (some (a19.add 0)))] (.sc (.int .i64)) w18 (fun r20 w21=>
    R (.returned (.int .i64 r20)) w21) (fun h22 w21=>R (.panicked h22) w21))
theorem fold_folding_state.calls (p0:Option Addr) {R:Ending → World → Prop} {w:World} (h:fold_folding_state.sh p0 R w):Calls Tryd.prog 66 #[(.pointer p0)] w R:=calls_of_wpc mixed Tryd.func66 (by kernel_rfl) (by kernel_rfl) ((show _ = wpc Tryd.prog fold_folding_state.ann fold_folding_state.body (fnKs Tryd.prog Tryd.f66 R) [] (env0 #[(.pointer p0)]) w by kernel_rfl).mp h)
noncomputable def fold_folding_lead.ann:Ann where
 loops:=fun | _=>[]
 joins:=fun | _=>none
noncomputable def fold_folding_lead.body:Code:=match Tryd.f90.body with | some c=>c | none=>.skip
def fold_folding_lead.sh (p0:Option Addr) (p1:Int) (p2:Int) (p3:Int) (R:Ending → World → Prop) (w:World):Prop:=
 NilCk p0 fun a1=>
 CallT Tryd.prog 82 #[(.pointer (some (a1.add 0))),(.int .i64 p1)] (.sc (.int .i64)) w (fun r2 w3=>
  NilCk p0 fun a5=>
  LoadT (.sc .sl) w3 (a5.add 2) fun x6=>
  Idx x6.a x6.n 1 r2 fun a7=>
  LoadT (.sc .sl) w3 a7 fun x8=>
  Idx x8.a x8.n 1 p2 fun a9=>
  LoadT (.sc (.int .i64)) w3 a9 fun x10=>
  Br (decide ((x10:Int) < 0))
   (NilCk p0 fun a11=>
   LoadT (.sc .sl) w3 (a11.add 2) fun x12=>
   Idx x12.a x12.n 1 r2 fun a13=>
   LoadT (.sc .sl) w3 a13 fun x14=>
   Idx x14.a x14.n 1 p2 fun a15=>
   Store1 w3 a15 (.int .i64 p3) fun w16=>
   R (.returned (.tuple #[])) w16)
   (∃ S17:World → Prop,S17 w3.drew ∧
   (NilCk p0 fun a18=>
   LoadS S17 (.sc .sl) (a18.add 3) fun x19=>
   NilCk p0 fun a20=>
   LoadS S17 (.sc .sl) (a20.add 2) fun x21=>
   Idx x21.a x21.n 1 r2 fun a22=>
   LoadS S17 (.sc .sl) a22 fun x23=>
   Idx x23.a x23.n 1 p2 fun a24=>
   LoadS S17 (.sc (.int .i64)) a24 fun x25=>
   New w3.drew (.cells #[(.int .i64 x25),(.int .i64 p3)] 96) fun b26 w27=>
    S17 w27 ∧
    (RunT Tryd.prog (.sc .sl) (Builtin.append_ #[106,106] 106 #[(.slice x19.a x19.n x19.c),(.slice (some (Addr.mk b26 0 none)) 1 1)]) w27 fun r28 w29=>
     S17 w29 ∧
     (NilCk p0 fun a30=>
     Store1 w29 (a30.add 3) (.slice r28.a r28.n r28.c) fun w31=>
      R (.returned (.tuple #[])) w31))))) (fun h4 w3=>R (.panicked h4) w3)
theorem fold_folding_lead.calls (p0:Option Addr) (p1:Int) (p2:Int) (p3:Int) {R:Ending → World → Prop} {w:World} (h:fold_folding_lead.sh p0 p1 p2 p3 R w):Calls Tryd.prog 90 #[(.pointer p0),(.int .i64 p1),(.int .i64 p2),(.int .i64 p3)] w R:=calls_of_wpc mixed Tryd.func90 (by kernel_rfl) (by kernel_rfl) ((show _ = wpc Tryd.prog fold_folding_lead.ann fold_folding_lead.body (fnKs Tryd.prog Tryd.f90 R) [] (env0 #[(.pointer p0),(.int .i64 p1),(.int .i64 p2),(.int .i64 p3)]) w by kernel_rfl).mp h)
noncomputable def fold_folding_link.ann:Ann where
 loops:=fun | 2=>[(0,.sc .ptr)] | 9=>[(0,.sc .ptr),(9,.sc (.int .i64)),(85,.sc .sl),(86,.sc (.int .i64)),(87,.sc (.int .i64))] | _=>[]
 joins:=fun | _=>none
noncomputable def fold_folding_link.body:Code:=match Tryd.f67.body with | some c=>c | none=>.skip
def fold_folding_link.sh (p0:Option Addr) (p1:Int) (p2:Int) (p3:Int) (R:Ending → World → Prop) (w:World):Prop:=
 CallN Tryd.prog 90 #[(.pointer p0),(.int .i64 p1),(.int .i64 p2),(.int .i64 p3)] [] w (fun r1 w2=>
  CallN Tryd.prog 90 #[(.pointer p0),(.int .i64 p3),(.int .i64 (Go.bits .xor .i64 p2 1)),(.int .i64 p1)] [] w2 (fun r4 w5=>
   LoopT (σ:=Option Addr × Unit) (p0,()) w5 fun l7 g8 w9 I10=>
    NilCk l7.1 fun a11=>
    LoadT (.sc .sl) w9 (a11.add 3) fun x12=>
    Br (decide ((((x12.n:Nat):Int):Int) > 0))
     (∃ S13:World → Prop,S13 w9.drew ∧
     (NilCk l7.1 fun a14=>
     LoadS S13 (.sc .sl) (a14.add 3) fun x15=>
     NilCk l7.1 fun a16=>
     LoadS S13 (.sc .sl) (a16.add 3) fun x17=>
     Idx x15.a x15.n 2 (IntKind.wrap .i64 (((x17.n:Nat):Int) - 1)) fun a18=>
     LoadS S13 (.agg [.int .i64,.int .i64]) a18 fun x19=>
     New w9.drew (.cells #[(.int .i64 0),(.int .i64 0)] 96) fun b20 w21=>
      S13 w21 ∧
      (StoreN w21 (Addr.mk b20 0 none) [(.int .i64 x19.1),(.int .i64 x19.2.1)] fun w22=>
       NilCk l7.1 fun a23=>
       LoadT (.sc .sl) w22.drew (a23.add 3) fun x24=>
       NilCk l7.1 fun a25=>
       LoadT (.sc .sl) w22.drew (a25.add 3) fun x26=>
       ∃ r27:Ty.den (.sc .sl),(Instr.sliceAt 106 (.slice x24.a x24.n x24.c) none (some (.int .i64 (IntKind.wrap .i64 (((x26.n:Nat):Int) - 1)))) none).run Tryd.prog w22.drew = .ok (Ty.val (.sc .sl) r27) w22.drew ∧
       NilCk l7.1 fun a28=>
       Store1 w22.drew (a28.add 3) (.slice r27.a r27.n r27.c) fun w29=>
       ∃ S30:World → Prop,S30 w29.drew ∧
       (NilCk l7.1 fun a31=>
       Idx (some (Addr.mk b20 0 none)) 2 1 0 fun a32=>
       LoadS S30 (.sc (.int .i64)) a32 fun x33=>
       NilCk l7.1 fun a34=>
       Idx (some (Addr.mk b20 0 none)) 2 1 1 fun a35=>
       LoadS S30 (.sc (.int .i64)) a35 fun x36=>
       CallT Tryd.prog 82 #[(.pointer (some (a31.add 0))),(.int .i64 x33)] (.sc (.int .i64)) w29.drew (fun r37 w38=>
         S30 w38 ∧
         (CallT Tryd.prog 82 #[(.pointer (some (a34.add 0))),(.int .i64 x36)] (.sc (.int .i64)) w38 (fun r40 w41=>
           S30 w41 ∧
           (Br ((r37:Int) == r40)
            (I10 (l7.1,()) w41)
            (NilCk l7.1 fun a43=>
            LoadT (.sc .sl) w41 ((a43.add 0).add 0) fun x44=>
            Idx x44.a x44.n 1 r40 fun a45=>
            Store1 w41 a45 (.int .i64 r37) fun w46=>
            NilCk l7.1 fun a47=>
            LoadT (.sc .sl) w46 (a47.add 2) fun x48=>
            Idx x48.a x48.n 1 r40 fun a49=>
            LoadT (.sc .sl) w46 a49 fun x50=>
            LoopT (σ:=Option Addr × Int × Sl × Int × Int × Unit) (l7.1,r37,x50,((x50.n:Nat):Int),0,()) w46 fun l51 g52 w53 I54=>
             Br (decide ((l51.2.2.2.2.1:Int) < l51.2.2.2.1))
              (Idx l51.2.2.1.a l51.2.2.1.n 1 l51.2.2.2.2.1 fun a55=>
              LoadT (.sc (.int .i64)) w53 a55 fun x56=>
              Br (decide ((x56:Int) ≥ 0))
               (CallN Tryd.prog 90 #[(.pointer l51.1),(.int .i64 l51.2.1),(.int .i64 l51.2.2.2.2.1),(.int .i64 x56)] [] w53 (fun r57 w58=>
                I54 (l51.1,l51.2.1,l51.2.2.1,l51.2.2.2.1,(IntKind.wrap .i64 (l51.2.2.2.2.1 + 1)),()) w58) (fun h59 w58=>R (.panicked h59) w58))
               (I54 (l51.1,l51.2.1,l51.2.2.1,l51.2.2.2.1,(IntKind.wrap .i64 (l51.2.2.2.2.1 + 1)),()) w53))
              (I10 (l51.1,()) w53)))) (fun h42 w41=>R (.panicked h42) w41))) (fun h39 w38=>R (.panicked h39) w38)))))
     (R (.returned (.tuple #[])) w9)) (fun h6 w5=>R (.panicked h6) w5)) (fun h3 w2=>R (.panicked h3) w2)
theorem fold_folding_link.calls (p0:Option Addr) (p1:Int) (p2:Int) (p3:Int) {R:Ending → World → Prop} {w:World} (h:fold_folding_link.sh p0 p1 p2 p3 R w):Calls Tryd.prog 67 #[(.pointer p0),(.int .i64 p1),(.int .i64 p2),(.int .i64 p3)] w R:=calls_of_wpc mixed Tryd.func67 (by kernel_rfl) (by kernel_rfl) ((show _ = wpc Tryd.prog fold_folding_link.ann fold_folding_link.body (fnKs Tryd.prog Tryd.f67 R) [] (env0 #[(.pointer p0),(.int .i64 p1),(.int .i64 p2),(.int .i64 p3)]) w by kernel_rfl).mp h)
noncomputable def fold_folding_path.ann:Ann where
 loops:=fun | 1=>[(0,.sc .ptr),(1,.sc (.int .i64)),(2,.sc .str),(3,.sc (.int .i64)),(11,.sc (.int .i64)),(12,.sc (.int .i64))] | _=>[]
 joins:=fun | 6=>some [(0,.sc .ptr),(1,.sc (.int .i64)),(2,.sc .str),(3,.sc (.int .i64)),(8,.sc (.int .i64)),(9,.sc (.int .i64)),(11,.sc (.int .i64)),(12,.sc (.int .i64))] | _=>none
noncomputable def fold_folding_path.body:Code:=match Tryd.f47.body with | some c=>c | none=>.skip
def fold_folding_path.sh (p0:Option Addr) (p1:Int) (p2:ByteArray) (p3:Int) (R:Ending → World → Prop) (w:World):Prop:=
 LoopT (σ:=Option Addr × Int × ByteArray × Int × Int × Int × Unit) (p0,p1,p2,p3,((p2.size:Nat):Int),0,()) w fun l1 g2 w3 I4=>
  Br (decide ((l1.2.2.2.2.2.1:Int) < l1.2.2.2.2.1))
   (Join (σ:=Option Addr × Int × ByteArray × Int × Int × Int × Int × Int × Unit) (fun j7 g6 w11=>
    StrIdx j7.2.2.1 j7.2.2.2.2.1 fun c12=>
    CallT Tryd.prog 59 #[(.int .u8 c12)] (.sc (.int .i64)) w11 (fun r13 w14=>
     CallN Tryd.prog 67 #[(.pointer j7.1),(.int .i64 j7.2.1),(.int .i64 r13),(.int .i64 j7.2.2.2.2.2.1)] [] w14 (fun r16 w17=>
      I4 (j7.1,j7.2.2.2.2.2.1,j7.2.2.1,j7.2.2.2.1,j7.2.2.2.2.2.2.1,(IntKind.wrap .i64 (j7.2.2.2.2.2.2.2.1 + 1)),()) w17) (fun h18 w17=>R (.panicked h18) w17)) (fun h15 w14=>R (.panicked h15) w14)) fun J5=>
    Br (decide ((l1.2.2.2.2.2.1:Int) < (IntKind.wrap .i64 (((l1.2.2.1.size:Nat):Int) - 1))))
     (CallT Tryd.prog 66 #[(.pointer l1.1)] (.sc (.int .i64)) w3 (fun r8 w9=>
      J5 (l1.1,l1.2.1,l1.2.2.1,l1.2.2.2.1,l1.2.2.2.2.2.1,r8,l1.2.2.2.2.1,l1.2.2.2.2.2.1,()) w9) (fun h10 w9=>R (.panicked h10) w9))
     (J5 (l1.1,l1.2.1,l1.2.2.1,l1.2.2.2.1,l1.2.2.2.2.2.1,l1.2.2.2.1,l1.2.2.2.2.1,l1.2.2.2.2.2.1,()) w3))
   (R (.returned (.tuple #[])) w3)
theorem fold_folding_path.calls (p0:Option Addr) (p1:Int) (p2:ByteArray) (p3:Int) {R:Ending → World → Prop} {w:World} (h:fold_folding_path.sh p0 p1 p2 p3 R w):Calls Tryd.prog 47 #[(.pointer p0),(.int .i64 p1),(.string p2),(.int .i64 p3)] w R:=calls_of_wpc mixed Tryd.func47 (by kernel_rfl) (by kernel_rfl) ((show _ = wpc Tryd.prog fold_folding_path.ann fold_folding_path.body (fnKs Tryd.prog Tryd.f47 R) [] (env0 #[(.pointer p0),(.int .i64 p1),(.string p2),(.int .i64 p3)]) w by kernel_rfl).mp h)
noncomputable def fold_start.ann:Ann where
 loops:=fun | _=>[]
 joins:=fun | _=>none
noncomputable def fold_start.body:Code:=match Tryd.f46.body with | some c=>c | none=>.skip
def fold_start.sh (p0:Int) (R:Ending → World → Prop) (w:World):Prop:=
 New w (.cells #[(.slice none 0 0),(.int .i64 (IntKind.wrap .i64 (2 * p0))),(.slice none 0 0),(.slice none 0 0)] 125) fun b1 w2=>
 CallT Tryd.prog 66 #[(.pointer (some (Addr.mk b1 0 none)))] (.sc (.int .i64)) w2 (fun r3 w4=>
  R (.returned (.pointer (some (Addr.mk b1 0 none)))) w4) (fun h5 w4=>R (.panicked h5) w4)
theorem fold_start.calls (p0:Int) {R:Ending → World → Prop} {w:World} (h:fold_start.sh p0 R w):Calls Tryd.prog 46 #[(.int .i64 p0)] w R:=calls_of_wpc mixed Tryd.func46 (by kernel_rfl) (by kernel_rfl) ((show _ = wpc Tryd.prog fold_start.ann fold_start.body (fnKs Tryd.prog Tryd.f46 R) [] (env0 #[(.int .i64 p0)]) w by kernel_rfl).mp h)
noncomputable def fold_folding_made.ann:Ann where
 loops:=fun | 4=>[(0,.sc .ptr),(1,.sc (.int .i64)),(4,.sc .adr),(5,.sc .adr),(6,.sc .sl),(18,.sc (.int .i64)),(19,.sc (.int .i64))] | 9=>[(0,.sc .ptr),(1,.sc (.int .i64)),(4,.sc .adr),(5,.sc .adr),(6,.sc .sl),(7,.sc (.int .i64)),(18,.sc (.int .i64)),(19,.sc (.int .i64)),(43,.sc .sl),(44,.sc (.int .i64)),(45,.sc (.int .i64))] | _=>[]
 joins:=fun | _=>none
noncomputable def fold_folding_made.body:Code:=match Tryd.f49.body with | some c=>c | none=>.skip
def fold_folding_made.sh (p0:Option Addr) (p1:Int) (Rn:List Deferred → List Value → World → Prop) (Rp:List PanicEntry → List Deferred → World → Prop) (w:World):Prop:=
 New w (.cells #[(.int .i64 0),(.int .i64 0),(.slice none 0 0),(.slice none 0 0)] 27) fun b1 w2=>
 New w2 (.cells #[(.int .i64 0)] 28) fun b3 w4=>
 NilCk p0 fun a5=>
 LoadT (.sc .sl) w4 (a5.add 2) fun x6=>
 RunT Tryd.prog (.sc .sl) (Instr.makeSlice 25 (.int .i64 ((x6.n:Nat):Int)) (.int .i64 ((x6.n:Nat):Int))) w4 fun r7 w8=>
 LoopT (σ:=Option Addr × Int × Addr × Addr × Sl × Int × Int × Unit) (p0,p1,(Addr.mk b1 0 none),(Addr.mk b3 0 none),r7,((r7.n:Nat):Int),0,()) w8 fun l9 g10 w11 I12=>
  Br (decide ((l9.2.2.2.2.2.2.1:Int) < l9.2.2.2.2.2.1))
   (NilCk l9.1 fun a13=>
   CallT Tryd.prog 82 #[(.pointer (some (a13.add 0))),(.int .i64 l9.2.2.2.2.2.2.1)] (.sc (.int .i64)) w11 (fun r14 w15=>
    Br ((r14:Int) != l9.2.2.2.2.2.2.1)
     (I12 (l9.1,l9.2.1,l9.2.2.1,l9.2.2.2.1,l9.2.2.2.2.1,l9.2.2.2.2.2.1,(IntKind.wrap .i64 (l9.2.2.2.2.2.2.1 + 1)),()) w15)
     (NilCk l9.1 fun a17=>
     LoadT (.sc .sl) w15 (a17.add 2) fun x18=>
     Idx x18.a x18.n 1 l9.2.2.2.2.2.2.1 fun a19=>
     LoadT (.sc .sl) w15 a19 fun x20=>
     CallT Tryd.prog 83 #[(.slice x20.a x20.n x20.c)] (.sc .sl) w15 (fun r21 w22=>
      Idx l9.2.2.2.2.1.a l9.2.2.2.2.1.n 1 l9.2.2.2.2.2.2.1 fun a24=>
      Store1 w22 a24 (.slice r21.a r21.n r21.c) fun w25=>
      Idx l9.2.2.2.2.1.a l9.2.2.2.2.1.n 1 l9.2.2.2.2.2.2.1 fun a26=>
      LoadT (.sc .sl) w25 a26 fun x27=>
      LoopT (σ:=Option Addr × Int × Addr × Addr × Sl × Int × Int × Int × Sl × Int × Int × Unit) (l9.1,l9.2.1,l9.2.2.1,l9.2.2.2.1,l9.2.2.2.2.1,l9.2.2.2.2.2.2.1,l9.2.2.2.2.2.1,l9.2.2.2.2.2.2.1,x27,((x27.n:Nat):Int),0,()) w25 fun l28 g29 w30 I31=>
       Br (decide ((l28.2.2.2.2.2.2.2.2.2.2.1:Int) < l28.2.2.2.2.2.2.2.2.2.1))
        (Idx l28.2.2.2.2.2.2.2.2.1.a l28.2.2.2.2.2.2.2.2.1.n 1 l28.2.2.2.2.2.2.2.2.2.2.1 fun a32=>
        LoadT (.sc (.int .i64)) w30 a32 fun x33=>
        Br (decide ((x33:Int) ≥ 0))
         (∃ S34:World → Prop,S34 w30.drew ∧
         (Idx l28.2.2.2.2.1.a l28.2.2.2.2.1.n 1 l28.2.2.2.2.2.1 fun a35=>
         LoadS S34 (.sc .sl) a35 fun x36=>
         NilCk l28.1 fun a37=>
         CallT Tryd.prog 82 #[(.pointer (some (a37.add 0))),(.int .i64 x33)] (.sc (.int .i64)) w30.drew (fun r38 w39=>
           S34 w39 ∧
           (Idx x36.a x36.n 1 l28.2.2.2.2.2.2.2.2.2.2.1 fun a41=>
           Store1 w39 a41 (.int .i64 r38) fun w42=>
            I31 (l28.1,l28.2.1,l28.2.2.1,l28.2.2.2.1,l28.2.2.2.2.1,l28.2.2.2.2.2.1,l28.2.2.2.2.2.2.1,l28.2.2.2.2.2.2.2.1,l28.2.2.2.2.2.2.2.2.1,l28.2.2.2.2.2.2.2.2.2.1,(IntKind.wrap .i64 (l28.2.2.2.2.2.2.2.2.2.2.1 + 1)),()) w42)) (fun h40 w39=>Rp h40 (({ target:=.fn (.func 81) #[(.pointer (some (Addr.mk b1 0 none))),(.pointer (some (Addr.mk b3 0 none)))],args:=#[] }:Deferred) :: []) w39)))
         (I31 (l28.1,l28.2.1,l28.2.2.1,l28.2.2.2.1,l28.2.2.2.2.1,l28.2.2.2.2.2.1,l28.2.2.2.2.2.2.1,l28.2.2.2.2.2.2.2.1,l28.2.2.2.2.2.2.2.2.1,l28.2.2.2.2.2.2.2.2.2.1,(IntKind.wrap .i64 (l28.2.2.2.2.2.2.2.2.2.2.1 + 1)),()) w30))
        (I12 (l28.1,l28.2.1,l28.2.2.1,l28.2.2.2.1,l28.2.2.2.2.1,l28.2.2.2.2.2.2.1,(IntKind.wrap .i64 (l28.2.2.2.2.2.2.2.1 + 1)),()) w30)) (fun h23 w22=>Rp h23 (({ target:=.fn (.func 81) #[(.pointer (some (Addr.mk b1 0 none))),(.pointer (some (Addr.mk b3 0 none)))],args:=#[] }:Deferred) :: []) w22))) (fun h16 w15=>Rp h16 (({ target:=.fn (.func 81) #[(.pointer (some (Addr.mk b1 0 none))),(.pointer (some (Addr.mk b3 0 none)))],args:=#[] }:Deferred) :: []) w15))
   (∃ S43:World → Prop,S43 w11.drew ∧
   (NilCk l9.1 fun a44=>
   LoadS S43 (.sc (.int .i64)) (a44.add 1) fun x45=>
   NilCk l9.1 fun a46=>
   CallT Tryd.prog 82 #[(.pointer (some (a46.add 0))),(.int .i64 l9.2.1)] (.sc (.int .i64)) w11.drew (fun r47 w48=>
     S43 w48 ∧
     (CallT Tryd.prog 84 #[(.int .i64 x45),(.slice l9.2.2.2.2.1.a l9.2.2.2.2.1.n l9.2.2.2.2.1.c),(.int .i64 r47)] (.agg [.int .i64,.int .i64,.sl,.sl]) w48 (fun r50 w51=>
       S43 w51 ∧
       (StoreN w51 l9.2.2.1 [(.int .i64 r50.1),(.int .i64 r50.2.1),(.slice r50.2.2.1.a r50.2.2.1.n r50.2.2.1.c),(.slice r50.2.2.2.1.a r50.2.2.2.1.n r50.2.2.2.1.c)] fun w53=>
        S43 w53 ∧
        (Store1 w53 l9.2.2.2.1 (.int .i64 0) fun w54=>
         Rn (({ target:=.fn (.func 81) #[(.pointer (some (Addr.mk b1 0 none))),(.pointer (some (Addr.mk b3 0 none)))],args:=#[] }:Deferred) :: []) [(.pointer (some l9.2.2.1)),(.pointer (some l9.2.2.2.1))] w54))) (fun h52 w51=>Rp h52 (({ target:=.fn (.func 81) #[(.pointer (some (Addr.mk b1 0 none))),(.pointer (some (Addr.mk b3 0 none)))],args:=#[] }:Deferred) :: []) w51))) (fun h49 w48=>Rp h49 (({ target:=.fn (.func 81) #[(.pointer (some (Addr.mk b1 0 none))),(.pointer (some (Addr.mk b3 0 none)))],args:=#[] }:Deferred) :: []) w48)))
theorem fold_folding_made.eq (p0:Option Addr) (p1:Int) (Rn:List Deferred → List Value → World → Prop) (Rp:List PanicEntry → List Deferred → World → Prop) (w:World):fold_folding_made.sh p0 p1 Rn Rp w = wpc Tryd.prog fold_folding_made.ann fold_folding_made.body (defKs [4,5] Rn Rp) [] (env0 #[(.pointer p0),(.int .i64 p1)]) w:=by kernel_rfl
noncomputable def fold_folding_made_c1_nil.ann:Ann where
 loops:=fun | _=>[]
 joins:=fun | _=>none
noncomputable def fold_folding_made_c1_nil.body:Code:=match Tryd.f81.body with | some (.seq _ c)=>c | _=>.skip
def fold_folding_made_c1_nil.sh (q0:Addr) (q1:Addr) (R:Ending → World → Prop) (w:World):Prop:=
 RunT Tryd.prog (.sc .bool) (do eqGuard .neq 20 (.tmp 6) (.const Value.nilIface) Value.nilIface Value.nilIface; binOp .neq 20 Value.nilIface Value.nilIface) w fun r1 w2=>
 Br r1
  (RunN Tryd.prog [.agg [],.sc .bool] (Instr.typeAssert Value.nilIface 20 128 true) w2 fun r3 w4=>
  New w4 (.cells #[] 128) fun b5 w6=>
  StoreN w6 (Addr.mk b5 0 none) [] fun w7=>
  Br (!r3.2.1)
   (False)
   (StoreN w7 q0 [(.int .i64 0),(.int .i64 0),(.slice none 0 0),(.slice none 0 0)] fun w8=>
   Store1 w8 q1 (.int .i64 2) fun w9=>
   R (.returned (.tuple #[])) w9))
  (R (.returned (.tuple #[])) w2)
theorem fold_folding_made_c1_nil.eq (q0:Addr) (q1:Addr) (R:Ending → World → Prop) (w:World):fold_folding_made_c1_nil.sh q0 q1 R w = wpc Tryd.prog fold_folding_made_c1_nil.ann fold_folding_made_c1_nil.body (fnKs Tryd.prog Tryd.f81 R) [] (upd (upd (env0 #[(.pointer (some q0)),(.pointer (some q1))]) 5 Value.nilIface) 2 Value.nilIface) w:=by kernel_rfl
noncomputable def fold_folding_made_c1.ann:Ann where
 loops:=fun | _=>[]
 joins:=fun | _=>none
noncomputable def fold_folding_made_c1.body:Code:=match Tryd.f81.body with | some (.seq _ c)=>c | _=>.skip
def fold_folding_made_c1.sh (q0:Addr) (q1:Addr) (R:Ending → World → Prop) (w:World):Prop:=
 RunT Tryd.prog (.sc .bool) (do eqGuard .neq 20 (.tmp 6) (.const Value.nilIface) (.iface 128 (.agg #[])) Value.nilIface; binOp .neq 20 (.iface 128 (.agg #[])) Value.nilIface) w fun r1 w2=>
 Br r1
  (RunN Tryd.prog [.agg [],.sc .bool] (Instr.typeAssert (.iface 128 (.agg #[])) 20 128 true) w2 fun r3 w4=>
  New w4 (.cells #[] 128) fun b5 w6=>
  StoreN w6 (Addr.mk b5 0 none) [] fun w7=>
  Br (!r3.2.1)
   (R (.panicked [{ v:=(.iface 128 (.agg #[])),recovered:=false }]) w7)
   (StoreN w7 q0 [(.int .i64 0),(.int .i64 0),(.slice none 0 0),(.slice none 0 0)] fun w8=>
   Store1 w8 q1 (.int .i64 2) fun w9=>
   R (.returned (.tuple #[])) w9))
  (R (.returned (.tuple #[])) w2)
theorem fold_folding_made_c1.eq (q0:Addr) (q1:Addr) (R:Ending → World → Prop) (w:World):fold_folding_made_c1.sh q0 q1 R w = wpc Tryd.prog fold_folding_made_c1.ann fold_folding_made_c1.body (fnKs Tryd.prog Tryd.f81 R) [] (upd (upd (env0 #[(.pointer (some q0)),(.pointer (some q1))]) 5 (.iface 128 (.agg #[]))) 2 (.iface 128 (.agg #[]))) w:=by kernel_rfl
noncomputable def fold_numbered.ann:Ann where
 loops:=fun | 3=>[(0,.sc (.int .i64)),(1,.sc .sl),(2,.sc (.int .i64)),(6,.sc .adr),(7,.sc .sl),(22,.sc .sl),(23,.sc (.int .i64)),(24,.sc (.int .i64))] | 8=>[(0,.sc (.int .i64)),(1,.sc .sl),(2,.sc (.int .i64)),(6,.sc .adr),(7,.sc .sl)] | 12=>[(0,.sc (.int .i64)),(1,.sc .sl),(2,.sc (.int .i64)),(6,.sc .adr),(7,.sc .sl),(10,.sc (.int .i64)),(63,.sc .sl),(64,.sc (.int .i64)),(65,.sc (.int .i64))] | 23=>[(0,.sc (.int .i64)),(1,.sc .sl),(6,.sc .adr),(13,.sc .adr),(14,.sc .map),(15,.sc .sl),(16,.sc (.int .i64))] | 27=>[(0,.sc (.int .i64)),(1,.sc .sl),(6,.sc .adr),(13,.sc .adr),(14,.sc .map),(15,.sc .sl),(16,.sc (.int .i64)),(17,.sc .sl),(122,.sc .sl),(123,.sc (.int .i64)),(124,.sc (.int .i64))] | _=>[]
 joins:=fun | 6=>some [(0,.sc (.int .i64)),(1,.sc .sl),(2,.sc (.int .i64)),(6,.sc .adr),(7,.sc .sl),(8,.sc (.int .i64)),(22,.sc .sl),(23,.sc (.int .i64)),(24,.sc (.int .i64)),(40,.sc .bool)] | 17=>some [(0,.sc (.int .i64)),(1,.sc .sl),(2,.sc (.int .i64)),(6,.sc .adr),(7,.sc .sl),(10,.sc (.int .i64)),(12,.sc (.int .i64)),(63,.sc .sl),(64,.sc (.int .i64)),(65,.sc (.int .i64)),(95,.sc .bool)] | 36=>some [(0,.sc (.int .i64)),(1,.sc .sl),(6,.sc .adr),(13,.sc .adr),(14,.sc .map),(15,.sc .sl),(16,.sc (.int .i64)),(17,.sc .sl),(18,.sc (.int .i64)),(20,.sc (.int .i64)),(122,.sc .sl),(123,.sc (.int .i64)),(124,.sc (.int .i64))] | _=>none
noncomputable def fold_numbered.body:Code:=match Tryd.f84.body with | some c=>c | none=>.skip
def fold_numbered.sh (p0:Int) (p1:Sl) (p2:Int) (R:Ending → World → Prop) (w:World):Prop:=
 New w (.cells #[(.int .i64 0),(.int .i64 0),(.slice none 0 0),(.slice none 0 0)] 27) fun b1 w2=>
 LoopT (σ:=Int × Sl × Int × Addr × Sl × Sl × Int × Int × Unit) (p0,p1,p2,(Addr.mk b1 0 none),⟨none,0,0⟩,p1,((p1.n:Nat):Int),0,()) w2 fun l3 g4 w5 I6=>
  Br (decide ((l3.2.2.2.2.2.2.2.1:Int) < l3.2.2.2.2.2.2.1))
   (Idx l3.2.2.2.2.2.1.a l3.2.2.2.2.2.1.n 1 l3.2.2.2.2.2.2.2.1 fun a7=>
   LoadT (.sc .sl) w5 a7 fun x8=>
   Join (σ:=Int × Sl × Int × Addr × Sl × Int × Sl × Int × Int × Bool × Unit) (fun j11 g10 w17=>
    Br j11.2.2.2.2.2.2.2.2.2.1
     (New w17 (.cells #[(.int .i64 j11.2.2.2.2.2.1)] 3) fun b18 w19=>
     RunT Tryd.prog (.sc .sl) (Builtin.append_ #[85,85] 85 #[(.slice j11.2.2.2.2.1.a j11.2.2.2.2.1.n j11.2.2.2.2.1.c),(.slice (some (Addr.mk b18 0 none)) 1 1)]) w19 fun r20 w21=>
     I6 (j11.1,j11.2.1,j11.2.2.1,j11.2.2.2.1,r20,j11.2.2.2.2.2.2.1,j11.2.2.2.2.2.2.2.1,(IntKind.wrap .i64 (j11.2.2.2.2.2.2.2.2.1 + 1)),()) w21)
     (I6 (j11.1,j11.2.1,j11.2.2.1,j11.2.2.2.1,j11.2.2.2.2.1,j11.2.2.2.2.2.2.1,j11.2.2.2.2.2.2.2.1,(IntKind.wrap .i64 (j11.2.2.2.2.2.2.2.2.1 + 1)),()) w17)) fun J9=>
    Br ((l3.2.2.2.2.2.2.2.1:Int) != l3.2.2.1)
     (RunT Tryd.prog (.sc .bool) (do eqGuard .neq 85 (.tmp 33) (.const (.slice none 0 0)) (.slice x8.a x8.n x8.c) (.slice none 0 0); binOp .neq 85 (.slice x8.a x8.n x8.c) (.slice none 0 0)) w5 fun r12 w13=>
     Br r12
      (CallT Tryd.prog 62 #[(.slice x8.a x8.n x8.c)] (.sc (.int .i64)) w13 (fun r14 w15=>
       J9 (l3.1,l3.2.1,l3.2.2.1,l3.2.2.2.1,l3.2.2.2.2.1,l3.2.2.2.2.2.2.2.1,l3.2.2.2.2.2.1,l3.2.2.2.2.2.2.1,l3.2.2.2.2.2.2.2.1,((r14:Int) == 1),()) w15) (fun h16 w15=>R (.panicked h16) w15))
      (J9 (l3.1,l3.2.1,l3.2.2.1,l3.2.2.2.1,l3.2.2.2.2.1,l3.2.2.2.2.2.2.2.1,l3.2.2.2.2.2.1,l3.2.2.2.2.2.2.1,l3.2.2.2.2.2.2.2.1,false,()) w13))
     (J9 (l3.1,l3.2.1,l3.2.2.1,l3.2.2.2.1,l3.2.2.2.2.1,l3.2.2.2.2.2.2.2.1,l3.2.2.2.2.2.1,l3.2.2.2.2.2.2.1,l3.2.2.2.2.2.2.2.1,false,()) w5))
   (LoopT (σ:=Int × Sl × Int × Addr × Sl × Unit) (l3.1,l3.2.1,l3.2.2.1,l3.2.2.2.1,l3.2.2.2.2.1,()) w5 fun l22 g23 w24 I25=>
    Br (decide ((((l22.2.2.2.2.1.n:Nat):Int):Int) > 0))
     (Idx l22.2.2.2.2.1.a l22.2.2.2.2.1.n 1 (IntKind.wrap .i64 (((l22.2.2.2.2.1.n:Nat):Int) - 1)) fun a26=>
     LoadT (.sc (.int .i64)) w24 a26 fun x27=>
     RunT Tryd.prog (.sc .sl) (Instr.sliceAt 85 (.slice l22.2.2.2.2.1.a l22.2.2.2.2.1.n l22.2.2.2.2.1.c) none (some (.int .i64 (IntKind.wrap .i64 (((l22.2.2.2.2.1.n:Nat):Int) - 1)))) none) w24 fun r28 w29=>
     Idx l22.2.1.a l22.2.1.n 1 x27 fun a30=>
     LoadT (.sc .sl) w29 a30 fun x31=>
     LoopT (σ:=Int × Sl × Int × Addr × Sl × Int × Sl × Int × Int × Unit) (l22.1,l22.2.1,l22.2.2.1,l22.2.2.2.1,r28,x27,x31,((x31.n:Nat):Int),0,()) w29 fun l32 g33 w34 I35=>
      Br (decide ((l32.2.2.2.2.2.2.2.2.1:Int) < l32.2.2.2.2.2.2.2.1))
       (Idx l32.2.2.2.2.2.2.1.a l32.2.2.2.2.2.2.1.n 1 l32.2.2.2.2.2.2.2.2.1 fun a36=>
       LoadT (.sc (.int .i64)) w34 a36 fun x37=>
       Br (decide ((x37:Int) ≥ 0))
        (∃ S38:World → Prop,S38 w34.drew ∧
        (Idx l32.2.1.a l32.2.1.n 1 l32.2.2.2.2.2.1 fun a39=>
        LoadS S38 (.sc .sl) a39 fun x40=>
        Idx l32.2.1.a l32.2.1.n 1 x37 fun a41=>
        LoadS S38 (.sc .sl) a41 fun x42=>
        Idx x40.a x40.n 1 l32.2.2.2.2.2.2.2.2.1 fun a43=>
        Store1 w34.drew a43 (.int .i64 (-1)) fun w44=>
         S38 w44 ∧
         (Idx x42.a x42.n 1 (Go.bits .xor .i64 l32.2.2.2.2.2.2.2.2.1 1) fun a45=>
         Store1 w44 a45 (.int .i64 (-1)) fun w46=>
          Join (σ:=Int × Sl × Int × Addr × Sl × Int × Int × Sl × Int × Int × Bool × Unit) (fun j49 g48 w55=>
           Br j49.2.2.2.2.2.2.2.2.2.2.1
            (New w55 (.cells #[(.int .i64 j49.2.2.2.2.2.2.1)] 3) fun b56 w57=>
            RunT Tryd.prog (.sc .sl) (Builtin.append_ #[85,85] 85 #[(.slice j49.2.2.2.2.1.a j49.2.2.2.2.1.n j49.2.2.2.2.1.c),(.slice (some (Addr.mk b56 0 none)) 1 1)]) w57 fun r58 w59=>
            I35 (j49.1,j49.2.1,j49.2.2.1,j49.2.2.2.1,r58,j49.2.2.2.2.2.1,j49.2.2.2.2.2.2.2.1,j49.2.2.2.2.2.2.2.2.1,(IntKind.wrap .i64 (j49.2.2.2.2.2.2.2.2.2.1 + 1)),()) w59)
            (I35 (j49.1,j49.2.1,j49.2.2.1,j49.2.2.2.1,j49.2.2.2.2.1,j49.2.2.2.2.2.1,j49.2.2.2.2.2.2.2.1,j49.2.2.2.2.2.2.2.2.1,(IntKind.wrap .i64 (j49.2.2.2.2.2.2.2.2.2.1 + 1)),()) w55)) fun J47=>
           Br ((x37:Int) != l32.2.2.1)
            (Idx l32.2.1.a l32.2.1.n 1 x37 fun a50=>
            LoadT (.sc .sl) w46 a50 fun x51=>
            CallT Tryd.prog 62 #[(.slice x51.a x51.n x51.c)] (.sc (.int .i64)) w46 (fun r52 w53=>
             J47 (l32.1,l32.2.1,l32.2.2.1,l32.2.2.2.1,l32.2.2.2.2.1,l32.2.2.2.2.2.1,x37,l32.2.2.2.2.2.2.1,l32.2.2.2.2.2.2.2.1,l32.2.2.2.2.2.2.2.2.1,((r52:Int) == 1),()) w53) (fun h54 w53=>R (.panicked h54) w53))
            (J47 (l32.1,l32.2.1,l32.2.2.1,l32.2.2.2.1,l32.2.2.2.2.1,l32.2.2.2.2.2.1,x37,l32.2.2.2.2.2.2.1,l32.2.2.2.2.2.2.2.1,l32.2.2.2.2.2.2.2.2.1,false,()) w46))))
        (I35 (l32.1,l32.2.1,l32.2.2.1,l32.2.2.2.1,l32.2.2.2.2.1,l32.2.2.2.2.2.1,l32.2.2.2.2.2.2.1,l32.2.2.2.2.2.2.2.1,(IntKind.wrap .i64 (l32.2.2.2.2.2.2.2.2.1 + 1)),()) w34))
       (I25 (l32.1,l32.2.1,l32.2.2.1,l32.2.2.2.1,l32.2.2.2.2.1,()) w34))
     (New w24 (.cells #[(.int .i64 0),(.int .i64 0),(.slice none 0 0),(.slice none 0 0)] 27) fun b60 w61=>
     StoreN w61 (Addr.mk b60 0 none) [(.int .i64 l22.1),(.int .i64 0),(.slice none 0 0),(.slice none 0 0)] fun w62=>
     New w62 (.map #[] 0) fun b63 w64=>
     RunU Tryd.prog (Instr.mapUpdate 139 (.map (some b63)) (.int .i64 l22.2.2.1) (.int .i64 0)) w64 fun w65=>
     New w65 (.cells #[(.int .i64 l22.2.2.1)] 3) fun b66 w67=>
     LoopT (σ:=Int × Sl × Addr × Addr × Option Nat × Sl × Int × Unit) (l22.1,l22.2.1,l22.2.2.2.1,(Addr.mk b60 0 none),(some b63),⟨(some (Addr.mk b66 0 none)),1,1⟩,0,()) w67 fun l68 g69 w70 I71=>
      Br (decide ((l68.2.2.2.2.2.2.1:Int) < ((l68.2.2.2.2.2.1.n:Nat):Int)))
       (RunT Tryd.prog (.sc .sl) (Instr.makeSlice 85 (.int .i64 l68.1) (.int .i64 l68.1)) w70 fun r72 w73=>
       Idx l68.2.2.2.2.2.1.a l68.2.2.2.2.2.1.n 1 l68.2.2.2.2.2.2.1 fun a74=>
       LoadT (.sc (.int .i64)) w73 a74 fun x75=>
       Idx l68.2.1.a l68.2.1.n 1 x75 fun a76=>
       LoadT (.sc .sl) w73 a76 fun x77=>
       LoopT (σ:=Int × Sl × Addr × Addr × Option Nat × Sl × Int × Sl × Sl × Int × Int × Unit) (l68.1,l68.2.1,l68.2.2.1,l68.2.2.2.1,l68.2.2.2.2.1,l68.2.2.2.2.2.1,l68.2.2.2.2.2.2.1,r72,x77,((x77.n:Nat):Int),0,()) w73 fun l78 g79 w80 I81=>
        Br (decide ((l78.2.2.2.2.2.2.2.2.2.2.1:Int) < l78.2.2.2.2.2.2.2.2.2.1))
         (Idx l78.2.2.2.2.2.2.2.2.1.a l78.2.2.2.2.2.2.2.2.1.n 1 l78.2.2.2.2.2.2.2.2.2.2.1 fun a82=>
         LoadT (.sc (.int .i64)) w80 a82 fun x83=>
         Idx l78.2.2.2.2.2.2.2.1.a l78.2.2.2.2.2.2.2.1.n 1 l78.2.2.2.2.2.2.2.2.2.2.1 fun a84=>
         Store1 w80 a84 (.int .i64 (-1)) fun w85=>
         Br (decide ((x83:Int) < 0))
          (I81 (l78.1,l78.2.1,l78.2.2.1,l78.2.2.2.1,l78.2.2.2.2.1,l78.2.2.2.2.2.1,l78.2.2.2.2.2.2.1,l78.2.2.2.2.2.2.2.1,l78.2.2.2.2.2.2.2.2.1,l78.2.2.2.2.2.2.2.2.2.1,(IntKind.wrap .i64 (l78.2.2.2.2.2.2.2.2.2.2.1 + 1)),()) w85)
          (RunN Tryd.prog [.sc (.int .i64),.sc .bool] (Instr.lookup 139 (.map l78.2.2.2.2.1) (.int .i64 x83) true) w85 fun r86 w87=>
          Join (σ:=Int × Sl × Addr × Addr × Option Nat × Sl × Int × Sl × Int × Int × Sl × Int × Int × Unit) (fun j90 g89 w96=>
           Idx j90.2.2.2.2.2.2.2.1.a j90.2.2.2.2.2.2.2.1.n 1 j90.2.2.2.2.2.2.2.2.1 fun a97=>
           Store1 w96 a97 (.int .i64 j90.2.2.2.2.2.2.2.2.2.1) fun w98=>
           I81 (j90.1,j90.2.1,j90.2.2.1,j90.2.2.2.1,j90.2.2.2.2.1,j90.2.2.2.2.2.1,j90.2.2.2.2.2.2.1,j90.2.2.2.2.2.2.2.1,j90.2.2.2.2.2.2.2.2.2.2.1,j90.2.2.2.2.2.2.2.2.2.2.2.1,(IntKind.wrap .i64 (j90.2.2.2.2.2.2.2.2.2.2.2.2.1 + 1)),()) w98) fun J88=>
           Br (!r86.2.1)
            (RunU Tryd.prog (Instr.mapUpdate 139 (.map l78.2.2.2.2.1) (.int .i64 x83) (.int .i64 ((l78.2.2.2.2.2.1.n:Nat):Int))) w87 fun w91=>
            New w91 (.cells #[(.int .i64 x83)] 3) fun b92 w93=>
            RunT Tryd.prog (.sc .sl) (Builtin.append_ #[85,85] 85 #[(.slice l78.2.2.2.2.2.1.a l78.2.2.2.2.2.1.n l78.2.2.2.2.2.1.c),(.slice (some (Addr.mk b92 0 none)) 1 1)]) w93 fun r94 w95=>
            J88 (l78.1,l78.2.1,l78.2.2.1,l78.2.2.2.1,l78.2.2.2.2.1,r94,l78.2.2.2.2.2.2.1,l78.2.2.2.2.2.2.2.1,l78.2.2.2.2.2.2.2.2.2.2.1,((l78.2.2.2.2.2.1.n:Nat):Int),l78.2.2.2.2.2.2.2.2.1,l78.2.2.2.2.2.2.2.2.2.1,l78.2.2.2.2.2.2.2.2.2.2.1,()) w95)
            (J88 (l78.1,l78.2.1,l78.2.2.1,l78.2.2.2.1,l78.2.2.2.2.1,l78.2.2.2.2.2.1,l78.2.2.2.2.2.2.1,l78.2.2.2.2.2.2.2.1,l78.2.2.2.2.2.2.2.2.2.2.1,r86.1,l78.2.2.2.2.2.2.2.2.1,l78.2.2.2.2.2.2.2.2.2.1,l78.2.2.2.2.2.2.2.2.2.2.1,()) w87)))
         (LoadT (.sc .sl) w80 (l78.2.2.2.1.add 2) fun x99=>
         New w80 (.cells #[(.bool ((l78.2.2.2.2.2.2.1:Int) == 0))] 4) fun b100 w101=>
         RunT Tryd.prog (.sc .sl) (Builtin.append_ #[24,24] 24 #[(.slice x99.a x99.n x99.c),(.slice (some (Addr.mk b100 0 none)) 1 1)]) w101 fun r102 w103=>
         Store1 w103 (l78.2.2.2.1.add 2) (.slice r102.a r102.n r102.c) fun w104=>
         LoadT (.sc .sl) w104 (l78.2.2.2.1.add 3) fun x105=>
         New w104 (.cells #[(.slice l78.2.2.2.2.2.2.2.1.a l78.2.2.2.2.2.2.2.1.n l78.2.2.2.2.2.2.2.1.c)] 85) fun b106 w107=>
         RunT Tryd.prog (.sc .sl) (Builtin.append_ #[25,25] 25 #[(.slice x105.a x105.n x105.c),(.slice (some (Addr.mk b106 0 none)) 1 1)]) w107 fun r108 w109=>
         Store1 w109 (l78.2.2.2.1.add 3) (.slice r108.a r108.n r108.c) fun w110=>
         Br (decide ((((l78.2.2.2.2.2.1.n:Nat):Int):Int) > 2000))
          (R (.panicked [{ v:=(.iface 128 (.agg #[])),recovered:=false }]) w110)
          (I71 (l78.1,l78.2.1,l78.2.2.1,l78.2.2.2.1,l78.2.2.2.2.1,l78.2.2.2.2.2.1,(IntKind.wrap .i64 (l78.2.2.2.2.2.2.1 + 1)),()) w110)))
       (LoadT (.agg [.int .i64,.int .i64,.sl,.sl]) w70 l68.2.2.2.1 fun x111=>
       StoreN w70 l68.2.2.1 [(.int .i64 x111.1),(.int .i64 x111.2.1),(.slice x111.2.2.1.a x111.2.2.1.n x111.2.2.1.c),(.slice x111.2.2.2.1.a x111.2.2.2.1.n x111.2.2.2.1.c)] fun w112=>
       LoadT (.agg [.int .i64,.int .i64,.sl,.sl]) w112 l68.2.2.1 fun x113=>
       R (.returned (.agg #[(.int .i64 x113.1),(.int .i64 x113.2.1),(.slice x113.2.2.1.a x113.2.2.1.n x113.2.2.1.c),(.slice x113.2.2.2.1.a x113.2.2.2.1.n x113.2.2.2.1.c)])) w112)))
theorem fold_numbered.calls (p0:Int) (p1:Sl) (p2:Int) {R:Ending → World → Prop} {w:World} (h:fold_numbered.sh p0 p1 p2 R w):Calls Tryd.prog 84 #[(.int .i64 p0),(.slice p1.a p1.n p1.c),(.int .i64 p2)] w R:=calls_of_wpc mixed Tryd.func84 (by kernel_rfl) (by kernel_rfl) ((show _ = wpc Tryd.prog fold_numbered.ann fold_numbered.body (fnKs Tryd.prog Tryd.f84 R) [] (env0 #[(.int .i64 p0),(.slice p1.a p1.n p1.c),(.int .i64 p2)]) w by kernel_rfl).mp h)
noncomputable def fold_leads.ann:Ann where
 loops:=fun | 3=>[(2,.sc .adr),(5,.sc (.int .i64)),(10,.sc .sl),(11,.sc (.int .i64)),(12,.sc (.int .i64))] | _=>[]
 joins:=fun | _=>none
noncomputable def fold_leads.body:Code:=match Tryd.f58.body with | some c=>c | none=>.skip
def fold_leads.sh (p0_0:Int) (p0_1:Int) (p0_2:Sl) (p0_3:Sl) (p1:ByteArray) (R:Ending → World → Prop) (w:World):Prop:=
 New w (.cells #[(.int .i64 p0_0),(.int .i64 p0_1),(.slice p0_2.a p0_2.n p0_2.c),(.slice p0_3.a p0_3.n p0_3.c)] 27) fun b1 w2=>
 CallT Tryd.prog 48 #[(.string p1)] (.sc .str) w2 (fun r3 w4=>
  RunT Tryd.prog (.sc .sl) (convert 9 87 (.string r3)) w4 fun r6 w7=>
  LoopT (σ:=Addr × Int × Sl × Int × Int × Unit) ((Addr.mk b1 0 none),0,r6,((r6.n:Nat):Int),0,()) w7 fun l8 g9 w10 I11=>
   Br (decide ((l8.2.2.2.2.1:Int) < l8.2.2.2.1))
    (Idx l8.2.2.1.a l8.2.2.1.n 1 l8.2.2.2.2.1 fun a12=>
    LoadT (.sc (.int .u8)) w10 a12 fun x13=>
    ∃ S14:World → Prop,S14 w10.drew ∧
    (LoadS S14 (.sc .sl) (l8.1.add 3) fun x15=>
    Idx x15.a x15.n 1 l8.2.1 fun a16=>
    LoadS S14 (.sc .sl) a16 fun x17=>
    CallT Tryd.prog 59 #[(.int .u8 x13)] (.sc (.int .i64)) w10.drew (fun r18 w19=>
      S14 w19 ∧
      (Idx x17.a x17.n 1 r18 fun a21=>
      LoadS S14 (.sc (.int .i64)) a21 fun x22=>
      Br (decide ((x22:Int) < 0))
       (R (.returned (.int .i64 x22)) w19)
       (I11 (l8.1,x22,l8.2.2.1,l8.2.2.2.1,(IntKind.wrap .i64 (l8.2.2.2.2.1 + 1)),()) w19))) (fun h20 w19=>R (.panicked h20) w19)))
    (R (.returned (.int .i64 l8.2.1)) w10)) (fun h5 w4=>R (.panicked h5) w4)
theorem fold_leads.calls (p0_0:Int) (p0_1:Int) (p0_2:Sl) (p0_3:Sl) (p1:ByteArray) {R:Ending → World → Prop} {w:World} (h:fold_leads.sh p0_0 p0_1 p0_2 p0_3 p1 R w):Calls Tryd.prog 58 #[(.agg #[(.int .i64 p0_0),(.int .i64 p0_1),(.slice p0_2.a p0_2.n p0_2.c),(.slice p0_3.a p0_3.n p0_3.c)]),(.string p1)] w R:=calls_of_wpc mixed Tryd.func58 (by kernel_rfl) (by kernel_rfl) ((show _ = wpc Tryd.prog fold_leads.ann fold_leads.body (fnKs Tryd.prog Tryd.f58 R) [] (env0 #[(.agg #[(.int .i64 p0_0),(.int .i64 p0_1),(.slice p0_2.a p0_2.n p0_2.c),(.slice p0_3.a p0_3.n p0_3.c)]),(.string p1)]) w by kernel_rfl).mp h)
noncomputable def fold_Check.ann:Ann where
 loops:=fun | 7=>[(3,.sc .adr),(4,.sc .adr),(5,.sc .adr),(41,.sc .sl),(42,.sc (.int .i64)),(43,.sc (.int .i64))] | _=>[]
 joins:=fun | 5=>some [(3,.sc .adr),(4,.sc .adr)] | 11=>some [(3,.sc .adr),(4,.sc .adr),(5,.sc .adr),(6,.sc .adr),(41,.sc .sl),(42,.sc (.int .i64)),(43,.sc (.int .i64))] | 16=>some [(5,.sc .adr),(9,.sc (.int .i64))] | _=>none
noncomputable def fold_Check.body:Code:=match Tryd.f29.body with | some c=>c | none=>.skip
def fold_Check.sh (p0:Int) (p1_0:Int) (p1_1:Int) (p1_2:Sl) (p1_3:Sl) (R:Ending → World → Prop) (w:World):Prop:=
 New w (.cells #[(.int .i64 p1_0),(.int .i64 p1_1),(.slice p1_2.a p1_2.n p1_2.c),(.slice p1_3.a p1_3.n p1_3.c)] 27) fun b1 w2=>
 New w2 (.cells #[(.int .i64 0)] 28) fun b3 w4=>
 CallT Tryd.prog 44 #[(.int .i64 p0)] (.sc .bool) w4 (fun r5 w6=>
  Br (!r5)
   (Store1 w6 (Addr.mk b3 0 none) (.int .i64 1) fun w8=>
   LoadT (.sc (.int .i64)) w8 (Addr.mk b3 0 none) fun x9=>
   R (.returned (.int .i64 x9)) w8)
   (Join (σ:=Addr × Addr × Unit) (fun j12 g11 w31=>
    New w31 (.cells #[(.int .i64 0)] 3) fun b32 w33=>
    Store1 w33 (Addr.mk b32 0 none) (.int .i64 1) fun w34=>
    LoadT (.sc .sl) w34 (j12.1.add 3) fun x35=>
    LoopD (σ:=Addr × Addr × Addr × Sl × Int × Int × Unit) (j12.1,j12.2.1,(Addr.mk b32 0 none),x35,((x35.n:Nat):Int),0,()) ([]) w34 fun l36 d40 g37 w38 I39=>
     Br (decide ((l36.2.2.2.2.2.1:Int) < l36.2.2.2.2.1))
      (Idx l36.2.2.2.1.a l36.2.2.2.1.n 1 l36.2.2.2.2.2.1 fun a41=>
      LoadT (.sc .sl) w38 a41 fun x42=>
      New w38 (.cells #[(.int .i64 0)] 3) fun b43 w44=>
      Store1 w44 (Addr.mk b43 0 none) (.int .i64 l36.2.2.2.2.2.1) fun w45=>
      Join (σ:=Addr × Addr × Addr × Addr × Sl × Int × Int × Unit) (fun j48 g47 w75=>
       LoadT (.agg [.int .i64,.int .i64,.sl,.sl]) w75 j48.1 fun x76=>
       LoadT (.sc (.int .i64)) w75 j48.2.2.2.1 fun x77=>
       CallT Tryd.prog 64 #[(.agg #[(.int .i64 x76.1),(.int .i64 x76.2.1),(.slice x76.2.2.1.a x76.2.2.1.n x76.2.2.1.c),(.slice x76.2.2.2.1.a x76.2.2.2.1.n x76.2.2.2.1.c)]),(.int .i64 x77)] (.sc (.clo 88 2)) w75 (fun r78 w79=>
        RangeF Tryd.prog 88 #[] #[(.pointer (some r78.1)),(.pointer (some r78.2.1))] [.sc (.int .i64),.sc (.int .i64)] w79 (fun x82 w83 Kc84 Kx85=>
         Join (σ:=Addr × Int × Unit) (fun j91 g90 w101=>
           LoadT (.sc (.int .i64)) w101 j91.1 fun x102=>
           Br ((j91.2.1:Int) == x102)
            (LoadT (.sc (.int .i64)) w101 j91.1 fun x103=>
            Store1 w101 j91.1 (.int .i64 (IntKind.wrap .i64 (x103 + 1))) fun w104=>
            Kc84 w104)
            (Kc84 w101)) fun J89=>
           LoadT (.sc .sl) w83.drew (j48.1.add 3) fun x92=>
           Idx x92.a x92.n 1 x82.2.1 fun a93=>
           LoadT (.sc .sl) w83.drew a93 fun x94=>
           Idx x94.a x94.n 1 (Go.bits .xor .i64 x82.1 1) fun a95=>
           LoadT (.sc (.int .i64)) w83.drew a95 fun x96=>
           LoadT (.sc (.int .i64)) w83.drew j48.2.2.2.1 fun x97=>
           Br ((x96:Int) != x97)
            (Br true
             (Store1 w83.drew j48.2.1 (.int .i64 210) fun w98=>
             Kx85 .ret w98)
             (J89 (j48.2.2.1,x82.2.1,()) w83.drew))
            (LoadT (.sc (.int .i64)) w83.drew j48.2.2.1 fun x99=>
            Br (decide ((x82.2.1:Int) > x99))
             (Store1 w83.drew j48.2.1 (.int .i64 210) fun w100=>
             Kx85 .ret w100)
             (J89 (j48.2.2.1,x82.2.1,()) w83.drew)))
         (fun j86 d87 w88=>match j86 with
         | none=>
           I39 (j48.1,j48.2.1,j48.2.2.1,j48.2.2.2.2.1,j48.2.2.2.2.2.1,(IntKind.wrap .i64 (j48.2.2.2.2.2.2.1 + 1)),()) (Fw.mark d87 :: d40) w88
         | some (.exit i)=>
          False
         | some .ret=>
           RetM (Fw.mark d87 :: d40) w88 fun z105=>
           LoadT (.sc (.int .i64)) z105 j48.2.1 fun x106=>
           R (.returned (.int .i64 x106)) z105
         | some _=>False)) (fun h80 w79=>RetM (d40) w79 fun z81=>R (.panicked h80) z81)) fun J46=>
       LoadT (.sc .sl) w45.drew (l36.1.add 2) fun x49=>
       LoadT (.sc (.int .i64)) w45.drew (Addr.mk b43 0 none) fun x50=>
       Idx x49.a x49.n 1 x50 fun a51=>
       LoadT (.sc .bool) w45.drew a51 fun x52=>
       LoadT (.sc (.int .i64)) w45.drew (Addr.mk b43 0 none) fun x53=>
       Br (!(x52 == ((x53:Int) == 0)))
        (Br true
         (Store1 w45.drew l36.2.1 (.int .i64 210) fun w54=>
         RetM (d40) w54 fun z55=>
         LoadT (.sc (.int .i64)) z55 l36.2.1 fun x56=>
         R (.returned (.int .i64 x56)) z55)
         (J46 (l36.1,l36.2.1,l36.2.2.1,(Addr.mk b43 0 none),l36.2.2.2.1,l36.2.2.2.2.1,l36.2.2.2.2.2.1,()) w45.drew))
        (LoadT (.sc (.int .i64)) w45.drew (Addr.mk b43 0 none) fun x57=>
        Br (decide ((x57:Int) > 0))
         (CallT Tryd.prog 62 #[(.slice x42.a x42.n x42.c)] (.sc (.int .i64)) w45.drew (fun r58 w59=>
          Br (decide ((r58:Int) < 2))
           (Br true
            (Store1 w59 l36.2.1 (.int .i64 210) fun w62=>
            RetM (d40) w62 fun z63=>
            LoadT (.sc (.int .i64)) z63 l36.2.1 fun x64=>
            R (.returned (.int .i64 x64)) z63)
            (J46 (l36.1,l36.2.1,l36.2.2.1,(Addr.mk b43 0 none),l36.2.2.2.1,l36.2.2.2.2.1,l36.2.2.2.2.2.1,()) w59))
           (LoadT (.sc (.int .i64)) w59 (Addr.mk b43 0 none) fun x65=>
           LoadT (.sc (.int .i64)) w59 l36.2.2.1 fun x66=>
           Br (decide ((x65:Int) ≥ x66))
            (Store1 w59 l36.2.1 (.int .i64 210) fun w67=>
            RetM (d40) w67 fun z68=>
            LoadT (.sc (.int .i64)) z68 l36.2.1 fun x69=>
            R (.returned (.int .i64 x69)) z68)
            (J46 (l36.1,l36.2.1,l36.2.2.1,(Addr.mk b43 0 none),l36.2.2.2.1,l36.2.2.2.2.1,l36.2.2.2.2.2.1,()) w59))) (fun h60 w59=>RetM (d40) w59 fun z61=>R (.panicked h60) z61))
         (LoadT (.sc (.int .i64)) w45.drew (Addr.mk b43 0 none) fun x70=>
         LoadT (.sc (.int .i64)) w45.drew l36.2.2.1 fun x71=>
         Br (decide ((x70:Int) ≥ x71))
          (Store1 w45.drew l36.2.1 (.int .i64 210) fun w72=>
          RetM (d40) w72 fun z73=>
          LoadT (.sc (.int .i64)) z73 l36.2.1 fun x74=>
          R (.returned (.int .i64 x74)) z73)
          (J46 (l36.1,l36.2.1,l36.2.2.1,(Addr.mk b43 0 none),l36.2.2.2.1,l36.2.2.2.2.1,l36.2.2.2.2.2.1,()) w45.drew))))
      (LoadT (.sc (.int .i64)) w38 l36.2.2.1 fun x107=>
      LoadT (.sc .sl) w38 (l36.1.add 3) fun x108=>
      Br ((x107:Int) != ((x108.n:Nat):Int))
       (Store1 w38 l36.2.1 (.int .i64 210) fun w109=>
       RetM (d40) w109 fun z110=>
       LoadT (.sc (.int .i64)) z110 l36.2.1 fun x111=>
       R (.returned (.int .i64 x111)) z110)
       (Store1 w38 l36.2.1 (.int .i64 0) fun w112=>
       RetM (d40) w112 fun z113=>
       LoadT (.sc (.int .i64)) z113 l36.2.1 fun x114=>
       R (.returned (.int .i64 x114)) z113))) fun J10=>
    LoadT (.agg [.int .i64,.int .i64,.sl,.sl]) w6 (Addr.mk b1 0 none) fun x13=>
    CallT Tryd.prog 63 #[(.agg #[(.int .i64 x13.1),(.int .i64 x13.2.1),(.slice x13.2.2.1.a x13.2.2.1.n x13.2.2.1.c),(.slice x13.2.2.2.1.a x13.2.2.2.1.n x13.2.2.2.1.c)])] (.sc (.int .i64)) w6 (fun r14 w15=>
     Br ((r14:Int) != 0)
      (Br true
       (Store1 w15 (Addr.mk b3 0 none) (.int .i64 210) fun w17=>
       LoadT (.sc (.int .i64)) w17 (Addr.mk b3 0 none) fun x18=>
       R (.returned (.int .i64 x18)) w17)
       (J10 ((Addr.mk b1 0 none),(Addr.mk b3 0 none),()) w15))
      (LoadT (.sc (.int .i64)) w15 ((Addr.mk b1 0 none).add 0) fun x19=>
      Br ((x19:Int) != (IntKind.wrap .i64 (2 * p0)))
       (Br true
        (Store1 w15 (Addr.mk b3 0 none) (.int .i64 210) fun w20=>
        LoadT (.sc (.int .i64)) w20 (Addr.mk b3 0 none) fun x21=>
        R (.returned (.int .i64 x21)) w20)
        (J10 ((Addr.mk b1 0 none),(Addr.mk b3 0 none),()) w15))
       (LoadT (.sc .sl) w15 ((Addr.mk b1 0 none).add 3) fun x22=>
       Br (decide ((((x22.n:Nat):Int):Int) < 1))
        (Br true
         (Store1 w15 (Addr.mk b3 0 none) (.int .i64 210) fun w23=>
         LoadT (.sc (.int .i64)) w23 (Addr.mk b3 0 none) fun x24=>
         R (.returned (.int .i64 x24)) w23)
         (J10 ((Addr.mk b1 0 none),(Addr.mk b3 0 none),()) w15))
        (LoadT (.sc .sl) w15 ((Addr.mk b1 0 none).add 3) fun x25=>
        Br (decide ((((x25.n:Nat):Int):Int) > 2000))
         (Br true
          (Store1 w15 (Addr.mk b3 0 none) (.int .i64 210) fun w26=>
          LoadT (.sc (.int .i64)) w26 (Addr.mk b3 0 none) fun x27=>
          R (.returned (.int .i64 x27)) w26)
          (J10 ((Addr.mk b1 0 none),(Addr.mk b3 0 none),()) w15))
         (LoadT (.sc (.int .i64)) w15 ((Addr.mk b1 0 none).add 1) fun x28=>
         Br ((x28:Int) != 0)
          (Store1 w15 (Addr.mk b3 0 none) (.int .i64 210) fun w29=>
          LoadT (.sc (.int .i64)) w29 (Addr.mk b3 0 none) fun x30=>
          R (.returned (.int .i64 x30)) w29)
          (J10 ((Addr.mk b1 0 none),(Addr.mk b3 0 none),()) w15)))))) (fun h16 w15=>R (.panicked h16) w15))) (fun h7 w6=>R (.panicked h7) w6)
theorem fold_Check.calls (p0:Int) (p1_0:Int) (p1_1:Int) (p1_2:Sl) (p1_3:Sl) {R:Ending → World → Prop} {w:World} (h:fold_Check.sh p0 p1_0 p1_1 p1_2 p1_3 R w):Calls Tryd.prog 29 #[(.int .i64 p0),(.agg #[(.int .i64 p1_0),(.int .i64 p1_1),(.slice p1_2.a p1_2.n p1_2.c),(.slice p1_3.a p1_3.n p1_3.c)])] w R:=calls_of_wpc mixed Tryd.func29 (by kernel_rfl) (by kernel_rfl) ((show _ = wpc Tryd.prog fold_Check.ann fold_Check.body (fnKs Tryd.prog Tryd.f29 R) [] (env0 #[(.int .i64 p0),(.agg #[(.int .i64 p1_0),(.int .i64 p1_1),(.slice p1_2.a p1_2.n p1_2.c),(.slice p1_3.a p1_3.n p1_3.c)])]) w by kernel_rfl).mp h)
noncomputable def fold_examine.ann:Ann where
 loops:=fun | 4=>[(0,.sc (.int .i64)),(2,.sc .sl),(14,.sc .sl),(15,.sc (.int .i64)),(16,.sc (.int .i64))] | 10=>[(0,.sc (.int .i64)),(25,.sc .sl),(26,.sc (.int .i64)),(27,.sc (.int .i64))] | _=>[]
 joins:=fun | _=>none
noncomputable def fold_examine.body:Code:=match Tryd.f55.body with | some c=>c | none=>.skip
def fold_examine.sh (p0:Int) (p1:Sl) (p2:Sl) (R:Ending → World → Prop) (w:World):Prop:=
 CallT Tryd.prog 44 #[(.int .i64 p0)] (.sc .bool) w (fun r1 w2=>
  Br (!r1)
   (R (.returned (.int .i64 1)) w2)
   (LoopT (σ:=Int × Sl × Sl × Int × Int × Unit) (p0,p2,p1,((p1.n:Nat):Int),0,()) w2 fun l4 g5 w6 I7=>
    Br (decide ((l4.2.2.2.2.1:Int) < l4.2.2.2.1))
     (Idx l4.2.2.1.a l4.2.2.1.n 4 l4.2.2.2.2.1 fun a8=>
     LoadT (.agg [.int .i64,.int .i64,.sl,.sl]) w6 a8 fun x9=>
     New w6 (.cells #[(.int .i64 0),(.int .i64 0),(.slice none 0 0),(.slice none 0 0)] 27) fun b10 w11=>
     StoreN w11 (Addr.mk b10 0 none) [(.int .i64 x9.1),(.int .i64 x9.2.1),(.slice x9.2.2.1.a x9.2.2.1.n x9.2.2.1.c),(.slice x9.2.2.2.1.a x9.2.2.2.1.n x9.2.2.2.1.c)] fun w12=>
     LoadT (.agg [.int .i64,.int .i64,.sl,.sl]) w12 (Addr.mk b10 0 none) fun x13=>
     CallT Tryd.prog 29 #[(.int .i64 l4.1),(.agg #[(.int .i64 x13.1),(.int .i64 x13.2.1),(.slice x13.2.2.1.a x13.2.2.1.n x13.2.2.1.c),(.slice x13.2.2.2.1.a x13.2.2.2.1.n x13.2.2.2.1.c)])] (.sc (.int .i64)) w12 (fun r14 w15=>
      Br ((r14:Int) != 0)
       (R (.returned (.int .i64 210)) w15)
       (I7 (l4.1,l4.2.1,l4.2.2.1,l4.2.2.2.1,(IntKind.wrap .i64 (l4.2.2.2.2.1 + 1)),()) w15)) (fun h16 w15=>R (.panicked h16) w15))
     (LoopT (σ:=Int × Sl × Int × Int × Unit) (l4.1,l4.2.1,((l4.2.1.n:Nat):Int),0,()) w6 fun l17 g18 w19 I20=>
      Br (decide ((l17.2.2.2.1:Int) < l17.2.2.1))
       (Idx l17.2.1.a l17.2.1.n 1 l17.2.2.2.1 fun a21=>
       LoadT (.sc .str) w19 a21 fun x22=>
       CallT Tryd.prog 45 #[(.int .i64 l17.1),(.string x22)] (.sc (.int .i64)) w19 (fun r23 w24=>
        Br ((r23:Int) != 0)
         (R (.returned (.int .i64 4)) w24)
         (I20 (l17.1,l17.2.1,l17.2.2.1,(IntKind.wrap .i64 (l17.2.2.2.1 + 1)),()) w24)) (fun h25 w24=>R (.panicked h25) w24))
       (R (.returned (.int .i64 0)) w19)))) (fun h3 w2=>R (.panicked h3) w2)
theorem fold_examine.calls (p0:Int) (p1:Sl) (p2:Sl) {R:Ending → World → Prop} {w:World} (h:fold_examine.sh p0 p1 p2 R w):Calls Tryd.prog 55 #[(.int .i64 p0),(.slice p1.a p1.n p1.c),(.slice p2.a p2.n p2.c)] w R:=calls_of_wpc mixed Tryd.func55 (by kernel_rfl) (by kernel_rfl) ((show _ = wpc Tryd.prog fold_examine.ann fold_examine.body (fnKs Tryd.prog Tryd.f55 R) [] (env0 #[(.int .i64 p0),(.slice p1.a p1.n p1.c),(.slice p2.a p2.n p2.c)]) w by kernel_rfl).mp h)
noncomputable def fold_grown.ann:Ann where
 loops:=fun | 5=>[(1,.sc .adr),(2,.sc .adr),(3,.sc .adr),(4,.sc .adr),(5,.sc .adr),(22,.sc (.int .i64)),(23,.sc (.int .i64))] | 17=>[(1,.sc .adr),(2,.sc .adr),(3,.sc .adr),(4,.sc .adr),(62,.sc (.int .i64)),(63,.sc (.int .i64))] | _=>[]
 joins:=fun | 24=>some [(3,.sc .adr),(9,.sc .adr),(10,.sc (.int .i64)),(11,.sc (.int .i64)),(12,.sc .adr),(82,.sc .bool)] | _=>none
noncomputable def fold_grown.body:Code:=match Tryd.f56.body with | some c=>c | none=>.skip
def fold_grown.sh (p0_0:Int) (p0_1:Int) (p0_2:Sl) (p0_3:Sl) (R:Ending → World → Prop) (w:World):Prop:=
 New w (.cells #[(.int .i64 p0_0),(.int .i64 p0_1),(.slice p0_2.a p0_2.n p0_2.c),(.slice p0_3.a p0_3.n p0_3.c)] 27) fun b1 w2=>
 New w2 (.cells #[(.slice none 0 0),(.map none),(.slice none 0 0)] 93) fun b3 w4=>
 LoadT (.sc .sl) w4 ((Addr.mk b1 0 none).add 3) fun x5=>
 RunT Tryd.prog (.sc .sl) (Instr.makeSlice 22 (.int .i64 ((x5.n:Nat):Int)) (.int .i64 ((x5.n:Nat):Int))) w4 fun r6 w7=>
 New w7 (.map #[] 0) fun b8 w9=>
 New w9 (.cells #[(.slice none 0 0),(.map none),(.slice none 0 0)] 93) fun b10 w11=>
 StoreN w11 (Addr.mk b10 0 none) [(.slice r6.a r6.n r6.c),(.map (some b8)),(.slice none 0 0)] fun w12=>
 New w12 (.map #[] 0) fun b13 w14=>
 New w14 (.cells #[(.map none)] 134) fun b15 w16=>
 Store1 w16 (Addr.mk b15 0 none) (.map (some b13)) fun w17=>
 New w17 (.cells #[(.int .i64 0)] 3) fun b18 w19=>
 Store1 w19 (Addr.mk b18 0 none) (.int .i64 1) fun w20=>
 LoadT (.sc .sl) w20 ((Addr.mk b1 0 none).add 3) fun x21=>
 LoopD (σ:=Addr × Addr × Addr × Addr × Addr × Int × Int × Unit) ((Addr.mk b1 0 none),(Addr.mk b3 0 none),(Addr.mk b10 0 none),(Addr.mk b15 0 none),(Addr.mk b18 0 none),((x21.n:Nat):Int),0,()) ([]) w20 fun l22 d26 g23 w24 I25=>
  Br (decide ((l22.2.2.2.2.2.2.1:Int) < l22.2.2.2.2.2.1))
   (New w24 (.cells #[(.int .i64 0)] 3) fun b27 w28=>
   Store1 w28 (Addr.mk b27 0 none) (.int .i64 l22.2.2.2.2.2.2.1) fun w29=>
   LoadT (.agg [.int .i64,.int .i64,.sl,.sl]) w29 l22.1 fun x30=>
   LoadT (.sc (.int .i64)) w29 (Addr.mk b27 0 none) fun x31=>
   CallT Tryd.prog 64 #[(.agg #[(.int .i64 x30.1),(.int .i64 x30.2.1),(.slice x30.2.2.1.a x30.2.2.1.n x30.2.2.1.c),(.slice x30.2.2.2.1.a x30.2.2.2.1.n x30.2.2.2.1.c)]),(.int .i64 x31)] (.sc (.clo 88 2)) w29 (fun r32 w33=>
    RangeF Tryd.prog 88 #[] #[(.pointer (some r32.1)),(.pointer (some r32.2.1))] [.sc (.int .i64),.sc (.int .i64)] w33 (fun x36 w37 Kc38 Kx39=>
     LoadT (.sc (.int .i64)) w37 l22.2.2.2.2.1 fun x43=>
      Br ((x36.2.1:Int) == x43)
       (LoadT (.sc (.int .i64)) w37 l22.2.2.2.2.1 fun x44=>
       Store1 w37 l22.2.2.2.2.1 (.int .i64 (IntKind.wrap .i64 (x44 + 1))) fun w45=>
       ∃ S46:World → Prop,S46 w45.drew ∧
       (LoadS S46 (.sc .sl) (l22.2.2.1.add 0) fun x47=>
       LoadS S46 (.sc .sl) (l22.2.2.1.add 0) fun x48=>
       LoadS S46 (.sc (.int .i64)) (Addr.mk b27 0 none) fun x49=>
       Idx x48.a x48.n 1 x49 fun a50=>
       LoadS S46 (.sc .str) a50 fun x51=>
       CallT Tryd.prog 86 #[(.int .i64 x36.1)] (.sc (.int .u8)) w45.drew (fun r52 w53=>
         S46 w53 ∧
         (New w53 (.cells #[(.int .u8 r52)] 5) fun b55 w56=>
          S46 w56 ∧
          (RunT Tryd.prog (.sc .str) (convert 87 9 (.slice (some (Addr.mk b55 0 none)) 1 1)) w56 fun r57 w58=>
           S46 w58 ∧
           ((((x51.size + r57.size:Nat):Int) ≤ 9223372036854775807) ∧
           Idx x47.a x47.n 1 x36.2.1 fun a59=>
           Store1 w58 a59 (.string (x51 ++ r57)) fun w60=>
            LoadT (.sc .map) w60 l22.2.2.2.1 fun x61=>
            LoadT (.sc (.int .i64)) w60 (Addr.mk b27 0 none) fun x62=>
            RunU Tryd.prog (Instr.mapUpdate 134 (.map x61) (.agg #[(.int .i64 x62),(.int .i64 x36.1)]) (.bool true)) w60 fun w63=>
            LoadT (.sc .map) w63 l22.2.2.2.1 fun x64=>
            RunU Tryd.prog (Instr.mapUpdate 134 (.map x64) (.agg #[(.int .i64 x36.2.1),(.int .i64 (Go.bits .xor .i64 x36.1 1))]) (.bool true)) w63 fun w65=>
            Kc38 w65)))) (fun h54 w53=>False)))
       (Kc38 w37))
     (fun j40 d41 w42=>match j40 with
     | none=>
       I25 (l22.1,l22.2.1,l22.2.2.1,l22.2.2.2.1,l22.2.2.2.2.1,l22.2.2.2.2.2.1,(IntKind.wrap .i64 (l22.2.2.2.2.2.2.1 + 1)),()) (Fw.mark d41 :: d26) w42
     | some (.exit i)=>
      False
     | some .ret=>
       RetM (Fw.mark d41 :: d26) w42 fun z66=>
       LoadT (.agg [.sl,.map,.sl]) z66 l22.2.1 fun x67=>
       R (.returned (.agg #[(.slice x67.1.a x67.1.n x67.1.c),(.map x67.2.1),(.slice x67.2.2.1.a x67.2.2.1.n x67.2.2.1.c)])) z66
     | some _=>False)) (fun h34 w33=>RetM (d26) w33 fun z35=>R (.panicked h34) z35))
   (LoadT (.sc .sl) w24 (l22.1.add 3) fun x68=>
   LoopD (σ:=Addr × Addr × Addr × Addr × Int × Int × Unit) (l22.1,l22.2.1,l22.2.2.1,l22.2.2.2.1,((x68.n:Nat):Int),0,()) (d26) w24 fun l69 d73 g70 w71 I72=>
    Br (decide ((l69.2.2.2.2.2.1:Int) < l69.2.2.2.2.1))
     (New w71 (.cells #[(.int .i64 0)] 3) fun b74 w75=>
     Store1 w75 (Addr.mk b74 0 none) (.int .i64 l69.2.2.2.2.2.1) fun w76=>
     LoadT (.agg [.int .i64,.int .i64,.sl,.sl]) w76 l69.1 fun x77=>
     LoadT (.sc (.int .i64)) w76 (Addr.mk b74 0 none) fun x78=>
     CallT Tryd.prog 64 #[(.agg #[(.int .i64 x77.1),(.int .i64 x77.2.1),(.slice x77.2.2.1.a x77.2.2.1.n x77.2.2.1.c),(.slice x77.2.2.2.1.a x77.2.2.2.1.n x77.2.2.2.1.c)]),(.int .i64 x78)] (.sc (.clo 88 2)) w76 (fun r79 w80=>
      RangeF Tryd.prog 88 #[] #[(.pointer (some r79.1)),(.pointer (some r79.2.1))] [.sc (.int .i64),.sc (.int .i64)] w80 (fun x83 w84 Kc85 Kx86=>
       LoadT (.sc (.int .i64)) w84 (Addr.mk b74 0 none) fun x90=>
        New w84 (.cells #[(.int .i64 0),(.int .i64 0)] 96) fun b91 w92=>
        StoreN w92 (Addr.mk b91 0 none) [(.int .i64 x90),(.int .i64 x83.1)] fun w93=>
        Join (σ:=Addr × Addr × Int × Int × Addr × Bool × Unit) (fun j96 g95 w101=>
         Br j96.2.2.2.2.2.1
          (LoadT (.sc .map) w101 (j96.1.add 1) fun x102=>
          LoadT (.agg [.int .i64,.int .i64]) w101 j96.2.2.2.2.1 fun x103=>
          LoadT (.sc .sl) w101 (j96.1.add 2) fun x104=>
          RunU Tryd.prog (Instr.mapUpdate 91 (.map x102) (.agg #[(.int .i64 x103.1),(.int .i64 x103.2.1)]) (.int .i64 ((x104.n:Nat):Int))) w101 fun w105=>
          ∃ S106:World → Prop,S106 w105.drew ∧
          (LoadS S106 (.sc .sl) (j96.1.add 2) fun x107=>
          LoadS S106 (.sc .sl) (j96.1.add 0) fun x108=>
          LoadS S106 (.sc (.int .i64)) j96.2.1 fun x109=>
          Idx x108.a x108.n 1 x109 fun a110=>
          LoadS S106 (.sc .str) a110 fun x111=>
          LoadS S106 (.sc .sl) (j96.1.add 0) fun x112=>
          Idx x112.a x112.n 1 j96.2.2.2.1 fun a113=>
          LoadS S106 (.sc .str) a113 fun x114=>
          CallT Tryd.prog 86 #[(.int .i64 j96.2.2.1)] (.sc (.int .u8)) w105.drew (fun r115 w116=>
            S106 w116 ∧
            ((New w116 (.cells #[(.int .u8 r115)] 5) fun b118 w119=>
             S106 w119 ∧
             ((RunT Tryd.prog (.sc .str) (convert 87 9 (.slice (some (Addr.mk b118 0 none)) 1 1)) w119 fun r120 w121=>
              S106 w121 ∧
              ((((x111.size + r120.size:Nat):Int) ≤ 9223372036854775807) ∧
              CallT Tryd.prog 75 #[(.string x114)] (.sc .str) w121 (fun r122 w123=>
                S106 w123 ∧
                (((((x111 ++ r120).size + r122.size:Nat):Int) ≤ 9223372036854775807) ∧
                CallT Tryd.prog 48 #[(.string ((x111 ++ r120) ++ r122))] (.sc .str) w123 (fun r125 w126=>
                  S106 w126 ∧
                  (New w126 (.cells #[(.string r125)] 9) fun b128 w129=>
                   S106 w129 ∧
                   (RunT Tryd.prog (.sc .sl) (Builtin.append_ #[22,22] 22 #[(.slice x107.a x107.n x107.c),(.slice (some (Addr.mk b128 0 none)) 1 1)]) w129 fun r130 w131=>
                    S106 w131 ∧
                    (Store1 w131 (j96.1.add 2) (.slice r130.a r130.n r130.c) fun w132=>
                     Kc85 w132)))) (fun h127 w126=>False))) (fun h124 w123=>False))) ∧
             (CallT Tryd.prog 75 #[(.string x114)] (.sc .str) w119 (fun r133 w134=>
               S106 w134 ∧
               (RunT Tryd.prog (.sc .str) (convert 87 9 (.slice (some (Addr.mk b118 0 none)) 1 1)) w134 fun r136 w137=>
                S106 w137 ∧
                ((((x111.size + r136.size:Nat):Int) ≤ 9223372036854775807) ∧
                ((((x111 ++ r136).size + r133.size:Nat):Int) ≤ 9223372036854775807) ∧
                CallT Tryd.prog 48 #[(.string ((x111 ++ r136) ++ r133))] (.sc .str) w137 (fun r138 w139=>
                  S106 w139 ∧
                  (New w139 (.cells #[(.string r138)] 9) fun b141 w142=>
                   S106 w142 ∧
                   (RunT Tryd.prog (.sc .sl) (Builtin.append_ #[22,22] 22 #[(.slice x107.a x107.n x107.c),(.slice (some (Addr.mk b141 0 none)) 1 1)]) w142 fun r143 w144=>
                    S106 w144 ∧
                    (Store1 w144 (j96.1.add 2) (.slice r143.a r143.n r143.c) fun w145=>
                     Kc85 w145)))) (fun h140 w139=>False)))) (fun h135 w134=>False)))) ∧
            (CallT Tryd.prog 75 #[(.string x114)] (.sc .str) w116 (fun r146 w147=>
              S106 w147 ∧
              (New w147 (.cells #[(.int .u8 r115)] 5) fun b149 w150=>
               S106 w150 ∧
               (RunT Tryd.prog (.sc .str) (convert 87 9 (.slice (some (Addr.mk b149 0 none)) 1 1)) w150 fun r151 w152=>
                S106 w152 ∧
                ((((x111.size + r151.size:Nat):Int) ≤ 9223372036854775807) ∧
                ((((x111 ++ r151).size + r146.size:Nat):Int) ≤ 9223372036854775807) ∧
                CallT Tryd.prog 48 #[(.string ((x111 ++ r151) ++ r146))] (.sc .str) w152 (fun r153 w154=>
                  S106 w154 ∧
                  (New w154 (.cells #[(.string r153)] 9) fun b156 w157=>
                   S106 w157 ∧
                   (RunT Tryd.prog (.sc .sl) (Builtin.append_ #[22,22] 22 #[(.slice x107.a x107.n x107.c),(.slice (some (Addr.mk b156 0 none)) 1 1)]) w157 fun r158 w159=>
                    S106 w159 ∧
                    (Store1 w159 (j96.1.add 2) (.slice r158.a r158.n r158.c) fun w160=>
                     Kc85 w160)))) (fun h155 w154=>False))))) (fun h148 w147=>False)))) (fun h117 w116=>False)))
          (Kc85 w101)) fun J94=>
         (2:Int) ≠ 0 ∧
         Br (((Int.tmod x83.1 2):Int) == 0)
          (LoadT (.sc .map) w93 l69.2.2.2.1 fun x97=>
          LoadT (.agg [.int .i64,.int .i64]) w93 (Addr.mk b91 0 none) fun x98=>
          RunT Tryd.prog (.sc .bool) (Instr.lookup 134 (.map x97) (.agg #[(.int .i64 x98.1),(.int .i64 x98.2.1)]) false) w93 fun r99 w100=>
          J94 (l69.2.2.1,(Addr.mk b74 0 none),x83.1,x83.2.1,(Addr.mk b91 0 none),(!r99),()) w100)
          (J94 (l69.2.2.1,(Addr.mk b74 0 none),x83.1,x83.2.1,(Addr.mk b91 0 none),false,()) w93))
       (fun j87 d88 w89=>match j87 with
       | none=>
         I72 (l69.1,l69.2.1,l69.2.2.1,l69.2.2.2.1,l69.2.2.2.2.1,(IntKind.wrap .i64 (l69.2.2.2.2.2.1 + 1)),()) (Fw.mark d88 :: d73) w89
       | some (.exit i)=>
        False
       | some .ret=>
         RetM (Fw.mark d88 :: d73) w89 fun z161=>
         LoadT (.agg [.sl,.map,.sl]) z161 l69.2.1 fun x162=>
         R (.returned (.agg #[(.slice x162.1.a x162.1.n x162.1.c),(.map x162.2.1),(.slice x162.2.2.1.a x162.2.2.1.n x162.2.2.1.c)])) z161
       | some _=>False)) (fun h81 w80=>RetM (d73) w80 fun z82=>R (.panicked h81) z82))
     (LoadT (.agg [.sl,.map,.sl]) w71 l69.2.2.1 fun x163=>
     StoreN w71 l69.2.1 [(.slice x163.1.a x163.1.n x163.1.c),(.map x163.2.1),(.slice x163.2.2.1.a x163.2.2.1.n x163.2.2.1.c)] fun w164=>
     RetM (d73) w164 fun z165=>
     LoadT (.agg [.sl,.map,.sl]) z165 l69.2.1 fun x166=>
     R (.returned (.agg #[(.slice x166.1.a x166.1.n x166.1.c),(.map x166.2.1),(.slice x166.2.2.1.a x166.2.2.1.n x166.2.2.1.c)])) z165))
theorem fold_grown.calls (p0_0:Int) (p0_1:Int) (p0_2:Sl) (p0_3:Sl) {R:Ending → World → Prop} {w:World} (h:fold_grown.sh p0_0 p0_1 p0_2 p0_3 R w):Calls Tryd.prog 56 #[(.agg #[(.int .i64 p0_0),(.int .i64 p0_1),(.slice p0_2.a p0_2.n p0_2.c),(.slice p0_3.a p0_3.n p0_3.c)])] w R:=calls_of_wpc mixed Tryd.func56 (by kernel_rfl) (by kernel_rfl) ((show _ = wpc Tryd.prog fold_grown.ann fold_grown.body (fnKs Tryd.prog Tryd.f56 R) [] (env0 #[(.agg #[(.int .i64 p0_0),(.int .i64 p0_1),(.slice p0_2.a p0_2.n p0_2.c),(.slice p0_3.a p0_3.n p0_3.c)])]) w by kernel_rfl).mp h)
noncomputable def fold_Fold.ann:Ann where
 loops:=fun | 5=>[(0,.sc (.int .i64)),(1,.sc .sl),(4,.sc .adr),(6,.sc (.int .i64)),(18,.sc .sl),(19,.sc (.int .i64)),(20,.sc (.int .i64))] | 12=>[(0,.sc (.int .i64)),(1,.sc .sl),(4,.sc .adr),(37,.sc .sl),(38,.sc (.int .i64)),(39,.sc (.int .i64))] | 19=>[(4,.sc .adr),(11,.sc .ptr),(51,.sc .sl),(52,.sc (.int .i64)),(53,.sc (.int .i64))] | _=>[]
 joins:=fun | 10=>some [(0,.sc (.int .i64)),(1,.sc .sl),(4,.sc .adr),(35,.sc .bool)] | _=>none
noncomputable def fold_Fold.body:Code:=match Tryd.f12.body with | some c=>c | none=>.skip
def fold_Fold.sh (p0:Int) (p1:Sl) (R:Ending → World → Prop) (w:World):Prop:=
 New w (.cells #[(.int .i64 0),(.int .i64 0),(.slice none 0 0),(.slice none 0 0)] 27) fun b1 w2=>
 CallT Tryd.prog 44 #[(.int .i64 p0)] (.sc .bool) w2 (fun r3 w4=>
  Br (!r3)
   (StoreN w4 (Addr.mk b1 0 none) [(.int .i64 0),(.int .i64 0),(.slice none 0 0),(.slice none 0 0)] fun w6=>
   LoadT (.agg [.int .i64,.int .i64,.sl,.sl]) w6 (Addr.mk b1 0 none) fun x7=>
   R (.returned (.tuple #[(.agg #[(.int .i64 x7.1),(.int .i64 x7.2.1),(.slice x7.2.2.1.a x7.2.2.1.n x7.2.2.1.c),(.slice x7.2.2.2.1.a x7.2.2.2.1.n x7.2.2.2.1.c)]),(.int .i64 1)])) w6)
   (LoopT (σ:=Int × Sl × Addr × Int × Sl × Int × Int × Unit) (p0,p1,(Addr.mk b1 0 none),0,p1,((p1.n:Nat):Int),0,()) w4 fun l8 g9 w10 I11=>
    Br (decide ((l8.2.2.2.2.2.2.1:Int) < l8.2.2.2.2.2.1))
     (Idx l8.2.2.2.2.1.a l8.2.2.2.2.1.n 1 l8.2.2.2.2.2.2.1 fun a12=>
     LoadT (.sc .str) w10 a12 fun x13=>
     I11 (l8.1,l8.2.1,l8.2.2.1,(IntKind.wrap .i64 (l8.2.2.2.1 + ((x13.size:Nat):Int))),l8.2.2.2.2.1,l8.2.2.2.2.2.1,(IntKind.wrap .i64 (l8.2.2.2.2.2.2.1 + 1)),()) w10)
     (Join (σ:=Int × Sl × Addr × Bool × Unit) (fun j16 g15 w17=>
      Br j16.2.2.2.1
       (StoreN w17 j16.2.2.1 [(.int .i64 0),(.int .i64 0),(.slice none 0 0),(.slice none 0 0)] fun w18=>
       LoadT (.agg [.int .i64,.int .i64,.sl,.sl]) w18 j16.2.2.1 fun x19=>
       R (.returned (.tuple #[(.agg #[(.int .i64 x19.1),(.int .i64 x19.2.1),(.slice x19.2.2.1.a x19.2.2.1.n x19.2.2.1.c),(.slice x19.2.2.2.1.a x19.2.2.2.1.n x19.2.2.2.1.c)]),(.int .i64 2)])) w18)
       (LoopT (σ:=Int × Sl × Addr × Sl × Int × Int × Unit) (j16.1,j16.2.1,j16.2.2.1,j16.2.1,((j16.2.1.n:Nat):Int),0,()) w17 fun l20 g21 w22 I23=>
        Br (decide ((l20.2.2.2.2.2.1:Int) < l20.2.2.2.2.1))
         (Idx l20.2.2.2.1.a l20.2.2.2.1.n 1 l20.2.2.2.2.2.1 fun a24=>
         LoadT (.sc .str) w22 a24 fun x25=>
         CallT Tryd.prog 45 #[(.int .i64 l20.1),(.string x25)] (.sc (.int .i64)) w22 (fun r26 w27=>
          Br ((r26:Int) != 0)
           (StoreN w27 l20.2.2.1 [(.int .i64 0),(.int .i64 0),(.slice none 0 0),(.slice none 0 0)] fun w29=>
           LoadT (.agg [.int .i64,.int .i64,.sl,.sl]) w29 l20.2.2.1 fun x30=>
           R (.returned (.tuple #[(.agg #[(.int .i64 x30.1),(.int .i64 x30.2.1),(.slice x30.2.2.1.a x30.2.2.1.n x30.2.2.1.c),(.slice x30.2.2.2.1.a x30.2.2.2.1.n x30.2.2.2.1.c)]),(.int .i64 4)])) w29)
           (I23 (l20.1,l20.2.1,l20.2.2.1,l20.2.2.2.1,l20.2.2.2.2.1,(IntKind.wrap .i64 (l20.2.2.2.2.2.1 + 1)),()) w27)) (fun h28 w27=>R (.panicked h28) w27))
         (CallT Tryd.prog 46 #[(.int .i64 l20.1)] (.sc .ptr) w22 (fun r31 w32=>
          LoopT (σ:=Addr × Option Addr × Sl × Int × Int × Unit) (l20.2.2.1,r31,l20.2.1,((l20.2.1.n:Nat):Int),0,()) w32 fun l34 g35 w36 I37=>
           Br (decide ((l34.2.2.2.2.1:Int) < l34.2.2.2.1))
            (Idx l34.2.2.1.a l34.2.2.1.n 1 l34.2.2.2.2.1 fun a38=>
            LoadT (.sc .str) w36 a38 fun x39=>
            CallT Tryd.prog 48 #[(.string x39)] (.sc .str) w36 (fun r40 w41=>
             CallN Tryd.prog 47 #[(.pointer l34.2.1),(.int .i64 0),(.string r40),(.int .i64 0)] [] w41 (fun r43 w44=>
              I37 (l34.1,l34.2.1,l34.2.2.1,l34.2.2.2.1,(IntKind.wrap .i64 (l34.2.2.2.2.1 + 1)),()) w44) (fun h45 w44=>R (.panicked h45) w44)) (fun h42 w41=>R (.panicked h42) w41))
            (CallN Tryd.prog 49 #[(.pointer l34.2.1),(.int .i64 0)] [.agg [.int .i64,.int .i64,.sl,.sl],.sc (.int .i64)] w36 (fun r46 w47=>
             StoreN w47 l34.1 [(.int .i64 r46.1.1),(.int .i64 r46.1.2.1),(.slice r46.1.2.2.1.a r46.1.2.2.1.n r46.1.2.2.1.c),(.slice r46.1.2.2.2.1.a r46.1.2.2.2.1.n r46.1.2.2.2.1.c)] fun w49=>
             LoadT (.agg [.int .i64,.int .i64,.sl,.sl]) w49 l34.1 fun x50=>
             R (.returned (.tuple #[(.agg #[(.int .i64 x50.1),(.int .i64 x50.2.1),(.slice x50.2.2.1.a x50.2.2.1.n x50.2.2.1.c),(.slice x50.2.2.2.1.a x50.2.2.2.1.n x50.2.2.2.1.c)]),(.int .i64 r46.2.1)])) w49) (fun h48 w47=>R (.panicked h48) w47))) (fun h33 w32=>R (.panicked h33) w32)))) fun J14=>
      Br (decide ((((l8.2.1.n:Nat):Int):Int) > 200))
       (J14 (l8.1,l8.2.1,l8.2.2.1,true,()) w10)
       (J14 (l8.1,l8.2.1,l8.2.2.1,(decide ((l8.2.2.2.1:Int) > 20000)),()) w10)))) (fun h5 w4=>R (.panicked h5) w4)
theorem fold_Fold.calls (p0:Int) (p1:Sl) {R:Ending → World → Prop} {w:World} (h:fold_Fold.sh p0 p1 R w):Calls Tryd.prog 12 #[(.int .i64 p0),(.slice p1.a p1.n p1.c)] w R:=calls_of_wpc mixed Tryd.func12 (by kernel_rfl) (by kernel_rfl) ((show _ = wpc Tryd.prog fold_Fold.ann fold_Fold.body (fnKs Tryd.prog Tryd.f12 R) [] (env0 #[(.int .i64 p0),(.slice p1.a p1.n p1.c)]) w by kernel_rfl).mp h)
noncomputable def fold_Basis.ann:Ann where
 loops:=fun | _=>[]
 joins:=fun | _=>none
noncomputable def fold_Basis.body:Code:=match Tryd.f17.body with | some c=>c | none=>.skip
def fold_Basis.sh (p0:Int) (p1_0:Int) (p1_1:Int) (p1_2:Sl) (p1_3:Sl) (R:Ending → World → Prop) (w:World):Prop:=
 New w (.cells #[(.int .i64 p1_0),(.int .i64 p1_1),(.slice p1_2.a p1_2.n p1_2.c),(.slice p1_3.a p1_3.n p1_3.c)] 27) fun b1 w2=>
 LoadT (.agg [.int .i64,.int .i64,.sl,.sl]) w2 (Addr.mk b1 0 none) fun x3=>
 New w2 (.cells #[(.int .i64 x3.1),(.int .i64 x3.2.1),(.slice x3.2.2.1.a x3.2.2.1.n x3.2.2.1.c),(.slice x3.2.2.2.1.a x3.2.2.2.1.n x3.2.2.2.1.c)] 27) fun b4 w5=>
 CallT Tryd.prog 55 #[(.int .i64 p0),(.slice (some (Addr.mk b4 0 none)) 1 1),(.slice none 0 0)] (.sc (.int .i64)) w5 (fun r6 w7=>
  Br ((r6:Int) != 0)
   (R (.returned (.tuple #[(.slice none 0 0),(.int .i64 r6)])) w7)
   (LoadT (.agg [.int .i64,.int .i64,.sl,.sl]) w7 (Addr.mk b1 0 none) fun x9=>
   CallT Tryd.prog 56 #[(.agg #[(.int .i64 x9.1),(.int .i64 x9.2.1),(.slice x9.2.2.1.a x9.2.2.1.n x9.2.2.1.c),(.slice x9.2.2.2.1.a x9.2.2.2.1.n x9.2.2.2.1.c)])] (.agg [.sl,.map,.sl]) w7 (fun r10 w11=>
    R (.returned (.tuple #[(.slice r10.2.2.1.a r10.2.2.1.n r10.2.2.1.c),(.int .i64 0)])) w11) (fun h12 w11=>R (.panicked h12) w11))) (fun h8 w7=>R (.panicked h8) w7)
theorem fold_Basis.calls (p0:Int) (p1_0:Int) (p1_1:Int) (p1_2:Sl) (p1_3:Sl) {R:Ending → World → Prop} {w:World} (h:fold_Basis.sh p0 p1_0 p1_1 p1_2 p1_3 R w):Calls Tryd.prog 17 #[(.int .i64 p0),(.agg #[(.int .i64 p1_0),(.int .i64 p1_1),(.slice p1_2.a p1_2.n p1_2.c),(.slice p1_3.a p1_3.n p1_3.c)])] w R:=calls_of_wpc mixed Tryd.func17 (by kernel_rfl) (by kernel_rfl) ((show _ = wpc Tryd.prog fold_Basis.ann fold_Basis.body (fnKs Tryd.prog Tryd.f17 R) [] (env0 #[(.int .i64 p0),(.agg #[(.int .i64 p1_0),(.int .i64 p1_1),(.slice p1_2.a p1_2.n p1_2.c),(.slice p1_3.a p1_3.n p1_3.c)])]) w by kernel_rfl).mp h)
noncomputable def fold_Member.ann:Ann where
 loops:=fun | _=>[]
 joins:=fun | _=>none
noncomputable def fold_Member.body:Code:=match Tryd.f20.body with | some c=>c | none=>.skip
def fold_Member.sh (p0:Int) (p1_0:Int) (p1_1:Int) (p1_2:Sl) (p1_3:Sl) (p2:ByteArray) (R:Ending → World → Prop) (w:World):Prop:=
 New w (.cells #[(.int .i64 p1_0),(.int .i64 p1_1),(.slice p1_2.a p1_2.n p1_2.c),(.slice p1_3.a p1_3.n p1_3.c)] 27) fun b1 w2=>
 LoadT (.agg [.int .i64,.int .i64,.sl,.sl]) w2 (Addr.mk b1 0 none) fun x3=>
 New w2 (.cells #[(.int .i64 x3.1),(.int .i64 x3.2.1),(.slice x3.2.2.1.a x3.2.2.1.n x3.2.2.1.c),(.slice x3.2.2.2.1.a x3.2.2.2.1.n x3.2.2.2.1.c)] 27) fun b4 w5=>
 New w5 (.cells #[(.string p2)] 9) fun b6 w7=>
 CallT Tryd.prog 55 #[(.int .i64 p0),(.slice (some (Addr.mk b4 0 none)) 1 1),(.slice (some (Addr.mk b6 0 none)) 1 1)] (.sc (.int .i64)) w7 (fun r8 w9=>
  Br ((r8:Int) != 0)
   (R (.returned (.tuple #[(.bool false),(.int .i64 r8)])) w9)
   (LoadT (.agg [.int .i64,.int .i64,.sl,.sl]) w9 (Addr.mk b1 0 none) fun x11=>
   CallT Tryd.prog 58 #[(.agg #[(.int .i64 x11.1),(.int .i64 x11.2.1),(.slice x11.2.2.1.a x11.2.2.1.n x11.2.2.1.c),(.slice x11.2.2.2.1.a x11.2.2.2.1.n x11.2.2.2.1.c)]),(.string p2)] (.sc (.int .i64)) w9 (fun r12 w13=>
    R (.returned (.tuple #[(.bool ((r12:Int) == 0)),(.int .i64 0)])) w13) (fun h14 w13=>R (.panicked h14) w13))) (fun h10 w9=>R (.panicked h10) w9)
theorem fold_Member.calls (p0:Int) (p1_0:Int) (p1_1:Int) (p1_2:Sl) (p1_3:Sl) (p2:ByteArray) {R:Ending → World → Prop} {w:World} (h:fold_Member.sh p0 p1_0 p1_1 p1_2 p1_3 p2 R w):Calls Tryd.prog 20 #[(.int .i64 p0),(.agg #[(.int .i64 p1_0),(.int .i64 p1_1),(.slice p1_2.a p1_2.n p1_2.c),(.slice p1_3.a p1_3.n p1_3.c)]),(.string p2)] w R:=calls_of_wpc mixed Tryd.func20 (by kernel_rfl) (by kernel_rfl) ((show _ = wpc Tryd.prog fold_Member.ann fold_Member.body (fnKs Tryd.prog Tryd.f20 R) [] (env0 #[(.int .i64 p0),(.agg #[(.int .i64 p1_0),(.int .i64 p1_1),(.slice p1_2.a p1_2.n p1_2.c),(.slice p1_3.a p1_3.n p1_3.c)]),(.string p2)]) w by kernel_rfl).mp h)
noncomputable def fold_Express.ann:Ann where
 loops:=fun | 10=>[(4,.sc .adr),(9,.sc .adr),(10,.sc .sl),(11,.sc (.int .i64)),(36,.sc .sl),(37,.sc (.int .i64)),(38,.sc (.int .i64))] | _=>[]
 joins:=fun | 17=>some [(4,.sc .adr),(9,.sc .adr),(10,.sc .sl),(14,.sc (.int .i64)),(15,.sc (.int .i64)),(16,.sc .adr),(36,.sc .sl),(37,.sc (.int .i64)),(38,.sc (.int .i64))] | _=>none
noncomputable def fold_Express.body:Code:=match Tryd.f21.body with | some c=>c | none=>.skip
def fold_Express.sh (p0:Int) (p1_0:Int) (p1_1:Int) (p1_2:Sl) (p1_3:Sl) (p2:ByteArray) (R:Ending → World → Prop) (w:World):Prop:=
 New w (.cells #[(.int .i64 p1_0),(.int .i64 p1_1),(.slice p1_2.a p1_2.n p1_2.c),(.slice p1_3.a p1_3.n p1_3.c)] 27) fun b1 w2=>
 LoadT (.agg [.int .i64,.int .i64,.sl,.sl]) w2 (Addr.mk b1 0 none) fun x3=>
 New w2 (.cells #[(.int .i64 x3.1),(.int .i64 x3.2.1),(.slice x3.2.2.1.a x3.2.2.1.n x3.2.2.1.c),(.slice x3.2.2.2.1.a x3.2.2.2.1.n x3.2.2.2.1.c)] 27) fun b4 w5=>
 New w5 (.cells #[(.string p2)] 9) fun b6 w7=>
 CallT Tryd.prog 55 #[(.int .i64 p0),(.slice (some (Addr.mk b4 0 none)) 1 1),(.slice (some (Addr.mk b6 0 none)) 1 1)] (.sc (.int .i64)) w7 (fun r8 w9=>
  Br ((r8:Int) != 0)
   (R (.returned (.tuple #[(.slice none 0 0),(.int .i64 r8)])) w9)
   (LoadT (.agg [.int .i64,.int .i64,.sl,.sl]) w9 (Addr.mk b1 0 none) fun x11=>
   CallT Tryd.prog 58 #[(.agg #[(.int .i64 x11.1),(.int .i64 x11.2.1),(.slice x11.2.2.1.a x11.2.2.1.n x11.2.2.1.c),(.slice x11.2.2.2.1.a x11.2.2.2.1.n x11.2.2.2.1.c)]),(.string p2)] (.sc (.int .i64)) w9 (fun r12 w13=>
    Br ((r12:Int) != 0)
     (R (.returned (.tuple #[(.slice none 0 0),(.int .i64 211)])) w13)
     (LoadT (.agg [.int .i64,.int .i64,.sl,.sl]) w13 (Addr.mk b1 0 none) fun x15=>
     CallT Tryd.prog 56 #[(.agg #[(.int .i64 x15.1),(.int .i64 x15.2.1),(.slice x15.2.2.1.a x15.2.2.1.n x15.2.2.1.c),(.slice x15.2.2.2.1.a x15.2.2.2.1.n x15.2.2.2.1.c)])] (.agg [.sl,.map,.sl]) w13 (fun r16 w17=>
      New w17 (.cells #[(.slice none 0 0),(.map none),(.slice none 0 0)] 93) fun b19 w20=>
      StoreN w20 (Addr.mk b19 0 none) [(.slice r16.1.a r16.1.n r16.1.c),(.map r16.2.1),(.slice r16.2.2.1.a r16.2.2.1.n r16.2.2.1.c)] fun w21=>
      CallT Tryd.prog 48 #[(.string p2)] (.sc .str) w21 (fun r22 w23=>
       RunT Tryd.prog (.sc .sl) (convert 9 87 (.string r22)) w23 fun r25 w26=>
       LoopT (σ:=Addr × Addr × Sl × Int × Sl × Int × Int × Unit) ((Addr.mk b1 0 none),(Addr.mk b19 0 none),⟨none,0,0⟩,0,r25,((r25.n:Nat):Int),0,()) w26 fun l27 g28 w29 I30=>
        Br (decide ((l27.2.2.2.2.2.2.1:Int) < l27.2.2.2.2.2.1))
         (Idx l27.2.2.2.2.1.a l27.2.2.2.2.1.n 1 l27.2.2.2.2.2.2.1 fun a31=>
         LoadT (.sc (.int .u8)) w29 a31 fun x32=>
         CallT Tryd.prog 59 #[(.int .u8 x32)] (.sc (.int .i64)) w29 (fun r33 w34=>
          LoadT (.sc .sl) w34 (l27.1.add 3) fun x36=>
          Idx x36.a x36.n 1 l27.2.2.2.1 fun a37=>
          LoadT (.sc .sl) w34 a37 fun x38=>
          Idx x38.a x38.n 1 r33 fun a39=>
          LoadT (.sc (.int .i64)) w34 a39 fun x40=>
          New w34 (.cells #[(.int .i64 0),(.int .i64 0)] 96) fun b41 w42=>
          StoreN w42 (Addr.mk b41 0 none) [(.int .i64 l27.2.2.2.1),(.int .i64 r33)] fun w43=>
          Join (σ:=Addr × Addr × Sl × Int × Int × Addr × Sl × Int × Int × Unit) (fun j46 g45 w48=>
           LoadT (.sc .map) w48 (j46.2.1.add 1) fun x49=>
           LoadT (.agg [.int .i64,.int .i64]) w48 j46.2.2.2.2.2.1 fun x50=>
           RunN Tryd.prog [.sc (.int .i64),.sc .bool] (Instr.lookup 91 (.map x49) (.agg #[(.int .i64 x50.1),(.int .i64 x50.2.1)]) true) w48 fun r51 w52=>
           Br r51.2.1
            ((2:Int) ≠ 0 ∧
            New w52 (.cells #[(.int .i64 r51.1),(.bool (((Int.tmod j46.2.2.2.1 2):Int) == 1))] 83) fun b53 w54=>
            RunT Tryd.prog (.sc .sl) (Builtin.append_ #[38,38] 38 #[(.slice j46.2.2.1.a j46.2.2.1.n j46.2.2.1.c),(.slice (some (Addr.mk b53 0 none)) 1 1)]) w54 fun r55 w56=>
            I30 (j46.1,j46.2.1,r55,j46.2.2.2.2.1,j46.2.2.2.2.2.2.1,j46.2.2.2.2.2.2.2.1,(IntKind.wrap .i64 (j46.2.2.2.2.2.2.2.2.1 + 1)),()) w56)
            (I30 (j46.1,j46.2.1,j46.2.2.1,j46.2.2.2.2.1,j46.2.2.2.2.2.2.1,j46.2.2.2.2.2.2.2.1,(IntKind.wrap .i64 (j46.2.2.2.2.2.2.2.2.1 + 1)),()) w52)) fun J44=>
           (2:Int) ≠ 0 ∧
           Br (((Int.tmod r33 2):Int) == 1)
            (StoreN w43 (Addr.mk b41 0 none) [(.int .i64 x40),(.int .i64 (Go.bits .xor .i64 r33 1))] fun w47=>
            J44 (l27.1,l27.2.1,l27.2.2.1,r33,x40,(Addr.mk b41 0 none),l27.2.2.2.2.1,l27.2.2.2.2.2.1,l27.2.2.2.2.2.2.1,()) w47)
            (J44 (l27.1,l27.2.1,l27.2.2.1,r33,x40,(Addr.mk b41 0 none),l27.2.2.2.2.1,l27.2.2.2.2.2.1,l27.2.2.2.2.2.2.1,()) w43)) (fun h35 w34=>R (.panicked h35) w34))
         (R (.returned (.tuple #[(.slice l27.2.2.1.a l27.2.2.1.n l27.2.2.1.c),(.int .i64 0)])) w29)) (fun h24 w23=>R (.panicked h24) w23)) (fun h18 w17=>R (.panicked h18) w17))) (fun h14 w13=>R (.panicked h14) w13))) (fun h10 w9=>R (.panicked h10) w9)
theorem fold_Express.calls (p0:Int) (p1_0:Int) (p1_1:Int) (p1_2:Sl) (p1_3:Sl) (p2:ByteArray) {R:Ending → World → Prop} {w:World} (h:fold_Express.sh p0 p1_0 p1_1 p1_2 p1_3 p2 R w):Calls Tryd.prog 21 #[(.int .i64 p0),(.agg #[(.int .i64 p1_0),(.int .i64 p1_1),(.slice p1_2.a p1_2.n p1_2.c),(.slice p1_3.a p1_3.n p1_3.c)]),(.string p2)] w R:=calls_of_wpc mixed Tryd.func21 (by kernel_rfl) (by kernel_rfl) ((show _ = wpc Tryd.prog fold_Express.ann fold_Express.body (fnKs Tryd.prog Tryd.f21 R) [] (env0 #[(.int .i64 p0),(.agg #[(.int .i64 p1_0),(.int .i64 p1_1),(.slice p1_2.a p1_2.n p1_2.c),(.slice p1_3.a p1_3.n p1_3.c)]),(.string p2)]) w by kernel_rfl).mp h)
noncomputable def fold_Index.ann:Ann where
 loops:=fun | 5=>[(0,.sc (.int .i64)),(3,.sc .adr),(17,.sc .sl),(18,.sc (.int .i64)),(19,.sc (.int .i64))] | _=>[]
 joins:=fun | _=>none
noncomputable def fold_Index.body:Code:=match Tryd.f26.body with | some c=>c | none=>.skip
def fold_Index.sh (p0:Int) (p1_0:Int) (p1_1:Int) (p1_2:Sl) (p1_3:Sl) (R:Ending → World → Prop) (w:World):Prop:=
 New w (.cells #[(.int .i64 p1_0),(.int .i64 p1_1),(.slice p1_2.a p1_2.n p1_2.c),(.slice p1_3.a p1_3.n p1_3.c)] 27) fun b1 w2=>
 LoadT (.agg [.int .i64,.int .i64,.sl,.sl]) w2 (Addr.mk b1 0 none) fun x3=>
 New w2 (.cells #[(.int .i64 x3.1),(.int .i64 x3.2.1),(.slice x3.2.2.1.a x3.2.2.1.n x3.2.2.1.c),(.slice x3.2.2.2.1.a x3.2.2.2.1.n x3.2.2.2.1.c)] 27) fun b4 w5=>
 CallT Tryd.prog 55 #[(.int .i64 p0),(.slice (some (Addr.mk b4 0 none)) 1 1),(.slice none 0 0)] (.sc (.int .i64)) w5 (fun r6 w7=>
  Br ((r6:Int) != 0)
   (R (.returned (.tuple #[(.int .i64 0),(.int .i64 r6)])) w7)
   (LoadT (.sc .sl) w7 ((Addr.mk b1 0 none).add 3) fun x9=>
   LoopT (σ:=Int × Addr × Sl × Int × Int × Unit) (p0,(Addr.mk b1 0 none),x9,((x9.n:Nat):Int),0,()) w7 fun l10 g11 w12 I13=>
    Br (decide ((l10.2.2.2.2.1:Int) < l10.2.2.2.1))
     (Idx l10.2.2.1.a l10.2.2.1.n 1 l10.2.2.2.2.1 fun a14=>
     LoadT (.sc .sl) w12 a14 fun x15=>
     CallT Tryd.prog 62 #[(.slice x15.a x15.n x15.c)] (.sc (.int .i64)) w12 (fun r16 w17=>
      Br (decide ((r16:Int) < (IntKind.wrap .i64 (2 * l10.1))))
       (R (.returned (.tuple #[(.int .i64 0),(.int .i64 0)])) w17)
       (I13 (l10.1,l10.2.1,l10.2.2.1,l10.2.2.2.1,(IntKind.wrap .i64 (l10.2.2.2.2.1 + 1)),()) w17)) (fun h18 w17=>R (.panicked h18) w17))
     (LoadT (.sc .sl) w12 (l10.2.1.add 3) fun x19=>
     R (.returned (.tuple #[(.int .i64 ((x19.n:Nat):Int)),(.int .i64 0)])) w12))) (fun h8 w7=>R (.panicked h8) w7)
theorem fold_Index.calls (p0:Int) (p1_0:Int) (p1_1:Int) (p1_2:Sl) (p1_3:Sl) {R:Ending → World → Prop} {w:World} (h:fold_Index.sh p0 p1_0 p1_1 p1_2 p1_3 R w):Calls Tryd.prog 26 #[(.int .i64 p0),(.agg #[(.int .i64 p1_0),(.int .i64 p1_1),(.slice p1_2.a p1_2.n p1_2.c),(.slice p1_3.a p1_3.n p1_3.c)])] w R:=calls_of_wpc mixed Tryd.func26 (by kernel_rfl) (by kernel_rfl) ((show _ = wpc Tryd.prog fold_Index.ann fold_Index.body (fnKs Tryd.prog Tryd.f26 R) [] (env0 #[(.int .i64 p0),(.agg #[(.int .i64 p1_0),(.int .i64 p1_1),(.slice p1_2.a p1_2.n p1_2.c),(.slice p1_3.a p1_3.n p1_3.c)])]) w by kernel_rfl).mp h)
end Go.Proofs.YtffdjfkekdoeaaaDoor
end
section
namespace Go.Proofs.YtffdjfkekdoeaaaDoor.Fo
open Fw
abbrev tI:Ty:=.sc (.int .i64)
abbrev tP:Ty:=.agg [.int .i64,.int .i64]
def ofN (n:Nat):Int:=(n:Int)
def ofO:Option Nat → Int
 | none=>-1
 | some n=>(n:Int)
def ofP (p:Nat × Nat):Int × Int × Unit:=((p.1:Int),(p.2:Int),())
abbrev OwnN (w:World) (s:Sl) (l:List Nat):Prop:=OwnT w 3 tI s (l.map ofN)
abbrev at0 (b:Nat):Addr:=Addr.mk b 0 none
theorem ok85:slOk Tryd.prog 85 3 1 8 = true:=by kernel_rfl
theorem ok25:slOk Tryd.prog 25 85 1 24 = true:=by kernel_rfl
theorem ok106:slOk Tryd.prog 106 96 2 16 = true:=by kernel_rfl
theorem zero3:(Tryd.prog.info? 3).bind (·.zero) = some (.int .i64 0):=by kernel_rfl
theorem zero85:(Tryd.prog.info? 85).bind (·.zero) = some (.slice none 0 0):=by kernel_rfl
theorem find_ret {w:World} {a:Addr} {pa:Sl} (ha:¬ pa.own a.block) {K:Nat} {par par':List Nat} {s r:Nat} (hh:w.cell? (a.add 0) = some pa.v) (ho:OwnN w pa par) (hf:findF K par s = some (par',r)) :
  Ret Tryd.prog 82 #[.pointer (some a),.int .i64 (s:Int)] tI w fun x w'=>x = (r:Int) ∧ w'.cell? (a.add 0) = some pa.v ∧ OwnN w' pa par' ∧ Chg pa.own w w':=by
 refine fold_union_find.calls _ _ ?_
 unfold fold_union_find.sh
 refine LoopT.fuel (fun k x w'=>∃ (par:List Nat) (s:Nat),x = (some a,(s:Int),()) ∧ w'.cell? (a.add 0) = some pa.v ∧ OwnN w' pa par ∧ Chg pa.own w w' ∧ findF k par s = some (par',r)) K ⟨par,s,rfl,hh,ho,Chg.refl w,hf⟩ ?_
 rintro k x g w1 C ⟨par,s,rfl,hh,ho,hc,hf⟩ hC
 dsimp only
 refine NilCk.mk ?_
 refine LoadT.sc hh ?_
 cases k with
 | zero=>simp [findF] at hf
 | succ k=>
 simp only [findF] at hf
 split at hf
 ·cases hf
 rename_i p hp
 have hp':(par.map ofN)[s]? = some (ofN p):=by simp [hp]
 refine ho.rd.get (t:=tI) s rfl hp' ?_
 split at hf
 ·rename_i he
  subst he
  cases hf
  refine Br.f (by simp [ofN]) ⟨_,rfl,rfl,hh,ho,hc⟩
 ·rename_i hne
  refine Br.t (by rw [bne_iff_ne]; exact fun h=>hne (Int.ofNat.inj h)) ?_
  split at hf
  ·cases hf
  rename_i gp hgp
  have hgp':(par.map ofN)[p]? = some (ofN gp):=by simp [hgp]
  have hd:Chg Nil w1 w1.drew:=Chg.drew w1
  have hh1:w1.drew.cell? (a.add 0) = some pa.v:=hh
  have ho1:OwnN w1.drew pa par:=ho.chg hd (fun _ _ h=>h)
  refine NilCk.mk (LoadT.sc hh1 (NilCk.mk (LoadT.sc hh1 (NilCk.mk (LoadT.sc hh1 ?_)))))
  refine ho1.rd.get (t:=tI) s rfl hp' ?_
  refine ho1.rd.get (t:=tI) p rfl hgp' ?_
  have hsl:s < (par.map ofN).length:=(List.getElem?_eq_some_iff.1 hp').1
  refine ho1.idx (t:=tI) s rfl hsl fun g hg=>?_
  refine ho1.store (s:=.int .i64) hg s hsl (x:=ofN gp) fun w2 ho2 hc2 hsz=>?_
  have hbl:a.block ≠ g:=fun he=>ha ⟨_,hg,he.symm⟩
  have hc2':Chg pa.own w1 w2:=(hd.nil.then (hc2.mono fun i _ hi=>⟨_,hg,hi.symm⟩))
  have hh2:w2.cell? (a.add 0) = some pa.v:=hc2.cell hh1 (by rw [add_block]; exact hbl)
  refine NilCk.mk (LoadT.sc hh2 ?_)
  have ho2':OwnN w2 pa (par.set s gp):=by unfold OwnN; rw [List.map_set]; exact ho2
  refine ho2'.rd.get (t:=tI) s rfl (x:=ofN gp) (by rw [List.getElem?_map,List.getElem?_set_self (by simpa using hsl)]; rfl) ?_
  exact hC _ _ k (by omega) ⟨par.set s gp,gp,rfl,hh2,ho2',hc.then hc2',hf⟩
end Go.Proofs.YtffdjfkekdoeaaaDoor.Fo
end
section
namespace Go.Proofs.YtffdjfkekdoeaaaDoor.Fo
open Fw
structure Mem where
 pa:Sl
 na:Sl
 ta:Sl
 rows:List Nat
abbrev rowSl (m b:Nat):Sl:=⟨some ⟨b,0,none⟩,m,m⟩
structure Rep (w:World) (fb:Nat) (st:St) (M:Mem):Prop where
 head:w.heap[fb]? = some (.cells #[M.pa.v,.int .i64 (st.m:Int),M.na.v,M.ta.v] 125 (0,0))
 par:OwnN w M.pa st.par
 next:OwnT w 85 (.sc .sl) M.na (M.rows.map (rowSl st.m))
 todo:OwnT w 96 tP M.ta (st.todo.map ofP)
 len:M.rows.length = st.next.length
 row:∀ (i b:Nat) (row:List (Option Nat)),M.rows[i]? = some b → st.next[i]? = some row → OwnT w 3 tI (rowSl st.m b) (row.map ofO)
 nodup:M.rows.Nodup
 apart:∀ b ∈ M.rows,¬ M.pa.own b
 mle:st.m ≤ 64
def Mem.foot (M:Mem) (fb:Nat):Nat → Prop:=fun k=>k = fb ∨ M.pa.own k ∨ M.na.own k ∨ M.ta.own k ∨ k ∈ M.rows
theorem ne_of_elem {w:World} {i j:Nat} {c c':Array Value} {e e':TypeId} {f f':Nat × Nat} (h:w.heap[i]? = some (.cells c e f)) (h':w.heap[j]? = some (.cells c' e' f')) (hne:e ≠ e'):i ≠ j:=fun he=>by
 subst he; rw [h] at h'; simp only [Option.some.injEq,Obj.cells.injEq] at h'; exact hne h'.2.1
section
variable {w:World} {fb:Nat} {st:St} {M:Mem}
theorem Rep.rowAt (h:Rep w fb st M) {b:Nat} (hb:b ∈ M.rows):∃ (i:Nat) (row:List (Option Nat)),M.rows[i]? = some b ∧ st.next[i]? = some row ∧ OwnT w 3 tI (rowSl st.m b) (row.map ofO):=by
 obtain ⟨i,hi⟩:=List.getElem?_of_mem hb
 have hlt:i < st.next.length:=by rw [← h.len]; exact (List.getElem?_eq_some_iff.1 hi).1
 exact ⟨i,st.next[i],hi,List.getElem?_eq_getElem hlt,h.row i b _ hi (List.getElem?_eq_getElem hlt)⟩
theorem Rep.rowElem (h:Rep w fb st M) {b:Nat} (hb:b ∈ M.rows):∃ cur,w.heap[b]? = some (.cells cur 3 (0,0)):=by
 obtain ⟨i,row,_,_,ho⟩:=h.rowAt hb
 exact ho.elem ⟨_,rfl,rfl⟩
theorem Rep.lt (h:Rep w fb st M):∀ k,M.foot fb k → k < w.heap.size:=by
 rintro k (rfl | ⟨a,ha,rfl⟩ | ⟨a,ha,rfl⟩ | ⟨a,ha,rfl⟩ | hk)
 ·exact lt_of_heap h.head
 ·exact h.par.lt a ha
 ·exact h.next.lt a ha
 ·exact h.todo.lt a ha
 ·obtain ⟨cur,hc⟩:=h.rowElem hk; exact lt_of_heap hc
theorem Rep.pa_fb (h:Rep w fb st M):¬ M.pa.own fb:=fun hk=>by
 obtain ⟨cur,hc⟩:=h.par.elem hk; exact ne_of_elem hc h.head (by decide) rfl
theorem Rep.na_fb (h:Rep w fb st M):¬ M.na.own fb:=fun hk=>by
 obtain ⟨cur,hc⟩:=h.next.elem hk; exact ne_of_elem hc h.head (by decide) rfl
theorem Rep.ta_fb (h:Rep w fb st M):¬ M.ta.own fb:=fun hk=>by
 obtain ⟨cur,hc⟩:=h.todo.elem hk; exact ne_of_elem hc h.head (by decide) rfl
theorem Rep.row_fb (h:Rep w fb st M) {b:Nat} (hb:b ∈ M.rows):b ≠ fb:=by
 obtain ⟨cur,hc⟩:=h.rowElem hb; exact ne_of_elem hc h.head (by decide)
theorem Rep.pa_na (h:Rep w fb st M) {k:Nat} (h1:M.pa.own k):¬ M.na.own k:=fun h2=>by
 obtain ⟨_,c1⟩:=h.par.elem h1; obtain ⟨_,c2⟩:=h.next.elem h2; exact ne_of_elem c1 c2 (by decide) rfl
theorem Rep.pa_ta (h:Rep w fb st M) {k:Nat} (h1:M.pa.own k):¬ M.ta.own k:=fun h2=>by
 obtain ⟨_,c1⟩:=h.par.elem h1; obtain ⟨_,c2⟩:=h.todo.elem h2; exact ne_of_elem c1 c2 (by decide) rfl
theorem Rep.na_ta (h:Rep w fb st M) {k:Nat} (h1:M.na.own k):¬ M.ta.own k:=fun h2=>by
 obtain ⟨_,c1⟩:=h.next.elem h1; obtain ⟨_,c2⟩:=h.todo.elem h2; exact ne_of_elem c1 c2 (by decide) rfl
theorem Rep.row_na (h:Rep w fb st M) {k:Nat} (h1:k ∈ M.rows):¬ M.na.own k:=fun h2=>by
 obtain ⟨_,c1⟩:=h.rowElem h1; obtain ⟨_,c2⟩:=h.next.elem h2; exact ne_of_elem c1 c2 (by decide) rfl
theorem Rep.row_ta (h:Rep w fb st M) {k:Nat} (h1:k ∈ M.rows):¬ M.ta.own k:=fun h2=>by
 obtain ⟨_,c1⟩:=h.rowElem h1; obtain ⟨_,c2⟩:=h.todo.elem h2; exact ne_of_elem c1 c2 (by decide) rfl
theorem Rep.chg (h:Rep w fb st M) {S:Nat → Prop} {w':World} (hc:Chg S w w') (hs:∀ k,M.foot fb k → ¬ S k):Rep w' fb st M where
 head:=hc.heap h.head (hs _ (.inl rfl))
 par:=h.par.chg hc fun a ha=>hs _ (.inr (.inl ⟨a,ha,rfl⟩))
 next:=h.next.chg hc fun a ha=>hs _ (.inr (.inr (.inl ⟨a,ha,rfl⟩)))
 todo:=h.todo.chg hc fun a ha=>hs _ (.inr (.inr (.inr (.inl ⟨a,ha,rfl⟩))))
 len:=h.len
 row:=fun i b row hi hr=>(h.row i b row hi hr).chg hc fun a ha=>by cases ha; exact hs _ (.inr (.inr (.inr (.inr (List.mem_of_getElem? hi)))))
 nodup:=h.nodup
 apart:=h.apart
 mle:=h.mle
theorem Rep.nil (h:Rep w fb st M) {w':World} (hc:Chg Nil w w'):Rep w' fb st M:=h.chg hc fun _ _ h=>h
theorem Rep.setPar (h:Rep w fb st M) {w':World} {par':List Nat} (hc:Chg M.pa.own w w') (ho:OwnN w' M.pa par'):Rep w' fb { st with par:=par' } M where
 head:=hc.heap h.head h.pa_fb
 par:=ho
 next:=h.next.chg hc fun a ha hp=>h.pa_na hp ⟨a,ha,rfl⟩
 todo:=h.todo.chg hc fun a ha hp=>h.pa_ta hp ⟨a,ha,rfl⟩
 len:=h.len
 row:=fun i b row hi hr=>(h.row i b row hi hr).chg hc fun a ha=>by cases ha; exact h.apart b (List.mem_of_getElem? hi)
 nodup:=h.nodup
 apart:=h.apart
 mle:=h.mle
theorem Rep.setRow (h:Rep w fb st M) {w':World} {i b:Nat} {row':List (Option Nat)} (hi:M.rows[i]? = some b) (hc:Chg (· = b) w w') (ho:OwnT w' 3 tI (rowSl st.m b) (row'.map ofO)) :
  Rep w' fb { st with next:=st.next.set i row' } M where
 head:=hc.heap h.head fun he=>h.row_fb (List.mem_of_getElem? hi) he.symm
 par:=h.par.chg hc fun a ha he=>h.apart b (List.mem_of_getElem? hi) ⟨a,ha,he⟩
 next:=h.next.chg hc fun a ha he=>h.row_na (List.mem_of_getElem? hi) ⟨a,ha,he⟩
 todo:=h.todo.chg hc fun a ha he=>h.row_ta (List.mem_of_getElem? hi) ⟨a,ha,he⟩
 len:=by rw [h.len,List.length_set]
 row:=fun j c row hj hr=>by
  by_cases hij:i = j
  ·subst hij
   rw [hi] at hj; cases hj
   have hlt:i < st.next.length:=by rw [← h.len]; exact (List.getElem?_eq_some_iff.1 hi).1
   rw [List.getElem?_set_self hlt] at hr; cases hr
   exact ho
  ·rw [List.getElem?_set_ne hij] at hr
   refine (h.row j c row hj hr).chg hc fun a ha=>?_
   cases ha
   intro he
   dsimp only at he
   subst he
   have h1:=(List.getElem?_eq_some_iff.1 hi); have h2:=(List.getElem?_eq_some_iff.1 hj)
   exact hij ((List.getElem_inj h.nodup).1 (h1.2.trans h2.2.symm))
 nodup:=h.nodup
 apart:=h.apart
 mle:=h.mle
theorem Rep.setTodo (h:Rep w fb st M) {w1 w2:World} {ta':Sl} {todo':List (Nat × Nat)} (hc:Chg M.ta.own w w1) (ho:OwnT w1 96 tP ta' (todo'.map ofP)) (hc2:Chg (· = fb) w1 w2)
  (hh:w2.heap[fb]? = some (.cells #[M.pa.v,.int .i64 (st.m:Int),M.na.v,ta'.v] 125 (0,0))):Rep w2 fb { st with todo:=todo' } { M with ta:=ta' }:=by
 have hcc:Chg (fun k=>M.ta.own k ∨ k = fb) w w2:=hc.trans hc2 (fun _ _ h=>.inl h) (fun _ _ h=>.inr h)
 have hh1:w1.heap[fb]? = _:=hc.heap h.head h.ta_fb
 exact {
  head:=hh
  par:=h.par.chg hcc fun a ha hk=>hk.elim (fun h2=>h.pa_ta ⟨a,ha,rfl⟩ h2) (fun h2=>h.pa_fb ⟨a,ha,h2⟩)
  next:=h.next.chg hcc fun a ha hk=>hk.elim (fun h2=>h.na_ta ⟨a,ha,rfl⟩ h2) (fun h2=>h.na_fb ⟨a,ha,h2⟩)
  todo:=ho.chg hc2 fun a ha he=>by
   obtain ⟨_,c1⟩:=ho.elem ⟨a,ha,rfl⟩
   exact ne_of_elem c1 hh1 (by decide) he
  len:=h.len
  row:=fun i b row hi hr=>(h.row i b row hi hr).chg hcc fun a ha=>by
   cases ha
   exact fun hk=>hk.elim (fun h2=>h.row_ta (List.mem_of_getElem? hi) h2) (fun h2=>h.row_fb (List.mem_of_getElem? hi) h2)
  nodup:=h.nodup
  apart:=h.apart
  mle:=h.mle }
theorem Rep.setPa (h:Rep w fb st M) {w1 w2:World} {pa':Sl} {par':List Nat} (hc:Chg M.pa.own w w1) (ho:OwnN w1 pa' par') (hown:∀ k,pa'.own k → M.pa.own k ∨ w.heap.size ≤ k) (hc2:Chg (· = fb) w1 w2)
  (hh:w2.heap[fb]? = some (.cells #[pa'.v,.int .i64 (st.m:Int),M.na.v,M.ta.v] 125 (0,0))):Rep w2 fb { st with par:=par' } { M with pa:=pa' }:=by
 have hcc:Chg (fun k=>M.pa.own k ∨ k = fb) w w2:=hc.trans hc2 (fun _ _ h=>.inl h) (fun _ _ h=>.inr h)
 have hh1:w1.heap[fb]? = _:=hc.heap h.head h.pa_fb
 exact {
  head:=hh
  par:=ho.chg hc2 fun a ha he=>by
   obtain ⟨_,c1⟩:=ho.elem ⟨a,ha,rfl⟩
   exact ne_of_elem c1 hh1 (by decide) he
  next:=h.next.chg hcc fun a ha hk=>hk.elim (fun h2=>h.pa_na h2 ⟨a,ha,rfl⟩) (fun h2=>h.na_fb ⟨a,ha,h2⟩)
  todo:=h.todo.chg hcc fun a ha hk=>hk.elim (fun h2=>h.pa_ta h2 ⟨a,ha,rfl⟩) (fun h2=>h.ta_fb ⟨a,ha,h2⟩)
  len:=h.len
  row:=fun i b row hi hr=>(h.row i b row hi hr).chg hcc fun a ha=>by
   cases ha
   exact fun hk=>hk.elim (fun h2=>h.apart b (List.mem_of_getElem? hi) h2) (fun h2=>h.row_fb (List.mem_of_getElem? hi) h2)
  nodup:=h.nodup
  apart:=fun b hb hk=>by
   rcases hown b hk with h1 | h1
   ·exact h.apart b hb h1
   ·have:=h.lt b (.inr (.inr (.inr (.inr hb)))); omega
  mle:=h.mle }
theorem Rep.addRow (h:Rep w fb st M) {w1 w2:World} {na':Sl} {b:Nat} {row:List (Option Nat)} (hb:OwnT w 3 tI (rowSl st.m b) (row.map ofO)) (hnew:∀ k,M.foot fb k → k ≠ b) (hc:Chg M.na.own w w1)
  (ho:OwnT w1 85 (.sc .sl) na' ((M.rows ++ [b]).map (rowSl st.m))) (hc2:Chg (· = fb) w1 w2) (hh:w2.heap[fb]? = some (.cells #[M.pa.v,.int .i64 (st.m:Int),na'.v,M.ta.v] 125 (0,0))) :
  Rep w2 fb { st with next:=st.next ++ [row] } { M with na:=na',rows:=M.rows ++ [b] }:=by
 have hcc:Chg (fun k=>M.na.own k ∨ k = fb) w w2:=hc.trans hc2 (fun _ _ h=>.inl h) (fun _ _ h=>.inr h)
 have hh1:w1.heap[fb]? = _:=hc.heap h.head h.na_fb
 have hrow:∀ {c:Nat} {r:List (Option Nat)},OwnT w 3 tI (rowSl st.m c) (r.map ofO) → OwnT w2 3 tI (rowSl st.m c) (r.map ofO):=fun {c r} hr=>hr.chg hcc fun a ha=>by
  cases ha
  obtain ⟨_,c1⟩:=hr.elem ⟨_,rfl,rfl⟩
  rintro (h2 | h2)
  ·obtain ⟨_,c2⟩:=h.next.elem h2; exact ne_of_elem c1 c2 (by decide) rfl
  ·exact ne_of_elem c1 h.head (by decide) h2
 exact {
  head:=hh
  par:=h.par.chg hcc fun a ha hk=>hk.elim (fun h2=>h.pa_na ⟨a,ha,rfl⟩ h2) (fun h2=>h.pa_fb ⟨a,ha,h2⟩)
  next:=ho.chg hc2 fun a ha he=>by
   obtain ⟨_,c1⟩:=ho.elem ⟨a,ha,rfl⟩
   exact ne_of_elem c1 hh1 (by decide) he
  todo:=h.todo.chg hcc fun a ha hk=>hk.elim (fun h2=>h.na_ta h2 ⟨a,ha,rfl⟩) (fun h2=>h.ta_fb ⟨a,ha,h2⟩)
  len:=by rw [List.length_append,List.length_append,h.len]; rfl
  row:=fun i c r hi hr=>by
   by_cases hlt:i < M.rows.length
   ·rw [List.getElem?_append_left hlt] at hi
    rw [List.getElem?_append_left (by rw [← h.len]; exact hlt)] at hr
    exact hrow (h.row i c r hi hr)
   ·rw [List.getElem?_append_right (by omega)] at hi
    rw [List.getElem?_append_right (by rw [← h.len]; omega)] at hr
    rw [← h.len] at hr
    cases hk:i - M.rows.length with
    | zero=>
     rw [hk] at hi hr
     cases hi; cases hr
     exact hrow hb
    | succ n=>rw [hk] at hi; simp at hi
  nodup:=by
   rw [List.nodup_append]
   refine ⟨h.nodup,by simp,fun c hc d hd=>?_⟩
   simp only [List.mem_singleton] at hd
   subst hd
   exact hnew c (.inr (.inr (.inr (.inr hc))))
  apart:=fun c hc hk=>by
   rcases List.mem_append.1 hc with h1 | h1
   ·exact h.apart c h1 hk
   ·simp only [List.mem_singleton] at h1
    subst h1
    exact hnew c (.inr (.inl hk)) rfl
  mle:=h.mle }
theorem cellHead (h:Rep w fb st M):w.cell? ((at0 fb).add 0) = some M.pa.v ∧ w.cell? ((at0 fb).add 1) = some (.int .i64 (st.m:Int)) ∧ w.cell? ((at0 fb).add 2) = some M.na.v ∧ w.cell? ((at0 fb).add 3) = some M.ta.v:=by
 refine ⟨?_,?_,?_,?_⟩ <;> rw [cellOf h.head] <;> rfl
end
structure Step (fb:Nat) (M:Mem) (w w':World) (st':St):Prop where
 go:∃ M',Rep w' fb st' M' ∧ ∀ k,M'.foot fb k → M.foot fb k ∨ w.heap.size ≤ k
 chg:Chg (M.foot fb) w w'
structure StepL (fb:Nat) (M:Mem) (w w':World) (st':St):Prop where
 go:∃ M',M'.rows = M.rows ∧ Rep w' fb st' M' ∧ ∀ k,M'.foot fb k → M.foot fb k ∨ w.heap.size ≤ k
 chg:Chg (M.foot fb) w w'
theorem StepL.step {fb:Nat} {M:Mem} {w w':World} {st':St} (h:StepL fb M w w' st'):Step fb M w w' st':=by
 obtain ⟨⟨M',_,h1,h2⟩,hc⟩:=h; exact ⟨⟨M',h1,h2⟩,hc⟩
theorem Rep.stepL {fb:Nat} {M:Mem} {w w':World} {st':St} (h:Rep w' fb st' M) (hc:Chg (M.foot fb) w w'):StepL fb M w w' st':=⟨⟨M,rfl,h,fun _ h=>.inl h⟩,hc⟩
theorem StepL.pre {fb:Nat} {M M1:Mem} {w w1 w2:World} {st2:St} (he:M1.rows = M.rows) (hc:Chg (M.foot fb) w w1) (hf:∀ k,M1.foot fb k → M.foot fb k ∨ w.heap.size ≤ k) (k:StepL fb M1 w1 w2 st2):StepL fb M w w2 st2:=by
 obtain ⟨⟨M2,he2,hr2,hf2⟩,hc2⟩:=k
 refine ⟨⟨M2,he2.trans he,hr2,fun i hi=>?_⟩,hc.trans hc2 (fun _ _ h=>h) fun i hi h=>?_⟩
 ·rcases hf2 i hi with h | h
  ·exact hf i h
  ·exact .inr (Nat.le_trans hc.size h)
 ·rcases hf i h with h | h
  ·exact h
  ·omega
theorem Step.pre {fb:Nat} {M M1:Mem} {w w1 w2:World} {st2:St} (hc:Chg (M.foot fb) w w1) (hf:∀ k,M1.foot fb k → M.foot fb k ∨ w.heap.size ≤ k) (k:Step fb M1 w1 w2 st2):Step fb M w w2 st2:=by
 obtain ⟨⟨M2,hr2,hf2⟩,hc2⟩:=k
 refine ⟨⟨M2,hr2,fun i hi=>?_⟩,hc.trans hc2 (fun _ _ h=>h) fun i hi h=>?_⟩
 ·rcases hf2 i hi with h | h
  ·exact hf i h
  ·exact .inr (Nat.le_trans hc.size h)
 ·rcases hf i h with h | h
  ·exact h
  ·omega
theorem find_rep {w:World} {fb:Nat} {st:St} {M:Mem} (h:Rep w fb st M) {K:Nat} {par':List Nat} {s r:Nat} (hf:findF K st.par s = some (par',r)) :
  Ret Tryd.prog 82 #[.pointer (some ((at0 fb).add 0)),.int .i64 (s:Int)] tI w fun x w'=>x = (r:Int) ∧ Rep w' fb { st with par:=par' } M ∧ Chg M.pa.own w w':=by
 rw [add0]
 refine Ret.mono (find_ret (a:=at0 fb) (pa:=M.pa) h.pa_fb (cellHead h).1 h.par hf) ?_
 rintro x w' ⟨h1,h2,h3,h4⟩
 exact ⟨h1,h.setPar h4 h3,h4⟩
end Go.Proofs.YtffdjfkekdoeaaaDoor.Fo
end
section
namespace Go.Proofs.YtffdjfkekdoeaaaDoor.Fo
open Fw
theorem head_sz (a b c d:Value):(#[a,b,c,d]:Array Value).size = 4:=rfl
theorem bound_mul {n b:Nat} (h:n ≤ Fo.big) (hb:b ≤ 32):n * b ≤ 140737488355328:=by
 have:n * b ≤ Fo.big * 32:=Nat.mul_le_mul h hb
 simp only [Fo.big] at this
 omega
theorem lead_ret {w:World} {fb:Nat} {st st':St} {M:Mem} (h:Rep w fb st M) {K s x t:Nat} (hf:leadF K st s x t = some st') :
  RetN Tryd.prog 90 #[.pointer (some (at0 fb)),.int .i64 (s:Int),.int .i64 (x:Int),.int .i64 (t:Int)] [] w fun _ w'=>StepL fb M w w' st':=by
 refine fold_folding_lead.calls _ _ _ _ ?_
 unfold fold_folding_lead.sh
 simp only [leadF] at hf
 split at hf
 ·cases hf
 rename_i par1 r hfind
 refine NilCk.mk (Ret.call (find_rep h hfind) ?_)
 rintro _ w1 ⟨rfl,h1,hc1⟩
 split at hf
 ·cases hf
 rename_i row hrow
 have hrl:r < M.rows.length:=by rw [h1.len]; exact (List.getElem?_eq_some_iff.1 hrow).1
 have hb:M.rows[r]? = some M.rows[r]:=List.getElem?_eq_getElem hrl
 have hbs:(M.rows.map (rowSl st.m))[r]? = some (rowSl st.m M.rows[r]):=by rw [List.getElem?_map,hb]; rfl
 have hro:=h1.row r _ row hb hrow
 have hcell:=cellHead h1
 refine NilCk.mk (LoadT.sc (s:=.sl) (x:=M.na) hcell.2.2.1 ?_)
 refine h1.next.rd.get (t:=.sc .sl) r rfl hbs ?_
 split at hf
 ·cases hf
 · -- the letter is free
  rename_i hx
  cases hf
  have hx':(row.map ofO)[x]? = some (-1):=by rw [List.getElem?_map,hx]; rfl
  have hxl:x < (row.map ofO).length:=(List.getElem?_eq_some_iff.1 hx').1
  refine hro.rd.get (t:=tI) x rfl hx' (Br.yes (by decide) ?_)
  refine NilCk.mk (LoadT.sc (s:=.sl) (x:=M.na) hcell.2.2.1 ?_)
  refine h1.next.rd.get (t:=.sc .sl) r rfl hbs ?_
  refine hro.idx (t:=tI) x rfl hxl fun g hg=>?_
  cases hg
  refine hro.store (s:=.int .i64) rfl x hxl (x:=(t:Int)) fun w2 ho2 hc2 _=>?_
  have h2:=h1.setRow (row':=row.set x (some t)) hb hc2 (by rw [List.map_set]; exact ho2)
  refine ⟨(),rfl,⟨M,rfl,h2,fun k hk=>.inl hk⟩,?_⟩
  exact hc1.trans hc2 (fun i _ hi=>.inr (.inl hi)) (fun i _ hi=>.inr (.inr (.inr (.inr (by rw [show i = M.rows[r] from hi]; exact List.getElem_mem hrl)))))
 · -- the letter leads already
  rename_i u hx
  split at hf
  ·rename_i hsm
   cases hf
   have hx':(row.map ofO)[x]? = some (u:Int):=by rw [List.getElem?_map,hx]; rfl
   refine hro.rd.get (t:=tI) x rfl hx' (Br.no (by simp) ?_)
   refine ⟨fun w'=>w'.heap[fb]? = w1.heap[fb]? ∧ OwnT w' 85 (.sc .sl) M.na (M.rows.map (rowSl st.m)) ∧ OwnT w' 3 tI (rowSl st.m M.rows[r]) (row.map ofO),⟨rfl,h1.next.chg (Chg.drew (S:=Nil) w1) (fun _ _ h=>h),hro.chg (Chg.drew (S:=Nil) w1) (fun _ _ h=>h)⟩,?_⟩
   refine NilCk.mk (LoadS.sc (s:=.sl) (x:=M.ta) (fun w' hw=>by rw [cellOf (hw.1.trans h1.head)]; rfl) ?_)
   refine NilCk.mk (LoadS.sc (s:=.sl) (x:=M.na) (fun w' hw=>by rw [cellOf (hw.1.trans h1.head)]; rfl) ?_)
   refine h1.next.idx (t:=.sc .sl) r rfl (by simpa using hrl) fun g hg=>?_
   refine LoadS.sc (s:=.sl) (x:=rowSl st.m M.rows[r]) (fun w' hw=>hw.2.1.rd.cell1 hg hbs) ?_
   have hxl:x < (row.map ofO).length:=(List.getElem?_eq_some_iff.1 hx').1
   refine hro.idx (t:=tI) x rfl hxl fun g' hg'=>?_
   refine LoadS.sc (s:=.int .i64) (x:=(u:Int)) (fun w' hw=>hw.2.2.rd.cell1 hg' hx') ?_
   refine New.mk fun b w2 hb2 hnew hsz hc2=>?_
   have hc12:Chg Nil w1 w2:=(Chg.drew w1).then hc2
   have h2:=h1.nil hc12
   refine ⟨⟨h2.head.trans h1.head.symm,h2.next,h2.row r _ row hb hrow⟩,?_⟩
   have hbb:b = w1.heap.size:=hb2
   refine OwnT.append (t:=tP) ok106 rfl (by decide) h2.todo (m:=1) [ofP (u,t)] rfl (by decide) (fun j v hv=>?_) ?_ ?_ fun ta' w3 ho3 hc3 hown=>?_
   ·rw [cellOf hnew]
    simpa [Ty.cells,ofP] using hv
   ·rw [List.length_map]; exact bound_mul (n:=_ + 1) (by exact hsm) (by decide)
   ·rw [List.length_map]; simp only [maxLen,Fo.big] at hsm ⊢; omega
   have hh3:w3.heap[fb]? = _:=hc3.heap h2.head h2.ta_fb
   refine ⟨⟨hh3.trans h1.head.symm,h2.next.chg hc3 fun a ha hk=>h2.na_ta ⟨a,ha,rfl⟩ hk,(h2.row r _ row hb hrow).chg hc3 fun a ha hk=>by cases ha; exact h2.row_ta (List.mem_of_getElem? hb) hk⟩,?_⟩
   refine NilCk.mk (Store1.at hh3 3 (by rw [head_sz]; decide) rfl fun w4 hh4 hc4 _=>?_)
   have h4:Rep w4 fb { st with par:=par1,todo:=st.todo ++ [(u,t)] } { M with ta:=ta' }:=h2.setTodo hc3 (by rw [List.map_append]; exact ho3) hc4 hh4
   refine ⟨(),rfl,⟨{ M with ta:=ta' },rfl,h4,fun k hk=>?_⟩,?_⟩
   ·rcases hk with hk | hk | hk | hk | hk
    ·exact .inl (.inl hk)
    ·exact .inl (.inr (.inl hk))
    ·exact .inl (.inr (.inr (.inl hk)))
    ·rcases hown k hk with hk | hk
     ·exact .inl (.inr (.inr (.inr (.inl hk))))
     ·exact .inr (Nat.le_trans (Nat.le_trans hc1.size hc12.size) hk)
    ·exact .inl (.inr (.inr (.inr (.inr hk))))
   ·have c1:Chg (M.foot fb) w w1:=hc1.mono fun _ _ h=>.inr (.inl h)
    have c3:Chg (M.foot fb) w2 w3:=hc3.mono fun _ _ h=>.inr (.inr (.inr (.inl h)))
    have c4:Chg (M.foot fb) w3 w4:=hc4.mono fun _ _ h=>.inl h
    exact ((c1.then hc12.nil).then c3).then c4
  ·cases hf
end Go.Proofs.YtffdjfkekdoeaaaDoor.Fo
end
section
namespace Go.Proofs.YtffdjfkekdoeaaaDoor.Fo
open Fw
theorem add_ret {w:World} {fb:Nat} {st:St} {M:Mem} (h:Rep w fb st M) (hs:st.par.length < Fo.big) :
  Ret Tryd.prog 89 #[.pointer (some ((at0 fb).add 0))] tI w fun x w'=>x = (st.par.length:Int) ∧ Step fb M w w' { st with par:=st.par ++ [st.par.length] }:=by
 rw [add0]
 refine fold_union_add.calls _ ?_
 unfold fold_union_add.sh
 refine ⟨fun w'=>w'.cell? ((at0 fb).add 0) = some M.pa.v,(cellHead h).1,?_⟩
 refine NilCk.mk (LoadS.sc (s:=.sl) (x:=M.pa) (fun w' hw=>hw) (NilCk.mk (LoadS.sc (s:=.sl) (x:=M.pa) (fun w' hw=>hw) ?_)))
 refine New.mk fun b w2 hb2 hnew hsz hc2=>?_
 have hc12:Chg Nil w w2:=(Chg.drew w).then hc2
 have h2:=h.nil hc12
 refine ⟨(cellHead h2).1,?_⟩
 have hn:M.pa.n = st.par.length:=by rw [h.par.len,List.length_map]
 refine OwnT.append (t:=tI) (m:=1) ok85 rfl (by decide) h2.par [ofN st.par.length] rfl (by decide) (fun j v hv=>?_) ?_ ?_ fun pa' w3 ho3 hc3 hown=>?_
 ·rw [cellOf hnew,hn]
  simpa [Ty.cells,ofN] using hv
 ·rw [List.length_map]; exact bound_mul (n:=_ + 1) (by exact hs) (by decide)
 ·rw [List.length_map]; simp only [maxLen,Fo.big] at hs ⊢; omega
 have hh3:w3.heap[fb]? = _:=hc3.heap h2.head h2.pa_fb
 refine ⟨(by rw [cellOf hh3]; rfl:w3.cell? ((at0 fb).add 0) = some M.pa.v),?_⟩
 have ho3':OwnN w3 pa' (st.par ++ [st.par.length]):=by unfold OwnN; rw [List.map_append]; exact ho3
 refine NilCk.mk (Store1.at hh3 0 (by rw [head_sz]; decide) rfl fun w4 hh4 hc4 _=>?_)
 have h4:=h2.setPa hc3 ho3' hown hc4 hh4
 refine NilCk.mk (LoadT.sc (s:=.sl) (x:=pa') (cellHead h4).1 ?_)
 have hn':pa'.n = st.par.length + 1:=by rw [ho3'.len,List.length_map,List.length_append]; rfl
 refine ⟨_,rfl,?_,⟨_,h4,fun k hk=>?_⟩,?_⟩
 ·simp only [Fo.big] at hs
  rw [hn']
  have he:((st.par.length + 1:Nat):Int) - 1 = (st.par.length:Int):=by omega
  rw [he,wrap64 (by omega) (by omega)]
 ·rcases hk with hk | hk | hk | hk | hk
  ·exact .inl (.inl hk)
  ·rcases hown k hk with hk | hk
   ·exact .inl (.inr (.inl hk))
   ·exact .inr (Nat.le_trans hc12.size hk)
  ·exact .inl (.inr (.inr (.inl hk)))
  ·exact .inl (.inr (.inr (.inr (.inl hk))))
  ·exact .inl (.inr (.inr (.inr (.inr hk))))
 ·have c3:Chg (M.foot fb) w2 w3:=hc3.mono fun _ _ h=>.inr (.inl h)
  have c4:Chg (M.foot fb) w3 w4:=hc4.mono fun _ _ h=>.inl h
  exact (hc12.nil.then c3).then c4
theorem fill_step {α:Type} (a z:α) (m i:Nat) (h:i < m):(List.replicate i a ++ List.replicate (m - i) z).set i a = List.replicate (i + 1) a ++ List.replicate (m - (i + 1)) z:=by
 rw [List.set_append_right _ _ (by simp)]
 simp only [List.length_replicate,Nat.sub_self]
 rw [show m - i = (m - (i + 1)) + 1 by omega,List.replicate_succ,List.set_cons_zero,List.replicate_succ']
 simp
theorem state_ret {w:World} {fb:Nat} {st st':St} {M:Mem} (h:Rep w fb st M) (hf:stateF st = some st') :
  Ret Tryd.prog 66 #[.pointer (some (at0 fb))] tI w fun x w'=>x = (st.par.length:Int) ∧ Step fb M w w' st':=by
 unfold stateF at hf
 split at hf
 case isFalse=>cases hf
 rename_i hs
 cases hf
 refine fold_folding_state.calls _ ?_
 unfold fold_folding_state.sh
 refine NilCk.mk (LoadT.sc (s:=.int .i64) (x:=(st.m:Int)) (cellHead h).2.1 ?_)
 have hm:=h.mle
 refine makeSlice_own (s:=.int .i64) ok85 (z:=(0:Int)) zero3 rfl st.m rfl (by omega) (by simp only [maxLen]; omega) fun g w1 ho hc hg=>?_
 refine LoopT.mk (fun x w'=>∃ i:Nat,i ≤ st.m ∧ x = (some (at0 fb),rowSl st.m g,(st.m:Int),(i:Int),()) ∧ Chg Nil w w' ∧ OwnT w' 3 tI (rowSl st.m g) (List.replicate i (-1) ++ List.replicate (st.m - i) 0)) (fun x _=>st.m - x.2.2.2.1.toNat)
  ⟨0,Nat.zero_le _,rfl,hc,by simpa using ho⟩ ?_
 rintro x g6 w2 ⟨i,hi,rfl,hc2,ho2⟩
 dsimp only
 refine Br.dec (fun hlt=>?_) (fun hge=>?_)
 ·have hlt':i < st.m:=by omega
  refine ho2.idx (t:=tI) i rfl (by simp; omega) fun g' hg'=>?_
  cases hg'
  refine ho2.store (s:=.int .i64) rfl i (by simp; omega) (x:=(-1:Int)) fun w3 ho3 hc3 _=>?_
  rw [wrap64 (by omega) (by omega)]
  refine ⟨⟨i + 1,hlt',by simp,?_,?_⟩,?_⟩
  ·refine hc2.trans hc3 (fun _ _ h=>h) fun k hk he=>?_
   have he':k = g:=he
   omega
  ·rw [fill_step _ _ _ _ hlt'] at ho3; exact ho3
  ·show st.m - ((i:Int) + 1).toNat < st.m - (i:Int).toNat
   omega
 ·have hi':i = st.m:=by omega
  subst hi'
  rw [Nat.sub_self] at ho2
  have h2:=h.nil hc2
  refine NilCk.mk (LoadT.sc (s:=.sl) (x:=M.na) (cellHead h2).2.2.1 ?_)
  refine New.mk fun b w3 hb3 hnew hsz hc3=>?_
  have h3:=h2.nil hc3
  refine OwnT.append (t:=.sc .sl) (m:=1) ok25 rfl (by decide) h3.next [rowSl st.m g] rfl (by decide) (fun j v hv=>?_) ?_ ?_ fun na' w4 ho4 hc4 hown=>?_
  ·rw [cellOf hnew]
   simpa [Ty.cells] using hv
  ·rw [List.length_map,h.len]; exact bound_mul (n:=_ + 1) (by exact hs.2) (by decide)
  ·rw [List.length_map,h.len]; simp only [maxLen,Fo.big] at hs ⊢; omega
  have hh4:w4.heap[fb]? = _:=hc4.heap h3.head h3.na_fb
  refine NilCk.mk (Store1.at hh4 2 (by rw [head_sz]; decide) rfl fun w5 hh5 hc5 _=>?_)
  have hrow:OwnT w3 3 tI (rowSl st.m g) ((List.replicate st.m none).map ofO):=by
   rw [List.map_replicate]
   have:=ho2.chg hc3 fun _ _ h=>h
   rw [List.replicate_zero,List.append_nil] at this
   exact this
  have h5:=h3.addRow (na':=na') hrow (fun k hk he=>by have:=h.lt k hk; omega) hc4 (by rw [List.map_append]; exact ho4) hc5 hh5
  refine NilCk.mk (Ret.call (add_ret h5 hs.1) ?_)
  rintro _ w6 ⟨rfl,hst⟩
  have c4:Chg (M.foot fb) w3 w4:=hc4.mono fun _ _ h=>.inr (.inr (.inl h))
  have c5:Chg (M.foot fb) w4 w5:=hc5.mono fun _ _ h=>.inl h
  refine ⟨_,rfl,rfl,Step.pre ((((hc2.then hc3).nil).then c4).then c5) (fun k hk=>?_) hst⟩
  rcases hk with hk | hk | hk | hk | hk
  ·exact .inl (.inl hk)
  ·exact .inl (.inr (.inl hk))
  ·rcases hown k hk with hk | hk
   ·exact .inl (.inr (.inr (.inl hk)))
   ·exact .inr (Nat.le_trans (hc2.then hc3).size hk)
  ·exact .inl (.inr (.inr (.inr (.inl hk))))
  ·rcases List.mem_append.1 hk with hk | hk
   ·exact .inl (.inr (.inr (.inr (.inr hk))))
   ·simp only [List.mem_singleton] at hk
    exact .inr (by omega)
end Go.Proofs.YtffdjfkekdoeaaaDoor.Fo
end
section
namespace Go.Proofs.YtffdjfkekdoeaaaDoor.Fo
open Fw
theorem lead_m {K:Nat} {st st':St} {s x t:Nat} (h:leadF K st s x t = some st'):st'.m = st.m:=by
 simp only [leadF] at h
 split at h
 ·cases h
 ·split at h
  ·cases h
  ·split at h
   ·cases h
   ·cases h; rfl
   ·split at h
    ·cases h; rfl
    ·cases h
theorem xor1 (x:Nat) (h:x < 4294967296):Go.bits .xor .i64 (x:Int) 1 = ((x ^^^ 1:Nat):Int):=by
 have hx:x ^^^ 1 < 2 ^ 32:=Nat.xor_lt_two_pow (by omega) (by omega)
 have h1:(BitVec.ofInt 64 (x:Int)).toNat = x:=by
  rw [BitVec.ofInt_natCast,BitVec.toNat_ofNat]; exact Nat.mod_eq_of_lt (by omega)
 have h2:(BitVec.ofInt 64 (1:Int)).toNat = 1:=by decide
 show IntKind.i64.wrap ((BitVec.ofInt 64 (x:Int) ^^^ BitVec.ofInt 64 (1:Int)).toNat:Int) = _
 rw [BitVec.toNat_xor,h1,h2,IntKind.wrap_i64]
 omega
theorem spill_ret {w:World} {fb:Nat} {M:Mem} {K:Nat} {a b:Nat} {blk:Nat} {st0 st2:St} (h0:Rep w fb st0 M) (hblk:M.rows[b]? = some blk) (hf:spillF K st0.m st0 a b 0 = some st2) {Kp:List PanicEntry → World → Prop} {C:Option Addr × Unit → World → Prop}
  (hC:∀ w',StepL fb M w w' st2 → C (some (at0 fb),()) w') :
  LoopT (σ:=Option Addr × Int × Sl × Int × Int × Unit) (some (at0 fb),(a:Int),rowSl st0.m blk,((st0.m:Nat):Int),0,()) w fun l51 g52 w53 I54=>
   Br (decide ((l51.2.2.2.2.1:Int) < l51.2.2.2.1))
    (Idx l51.2.2.1.a l51.2.2.1.n 1 l51.2.2.2.2.1 fun a55=>
    LoadT (.sc (.int .i64)) w53 a55 fun x56=>
    Br (decide ((x56:Int) ≥ 0))
     (CallN Tryd.prog 90 #[(.pointer l51.1),(.int .i64 l51.2.1),(.int .i64 l51.2.2.2.2.1),(.int .i64 x56)] [] w53 (fun r57 w58=>
      I54 (l51.1,l51.2.1,l51.2.2.1,l51.2.2.2.1,(IntKind.wrap .i64 (l51.2.2.2.2.1 + 1)),()) w58) (fun h59 w58=>Kp h59 w58))
     (I54 (l51.1,l51.2.1,l51.2.2.1,l51.2.2.2.1,(IntKind.wrap .i64 (l51.2.2.2.2.1 + 1)),()) w53))
    (C (l51.1,()) w53):=by
 have hm:=h0.mle
 refine LoopT.mk (fun x w'=>∃ (y:Nat) (st1:St),y ≤ st0.m ∧ st1.m = st0.m ∧ x = (some (at0 fb),(a:Int),rowSl st0.m blk,((st0.m:Nat):Int),(y:Int),()) ∧ StepL fb M w w' st1 ∧ spillF K (st0.m - y) st1 a b y = some st2) (fun x _=>st0.m - x.2.2.2.2.1.toNat)
  ⟨0,st0,Nat.zero_le _,rfl,rfl,h0.stepL (Chg.refl w),hf⟩ ?_
 rintro x g w1 ⟨y,st1,hy,hm1,rfl,hst,hf⟩
 dsimp only
 refine Br.dec (fun hlt=>?_) (fun hge=>?_)
 ·have hlt':y < st0.m:=by omega
  rw [show st0.m - y = (st0.m - (y + 1)) + 1 by omega] at hf
  simp only [spillF] at hf
  obtain ⟨⟨M1,he,h1,hf1⟩,hc1⟩:=hst
  have hmu:st0.m - ((y:Int) + 1).toNat < st0.m - (y:Int).toNat:=by
   have e1:((y:Int) + 1).toNat = y + 1:=rfl
   have e2:(y:Int).toNat = y:=rfl
   rw [e1,e2]; omega
  rw [wrap64 (by omega) (by omega)]
  split at hf
  ·cases hf
  ·rename_i hx
   obtain ⟨row,hrow,hxr⟩:=Option.bind_eq_some_iff.1 hx
   have hro:=h1.row b blk row (by rw [he]; exact hblk) hrow
   rw [hm1] at hro
   refine hro.rd.get (t:=tI) y rfl (x:=(-1:Int)) (by rw [List.getElem?_map,hxr]; rfl) (Br.no (by decide) ?_)
   exact ⟨⟨y + 1,st1,hlt',hm1,by simp,⟨⟨M1,he,h1,hf1⟩,hc1⟩,hf⟩,hmu⟩
  ·rename_i t hx
   obtain ⟨row,hrow,hxr⟩:=Option.bind_eq_some_iff.1 hx
   have hro:=h1.row b blk row (by rw [he]; exact hblk) hrow
   rw [hm1] at hro
   refine hro.rd.get (t:=tI) y rfl (x:=(t:Int)) (by rw [List.getElem?_map,hxr]; rfl) (Br.yes (Int.natCast_nonneg t) ?_)
   split at hf
   ·cases hf
   rename_i st1' hl
   refine RetN.call (lead_ret h1 hl) fun _ w2 hs2=>?_
   exact ⟨⟨y + 1,st1',hlt',(lead_m hl).trans hm1,by simp,hs2.pre he hc1 hf1,hf⟩,hmu⟩
 ·have hy':y = st0.m:=by omega
  subst hy'
  rw [Nat.sub_self] at hf
  simp only [spillF,Option.some.injEq] at hf
  subst hf
  exact hC _ hst
theorem lead_x {w:World} {fb:Nat} {M:Mem} {K:Nat} {st st':St} {s x t:Nat} (h:Rep w fb st M) (hf:leadF K st s x t = some st'):x < st.m:=by
 simp only [leadF] at hf
 split at hf
 ·cases hf
 rename_i par r hfind
 split at hf
 ·cases hf
 rename_i row hrow
 have hlt:r < st.next.length:=(List.getElem?_eq_some_iff.1 hrow).1
 have hb:M.rows[r]? = some (M.rows[r]'(by rw [h.len]; exact hlt)):=List.getElem?_eq_getElem _
 have hl:=(h.row r _ row hb hrow).len
 rw [List.length_map] at hl
 have:x < row.length:=by
  rcases Nat.lt_or_ge x row.length with h | h
  ·exact h
  ·rw [List.getElem?_eq_none h] at hf; cases hf
 show x < st.m
 have hl':st.m = row.length:=hl
 omega
theorem link_ret {w:World} {fb:Nat} {st st':St} {M:Mem} (h:Rep w fb st M) {K s x t:Nat} (hf:linkF K st s x t = some st') :
  RetN Tryd.prog 67 #[.pointer (some (at0 fb)),.int .i64 (s:Int),.int .i64 (x:Int),.int .i64 (t:Int)] [] w fun _ w'=>StepL fb M w w' st':=by
 refine fold_folding_link.calls _ _ _ _ ?_
 unfold fold_folding_link.sh
 simp only [linkF] at hf
 split at hf
 ·cases hf
 rename_i stA hA
 split at hf
 ·cases hf
 rename_i stB hB
 have hx:=lead_x h hA
 have hm:=h.mle
 refine RetN.call (lead_ret h hA) fun _ wA hsA=>?_
 rw [xor1 x (by omega)]
 obtain ⟨⟨MA,heA,hrA,hfA⟩,hcA⟩:=hsA
 refine RetN.call (lead_ret hrA hB) fun _ wB hsB=>?_
 have hstB:StepL fb M w wB stB:=hsB.pre heA hcA hfA
 refine LoopT.fuel (fun k x w'=>∃ st1,x = (some (at0 fb),()) ∧ StepL fb M w w' st1 ∧ foldF K k st1 = some st') K ⟨stB,rfl,hstB,hf⟩ ?_
 clear hf hB hA hstB hsB
 rintro k _ g w1 C ⟨st1,rfl,⟨⟨M1,he1,h1,hf1⟩,hc1⟩,hf⟩ hC
 dsimp only
 cases k with
 | zero=>simp [foldF] at hf
 | succ k=>
 simp only [foldF] at hf
 refine NilCk.mk (LoadT.sc (s:=.sl) (x:=M1.ta) (cellHead h1).2.2.2 ?_)
 have hn:M1.ta.n = st1.todo.length:=by rw [h1.todo.len,List.length_map]
 split at hf
 ·rename_i hnone
  cases hf
  have:st'.todo = []:=by simpa using hnone
  refine Br.no (by rw [hn,this]; simp) ⟨(),rfl,⟨M1,he1,h1,hf1⟩,hc1⟩
 rename_i u v hlast
 have hlen:0 < st1.todo.length:=by
  cases hl:st1.todo with
  | nil=>rw [hl] at hlast; simp at hlast
  | cons _ _=>simp
 refine Br.yes (by rw [hn]; omega) ?_
 have hbig:st1.todo.length ≤ maxLen:=by
  rw [← hn]
  rcases h1.todo.block with ⟨_,hx⟩ | ⟨_,_,_,_,h3,h4,_⟩
  ·have:=h1.todo.len; rw [hx] at this; rw [this]; simp
  ·omega
 have hidx:st1.todo[st1.todo.length - 1]? = some (u,v):=by rw [← List.getLast?_eq_getElem?]; exact hlast
 have hidx':(st1.todo.map ofP)[st1.todo.length - 1]? = some (ofP (u,v)):=by rw [List.getElem?_map,hidx]; rfl
 have hwr:IntKind.wrap .i64 (((M1.ta.n:Nat):Int) - 1) = ((st1.todo.length - 1:Nat):Int):=by
  rw [hn]
  simp only [maxLen] at hbig
  rw [wrap64 (by omega) (by omega)]; omega
 refine ⟨fun w'=>w'.heap[fb]? = w1.heap[fb]? ∧ OwnT w' 96 tP M1.ta (st1.todo.map ofP),⟨rfl,h1.todo.chg (Chg.drew (S:=Nil) w1) (fun _ _ h=>h)⟩,?_⟩
 refine NilCk.mk (LoadS.sc (s:=.sl) (x:=M1.ta) (fun w' hw=>by rw [cellOf (hw.1.trans h1.head)]; rfl) ?_)
 refine NilCk.mk (LoadS.sc (s:=.sl) (x:=M1.ta) (fun w' hw=>by rw [cellOf (hw.1.trans h1.head)]; rfl) ?_)
 rw [hwr]
 refine h1.todo.idx (t:=tP) _ rfl (by rw [List.length_map]; omega) fun gt hgt=>?_
 refine LoadS.mk tP (x:=ofP (u,v)) (fun w' hw=>hw.2.rd.cellAt hgt hidx') ?_
 refine New.mk fun bl w2 hb2 hnew hsz hc2=>?_
 have hc12:Chg Nil w1 w2:=(Chg.drew w1).then hc2
 have h2:=h1.nil hc12
 refine ⟨⟨h2.head.trans h1.head.symm,h2.todo⟩,?_⟩
 refine StoreN.whole (vs:=[.int .i64 (u:Int),.int .i64 (v:Int)]) hnew rfl fun w3 hpair hc3 _=>?_
 have hbf:∀ i,M1.foot fb i → i ≠ bl:=fun i hi he=>by have:=h1.lt i hi; have:bl = w1.heap.size:=hb2; omega
 have h3:Rep w3 fb st1 M1:=h2.chg hc3 fun i hi he=>hbf i hi he
 have h3d:Rep w3.drew fb st1 M1:=h3.nil (Chg.drew w3)
 refine NilCk.mk (LoadT.sc (s:=.sl) (x:=M1.ta) (cellHead h3d).2.2.2 (NilCk.mk (LoadT.sc (s:=.sl) (x:=M1.ta) (cellHead h3d).2.2.2 ?_)))
 rw [hwr]
 refine RunT.auto (t:=.sc .sl) (OwnT.upto (t:=tP) ok106 h3d.todo _ rfl (by rw [List.length_map]; omega) fun ta' hota hown hnta=>⟨rfl,?_⟩)
 refine NilCk.mk (Store1.at h3d.head 3 (by rw [head_sz]; decide) rfl fun w4 hh4 hc4 _=>?_)
 have htk:(st1.todo.map ofP).take (st1.todo.length - 1) = st1.todo.dropLast.map ofP:=by rw [List.dropLast_eq_take,List.map_take]
 rw [htk] at hota
 have h4:=h3d.setTodo (w1:=w3.drew) (todo':=st1.todo.dropLast) (Chg.refl _) hota hc4 hh4
 have hpair4:w4.heap[bl]? = some (.cells #[.int .i64 (u:Int),.int .i64 (v:Int)] 96 (0,0)):=hc4.heap (k:=bl) (w:=w3.drew) hpair (fun he=>hbf fb (.inl rfl) he.symm)
 have h5:=h4.nil (Chg.drew w4)
 have hpa:∀ w',w'.heap[bl]? = some (.cells #[.int .i64 (u:Int),.int .i64 (v:Int)] 96 (0,0)) → OwnN w' M1.pa st1.par → ¬ M1.pa.own bl:=fun w' hw ho hk=>by
  obtain ⟨_,c1⟩:=ho.elem hk; exact ne_of_elem c1 hw (by decide) rfl
 refine ⟨fun w'=>w'.heap[bl]? = some (.cells #[.int .i64 (u:Int),.int .i64 (v:Int)] 96 (0,0)),hpair4,?_⟩
 refine NilCk.mk (Idx.mk 0 rfl (by decide) (LoadS.sc (s:=.int .i64) (x:=(u:Int)) (fun w' hw=>by rw [cellOf hw]; rfl) ?_))
 refine NilCk.mk (Idx.mk 1 rfl (by decide) (LoadS.sc (s:=.int .i64) (x:=(v:Int)) (fun w' hw=>by rw [cellOf hw]; rfl) ?_))
 have hcf:∀ {S:Nat → Prop} {wa wb:World},Chg S wa wb → (∀ i,i < w1.heap.size → S i → M1.foot fb i) → Chg (fun k=>M1.foot fb k ∨ w1.heap.size ≤ k) wa wb:=fun hc hs=>hc.mono fun i _ hi=>by
  rcases Nat.lt_or_ge i w1.heap.size with h | h
  ·exact .inl (hs i h hi)
  ·exact .inr h
 have hc14:Chg (fun k=>M1.foot fb k ∨ w1.heap.size ≤ k) w1 w4.drew:=
  (((hc12.nil.then (hcf hc3 fun i hi he=>by have:i = bl:=he; have:bl = w1.heap.size:=hb2; omega)).then (Chg.drew w3)).then (hcf hc4 fun i _ he=>.inl he)).then (Chg.drew w4)
 split at hf
 ·cases hf
 rename_i par1 a hfu
 refine Ret.call (find_rep h5 hfu) ?_
 rintro _ w6 ⟨rfl,h6,hc6⟩
 have hnb:¬ M1.pa.own bl:=hpa _ hpair4 h4.par
 have hpair6:w6.heap[bl]? = some (.cells #[.int .i64 (u:Int),.int .i64 (v:Int)] 96 (0,0)):=hc6.heap (k:=bl) (w:=w4.drew) hpair4 hnb
 refine ⟨hpair6,?_⟩
 split at hf
 ·cases hf
 rename_i par2 b hfv
 refine Ret.call (find_rep h6 hfv) ?_
 rintro _ w7 ⟨rfl,h7,hc7⟩
 refine ⟨hc7.heap hpair6 hnb,?_⟩
 have hc17:Chg (fun k=>M1.foot fb k ∨ w1.heap.size ≤ k) w1 w7:=(hc14.then (hcf hc6 fun i _ he=>.inr (.inl he))).then (hcf hc7 fun i _ he=>.inr (.inl he))
 have hfin:∀ {st2:St} {wz:World} {Mz:Mem},StepL fb Mz w7 wz st2 → Mz = { M1 with ta:=ta' } → StepL fb M w wz st2:=fun {st2 wz Mz} hz he=>by
  subst he
  refine StepL.pre (M1:={ M1 with ta:=ta' }) (w1:=w7) he1 (hc1.trans hc17 (fun _ _ h=>h) fun i hi hk=>?_) (fun k hk=>?_) hz
  ·rcases hk with hk | hk
   ·rcases hf1 i hk with hk | hk
    ·exact hk
    ·omega
   ·have:=hc1.size; omega
  ·rcases hk with hk | hk | hk | hk | hk
   ·exact .inl (.inl hk)
   ·exact hf1 k (.inr (.inl hk))
   ·exact hf1 k (.inr (.inr (.inl hk)))
   ·exact hf1 k (.inr (.inr (.inr (.inl (hown k hk)))))
   ·exact hf1 k (.inr (.inr (.inr (.inr hk))))
 split at hf
 ·rename_i hab
  subst hab
  refine Br.t (by simp) (hC _ _ k (by omega) ⟨_,rfl,hfin (Rep.stepL h7 (Chg.refl w7)) rfl,hf⟩)
 rename_i hab
 refine Br.f (by rw [beq_eq_false_iff_ne]; exact fun he=>hab (Int.ofNat.inj he)) ?_
 split at hf
 ·cases hf
 ·cases hf
 rename_i pb rb hpb hrb
 refine NilCk.mk ?_
 rw [add0]
 refine LoadT.sc (s:=.sl) (x:=M1.pa) (cellHead h7).1 ?_
 have hbl:b < (par2.map ofN).length:=by rw [List.length_map]; exact (List.getElem?_eq_some_iff.1 hpb).1
 refine h7.par.idx (t:=tI) b rfl hbl fun gp hgp=>?_
 refine h7.par.store (s:=.int .i64) hgp b hbl (x:=(a:Int)) fun w8 ho8 hc8 _=>?_
 have hc8':Chg M1.pa.own w7 w8:=hc8.mono fun i _ hi=>⟨_,hgp,hi.symm⟩
 have h8:Rep w8 fb ⟨st1.m,par2.set b a,st1.next,st1.todo.dropLast⟩ { M1 with ta:=ta' }:=h7.setPar (par':=par2.set b a) hc8' (by unfold OwnN; rw [List.map_set]; exact ho8)
 refine NilCk.mk (LoadT.sc (s:=.sl) (x:=M1.na) (cellHead h8).2.2.1 ?_)
 have hrl:b < M1.rows.length:=by rw [h8.len]; exact (List.getElem?_eq_some_iff.1 hrb).1
 have hblk:M1.rows[b]? = some M1.rows[b]:=List.getElem?_eq_getElem hrl
 refine h8.next.rd.get (t:=.sc .sl) b rfl (x:=rowSl st1.m M1.rows[b]) (by rw [List.getElem?_map,hblk]; rfl) ?_
 split at hf
 ·cases hf
 rename_i stS hsp
 refine spill_ret h8 hblk hsp fun w9 hst9=>?_
 exact hC _ _ k (by omega) ⟨stS,rfl,hfin (hst9.pre (M:={ M1 with ta:=ta' }) rfl (hc8'.mono fun i _ hi=>.inr (.inl hi)) (fun _ hk=>.inl hk)) rfl,hf⟩
end Go.Proofs.YtffdjfkekdoeaaaDoor.Fo
end
section
set_option maxRecDepth 4000
namespace Go.Proofs.YtffdjfkekdoeaaaDoor.Wd
open Fw
abbrev tI:Ty:=.sc (.int .i64)
def lets:List Int:=[97,65,98,66,99,67,100,68,101,69,102,70,103,71,104,72]
def Laid (w:World):Prop:=∃ t fr,w.heap[0]? = some (.cells (lets.map (Value.int .u8)).toArray t fr)
theorem Laid.chg {S:Nat → Prop} {w w':World} (h:Laid w) (hc:Chg S w w') (hs:¬ S 0):Laid w':=by
 obtain ⟨t,fr,h⟩:=h; exact ⟨t,fr,hc.heap h hs⟩
theorem Laid.nil {w w':World} (h:Laid w) (hc:Chg Nil w w'):Laid w':=h.chg hc fun h=>h
theorem Laid.cell {w:World} (h:Laid w) {i:Nat} {c:Int} (hc:lets[i]? = some c):w.cell? ((Addr.mk 0 0 none).add i) = some (.int .u8 c):=by
 obtain ⟨t,fr,h⟩:=h
 rw [cellOf h]; simp [hc]
def idxFrom (c:Int):Nat → List Int → Int
 | _,[]=>-1
 | i,d :: l=>if d = c then (i:Int) else idxFrom c (i + 1) l
def idxF (c:Int):Int:=idxFrom c 0 lets
abbrev lts:dens [.int .u8,.int .u8,.int .u8,.int .u8,.int .u8,.int .u8,.int .u8,.int .u8,.int .u8,.int .u8,.int .u8,.int .u8,.int .u8,.int .u8,.int .u8,.int .u8]:=
 ((97:Int),(65:Int),(98:Int),(66:Int),(99:Int),(67:Int),(100:Int),(68:Int),(101:Int),(69:Int),(102:Int),(70:Int),(103:Int),(71:Int),(104:Int),(72:Int),())
theorem under135:Tryd.prog.underlying 135 = some (.array 16 5):=by kernel_rfl
theorem under5:Tryd.prog.underlying 5 = some (.int .u8):=by kernel_rfl
theorem info5:(Tryd.prog.info? 5).map (·.size) = some 1:=by kernel_rfl
theorem index_lets (w:World) (i:Nat) (c:Int) (hc:lets[i]? = some c) :
  (Instr.index 135 (.agg (lets.map (Value.int .u8)).toArray) (.int .i64 (i:Int))).run Tryd.prog w = .ok (.int .u8 c) w:=by
 have hl:i < 16:=(List.getElem?_eq_some_iff.1 hc).1
 obtain ⟨inf,hi,hsz⟩:=Option.map_eq_some_iff.1 info5
 have hsize:(sizeOf 5).run Tryd.prog w = .ok 1 w:=by simp [sizeOf,typeInfo,hi,hsz]
 have hpart:(part 5 (lets.map (Value.int .u8)).toArray i).run Tryd.prog w = .ok (.int .u8 c) w:=by
  unfold part
  simp [isAgg,run_underlying under5,hc]
 simp [Instr.index,asIntOf,run_underlying under135,hsize,hl,hpart]
theorem idxFrom_step {c:Int} {i:Nat} {l:List Int} {d:Int} (h:l[0]? = some d):idxFrom c i l = if d = c then (i:Int) else idxFrom c (i + 1) (l.drop 1):=by
 cases l with
 | nil=>simp at h
 | cons x l=>simp at h; subst h; simp [idxFrom]
theorem index_ret {w:World} (h:Laid w) (c:Int):Ret Tryd.prog 59 #[.int .u8 c] tI w fun x w'=>x = idxF c ∧ Chg Nil w w':=by
 refine word_Index.calls _ ?_
 unfold word_Index.sh
 refine LoadT.mk (.agg [.int .u8,.int .u8,.int .u8,.int .u8,.int .u8,.int .u8,.int .u8,.int .u8,.int .u8,.int .u8,.int .u8,.int .u8,.int .u8,.int .u8,.int .u8,.int .u8]) (x:=lts) (fun j v hv=>?_) ?_
 ·obtain ⟨t,fr,h⟩:=h
  rw [cellOf h]; simpa [Ty.cells,lets] using hv
 refine LoopT.mk (fun x w'=>∃ i:Nat,i ≤ 16 ∧ x = (c,lts,(i:Int),()) ∧ Chg Nil w w' ∧ idxFrom c i (lets.drop i) = idxF c) (fun x _=>16 - x.2.2.1.toNat) ⟨0,by omega,rfl,Chg.refl w,rfl⟩ ?_
 rintro x g w1 ⟨i,hi,rfl,hc,he⟩
 dsimp only
 refine Br.dec (fun hlt=>?_) (fun hge=>?_)
 ·have hlt':i < 16:=by omega
  obtain ⟨d,hd⟩:∃ d,lets[i]? = some d:=⟨_,List.getElem?_eq_getElem (show i < lets.length from hlt')⟩
  refine ⟨d,w1,index_lets w1 i d hd,?_⟩
  rw [idxFrom_step (d:=d) (by rw [List.getElem?_drop]; exact hd),List.drop_drop] at he
  refine Br.mk (fun hb=>?_) (fun hb=>?_)
  ·have:d = c:=by simpa using hb
   rw [if_pos this] at he
   exact ⟨_,rfl,he,hc⟩
  ·have:d ≠ c:=by simpa using hb
   rw [if_neg this] at he
   rw [wrap64 (by omega) (by omega)]
   refine ⟨⟨i + 1,hlt',rfl,hc,he⟩,?_⟩
   show 16 - (i + 1) < 16 - i
   omega
 ·have:i = 16:=by omega
  subst this
  exact ⟨_,rfl,by rw [← he]; rfl,hc⟩
def letF (i:Int):Int:=if 0 ≤ i ∧ i < 16 then lets.getD i.toNat 0 else 0
theorem letter_ret {w:World} (h:Laid w) (i:Int):Ret Tryd.prog 86 #[.int .i64 i] (.sc (.int .u8)) w fun x w'=>x = letF i ∧ Chg Nil w w':=by
 refine word_Letter.calls _ ?_
 unfold word_Letter.sh
 refine Join.mk ?_
 refine Br.dec (fun hlt=>Br.t rfl ⟨_,rfl,by rw [letF,if_neg (by omega)],Chg.refl w⟩) (fun hge=>Br.dec (fun hlt=>⟨_,rfl,by rw [letF,if_neg (by omega)],Chg.refl w⟩) (fun h2 g=>?_))
 dsimp only
 obtain ⟨n,rfl⟩:=Int.eq_ofNat_of_zero_le (show 0 ≤ i by omega)
 have hn:n < 16:=by omega
 have hd:lets[n]? = some (lets.getD n 0):=by rw [List.getD_eq_getElem?_getD,List.getElem?_eq_getElem (show n < lets.length from hn)]; rfl
 refine Idx.mk n rfl hn (LoadT.sc (s:=.int .u8) (x:=lets.getD n 0) (by rw [Nat.mul_one]; exact h.cell hd) ?_)
 exact ⟨_,rfl,by rw [letF,if_pos (by omega)]; rfl,Chg.refl w⟩
def otherF (c:Int):Int:=Go.bits .xor .u8 c 32
theorem other_ret (w:World) (c:Int):Ret Tryd.prog 95 #[.int .u8 c] (.sc (.int .u8)) w fun x w'=>x = otherF c ∧ w' = w:=by
 refine word_other.calls _ ?_
 unfold word_other.sh
 exact ⟨_,rfl,rfl,rfl⟩
end Go.Proofs.YtffdjfkekdoeaaaDoor.Wd
end
section
set_option maxRecDepth 4000
namespace Go.Proofs.YtffdjfkekdoeaaaDoor.Wd
open Fw
theorem under21:Tryd.prog.underlying 21 = some (.int .i32):=by kernel_rfl
theorem under9:Tryd.prog.underlying 9 = some .string:=by kernel_rfl
theorem conv_rune (w:World) (c:Int) (h0:0 ≤ c) (h1:c ≤ 127):(convert 21 5 (.int .i32 c)).run Tryd.prog w = .ok (.int .u8 c) w:=by
 have hw:IntKind.wrap .u8 c = c:=by simp [IntKind.wrap,IntKind.bits,IntKind.signed]; omega
 simp [convert,run_underlying under21,run_underlying under5,Conv.intToInt,hw]
def badF (k c:Int):Bool:=decide (c > 127) || (decide (idxF c < 0) || decide (idxF c ≥ 2 * k))
theorem check1_ret {w:World} (h:Laid w) {q:Addr} {k:Int} (hq:w.cell? q = some (.int .i64 k)) (hk0:0 ≤ k) (hk:k ≤ 100) (c:Int) (h0:0 ≤ c) :
  Ret Tryd.prog 78 #[.int .i32 c,.pointer (some q)] (.sc .bool) w fun x w'=>x = badF k c ∧ Chg Nil w w':=by
 refine word_Check_c1.calls _ _ ?_
 unfold word_Check_c1.sh
 have hd:Chg Nil w w.drew:=Chg.drew w
 refine ⟨fun w'=>Chg Nil w w',hd,?_⟩
 refine Br.dec (fun hgt=>⟨_,rfl,by simp [badF,hgt],hd⟩) (fun hle=>?_)
 refine ⟨c,fun w' _=>conv_rune w' c h0 (by omega),?_⟩
 refine Ret.call (index_ret (h.nil hd) c) ?_
 rintro _ w1 ⟨rfl,hc1⟩
 refine ⟨hd.then hc1,?_⟩
 refine Br.dec (fun hlt=>⟨_,rfl,by simp [badF,hlt],hd.then hc1⟩) (fun hge=>?_)
 refine ⟨c,fun w' _=>conv_rune w' c h0 (by omega),?_⟩
 refine LoadS.sc (s:=.int .i64) (x:=k) (fun w' hw=>hw.cell hq (fun h=>h)) ?_
 refine Ret.call (index_ret (h.nil (hd.then hc1)) c) ?_
 rintro _ w2 ⟨rfl,hc2⟩
 refine ⟨(hd.then hc1).then hc2,_,rfl,?_,(hd.then hc1).then hc2⟩
 rw [wrap64 (by omega) (by omega)]
 simp [badF,hle,hge]
def hasBad (k:Int) (s:ByteArray):Bool:=s.data.toList.any fun b=>badF k (b.toNat:Int)
theorem bad_high {k c:Int} (h:128 ≤ c):badF k c = true:=by simp [badF,show c > 127 by omega]
theorem bytes_get (s:ByteArray) (i:Nat) (h:i < s.size):s.data.toList[i]? = some (s[i]'h):=by
 rw [List.getElem?_eq_getElem (by simpa using h)]; rfl
theorem run_next_str {P:Program} (w:World) {r:Nat} {s:ByteArray} {pos:Nat} (ty:TypeId) (hr:w.heap[r]? = some (.stringIter s pos)) (h:pos < s.size) :
  (Instr.next (.pointer (some ⟨r,0,none⟩)) true ty).run P w = .ok (.tuple #[.bool true,.int .i64 pos,.int .i32 (Utf8.decode s pos).1]) (w.putObj r (.stringIter s (pos + (Utf8.decode s pos).2))):=by
 simp [Instr.next,getObj,setObj,Sem.run_bind,Sem.run,hr,Result.andThen,h,goInt,World.putObj]
theorem run_next_over {P:Program} (w:World) {r:Nat} {s:ByteArray} {pos:Nat} (ty:TypeId) (hr:w.heap[r]? = some (.stringIter s pos)) (h:¬ pos < s.size) :
  (Instr.next (.pointer (some ⟨r,0,none⟩)) true ty).run P w = .ok (.tuple #[.bool false]) w:=by
 simp [Instr.next,getObj,Sem.run_bind,Sem.run,hr,Result.andThen,h]
theorem Chg.putObj {S:Nat → Prop} (w:World) {r:Nat} (o:Obj) (h:S r):Chg S w (w.putObj r o):=
 ⟨rfl,rfl,rfl,by simp [World.putObj],fun k hk hs=>by
  show (w.heap.setIfInBounds r o)[k]? = _
  rw [Array.getElem?_setIfInBounds_ne (fun e:r = k=>hs (e ▸ h))]⟩
theorem heap_putObj {w:World} {r:Nat} {o o':Obj} (h:w.heap[r]? = some o'):(w.putObj r o).heap[r]? = some o:=by
 show (w.heap.setIfInBounds r o)[r]? = _
 rw [Array.getElem?_setIfInBounds_self_of_lt (lt_of_heap h)]
theorem indexFunc_ret {w:World} (h:Laid w) {q:Addr} {k:Int} (hq:w.cell? q = some (.int .i64 k)) (hk0:0 ≤ k) (hk:k ≤ 100) (s:ByteArray) :
  Ret Tryd.prog 98 #[.string s,.func (.func 78) #[] #[.pointer (some q)],.bool true] tI w fun x w'=>(decide (x ≥ 0)) = hasBad k s ∧ Chg Nil w w':=by
 refine strings_indexFunc.calls _ _ _ ?_
 unfold strings_indexFunc.sh
 refine ⟨⟨w.heap.size,0,none⟩,w.iter s 0,run_range_string w 9 s under9,?_⟩
 have hi0:Chg Nil w (w.iter s 0):=Chg.alloc w _
 have hlt0:0 < w.heap.size:=by obtain ⟨_,_,h⟩:=h; exact lt_of_heap h
 refine LoopT.fuel (fun m x w'=>∃ pos,x = ((q,()),true,⟨w.heap.size,0,none⟩,()) ∧ Chg Nil w w' ∧ w'.heap[w.heap.size]? = some (.stringIter s pos) ∧ m = s.size - pos ∧ (s.data.toList.drop pos).any (fun b=>badF k (b.toNat:Int)) = hasBad k s) (s.size - 0)
  ⟨0,rfl,hi0,World.iter_heap w s 0,rfl,by simp [hasBad]⟩ ?_
 rintro m x g w1 C ⟨pos,rfl,hc,hit,rfl,hany⟩ hC
 dsimp only
 by_cases hp:pos < s.size
 ·refine .inr ⟨(true,(pos:Int),((Utf8.decode s pos).1:Int),()),_,run_next_str w1 0 hit hp,?_⟩
  dsimp only
  refine Br.t rfl ?_
  have hc1:Chg (· = w.heap.size) w1 (w1.putObj w.heap.size (.stringIter s (pos + (Utf8.decode s pos).2))):=Chg.putObj w1 _ rfl
  have hc2:Chg Nil w (w1.putObj w.heap.size (.stringIter s (pos + (Utf8.decode s pos).2))):=hc.trans hc1 (fun _ _ h=>h) fun i hi he=>by
   have he:i = w.heap.size:=he
   omega
  refine Ret.call (check1_ret (h.nil hc2) (hc2.cell hq (fun h=>h)) hk0 hk _ (by omega)) ?_
  rintro _ w2 ⟨rfl,hc3⟩
  have hdrop:s.data.toList.drop pos = s[pos] :: s.data.toList.drop (pos + 1):=by
   rw [List.drop_eq_getElem_cons (by simpa using hp)]; rfl
  rw [hdrop,List.any_cons] at hany
  by_cases ha:(s[pos]).toNat < 128
  ·rw [decode_ascii s pos hp ha] at hc2 hc3 ⊢
   dsimp only at hc2 hc3 ⊢
   refine Br.mk (fun hb=>?_) (fun hb=>?_)
   ·have hb:badF k ((s[pos]).toNat:Int) = true:=by simpa using hb
    refine ⟨_,rfl,?_,hc2.then hc3⟩
    rw [← hany,hb]; simp
   ·have hb:badF k ((s[pos]).toNat:Int) = false:=by simpa using hb
    rw [hb,Bool.false_or] at hany
    refine hC _ _ (s.size - (pos + 1)) (by omega) ⟨pos + 1,rfl,hc2.then hc3,?_,rfl,hany⟩
    exact hc3.heap (heap_putObj hit) (fun h=>h)
  ·have hhi:=decode_high s pos hp (by omega)
   have hb:badF k ((Utf8.decode s pos).1:Int) = true:=bad_high (by omega)
   rw [hb]
   refine Br.t rfl ⟨_,rfl,?_,hc2.then hc3⟩
   rw [← hany,bad_high (c:=((s[pos]).toNat:Int)) (by omega)]; simp
 ·refine .inl ⟨w1,run_next_over w1 0 hit hp,?_⟩
  refine Br.f rfl ⟨_,rfl,?_,hc⟩
  rw [← hany,List.drop_eq_nil_of_le (by simp; omega)]; rfl
theorem containsFunc_ret {w:World} (h:Laid w) {q:Addr} {k:Int} (hq:w.cell? q = some (.int .i64 k)) (hk0:0 ≤ k) (hk:k ≤ 100) (s:ByteArray) :
  Ret Tryd.prog 77 #[.string s,.func (.func 78) #[] #[.pointer (some q)]] (.sc .bool) w fun x w'=>x = hasBad k s ∧ Chg Nil w w':=by
 refine strings_ContainsFunc.calls _ _ ?_
 unfold strings_ContainsFunc.sh
 refine Ret.call (Q:=fun x w'=>(decide (x ≥ 0)) = hasBad k s ∧ Chg Nil w w') ?_ (fun x w' hx=>⟨_,rfl,hx⟩)
 refine strings_IndexFunc.calls _ _ ?_
 unfold strings_IndexFunc.sh
 exact Ret.call (indexFunc_ret h hq hk0 hk s) fun x w' hx=>⟨_,rfl,hx⟩
def checkF (k:Int) (s:ByteArray):Int:=if k < 1 ∨ k > 8 then 1 else if (s.size:Int) > 100000 then 2 else if hasBad k s then 4 else 0
theorem check_ret {w:World} (h:Laid w) (k:Int) (s:ByteArray):Ret Tryd.prog 45 #[.int .i64 k,.string s] tI w fun x w'=>x = checkF k s ∧ Chg Nil w w':=by
 refine word_Check.calls _ _ ?_
 unfold word_Check.sh
 refine New.mk fun b w1 hb hnew hsz hc=>?_
 refine Join.mk ?_
 have hcell:w1.cell? (Addr.mk b 0 none) = some (.int .i64 k):=by rw [cellOf0 hnew]; rfl
 refine LoadT.sc (s:=.int .i64) hcell ?_
 refine Br.dec (fun hlt g=>?_) (fun hge=>LoadT.sc (s:=.int .i64) hcell fun g=>?_)
 ·dsimp only
  exact Br.t rfl ⟨_,rfl,by rw [checkF,if_pos (.inl hlt)],hc⟩
 ·dsimp only
  have hge':¬ k < 1:=hge
  refine Br.dec (fun hgt=>⟨_,rfl,by rw [checkF,if_pos (.inr hgt)],hc⟩) (fun hle=>?_)
  have hle':¬ k > 8:=hle
  have hne:¬ (k < 1 ∨ k > 8):=by omega
  refine Br.dec (fun hbig=>⟨_,rfl,by rw [checkF,if_neg hne,if_pos hbig],hc⟩) (fun hsm=>?_)
  refine Ret.call (containsFunc_ret (h.nil hc) hcell (by omega) (by omega) s) ?_
  rintro _ w2 ⟨rfl,hc2⟩
  refine Br.mk (fun hb=>⟨_,rfl,by rw [checkF,if_neg hne,if_neg hsm,if_pos hb],hc.then hc2⟩) (fun hb=>⟨_,rfl,by rw [checkF,if_neg hne,if_neg hsm,if_neg (by rw [hb]; simp)],hc.then hc2⟩)
theorem is_ret {w:World} (h:Laid w) (s:ByteArray):Ret Tryd.prog 79 #[.string s] (.sc .bool) w fun x w'=>x = (checkF 8 s == 0) ∧ Chg Nil w w':=by
 refine word_is.calls _ ?_
 unfold word_is.sh
 refine Ret.call (check_ret h 8 s) ?_
 rintro _ w1 ⟨rfl,hc⟩
 exact ⟨_,rfl,rfl,hc⟩
end Go.Proofs.YtffdjfkekdoeaaaDoor.Wd
end
section
set_option maxRecDepth 4000
namespace Go.Proofs.YtffdjfkekdoeaaaDoor.Wd
open Fw
abbrev tB:Ty:=.sc (.int .u8)
def ofB (b:UInt8):Int:=(b.toNat:Int)
def otherB (c:UInt8):UInt8:=c ^^^ 32
theorem other_of (c:UInt8):otherF (ofB c) = ofB (otherB c):=by
 unfold otherF ofB otherB
 have h:=u8_xor_nat c.toNat 32 (UInt8.toNat_lt c) (by decide)
 rw [show ((32:Nat):Int) = 32 from rfl] at h
 rw [h,UInt8.toNat_xor]
 rfl
theorem ofB_inj {a b:UInt8}:ofB a = ofB b ↔ a = b:=by
 unfold ofB
 constructor
 ·intro h; exact UInt8.toNat_inj.1 (Int.ofNat.inj h)
 ·intro h; rw [h]
def redStep (out:List UInt8) (c:UInt8):List UInt8:=if out.getLast? = some (otherB c) then out.dropLast else out ++ [c]
def redF (l:List UInt8):List UInt8:=l.foldl redStep []
theorem redStep_len (out:List UInt8) (c:UInt8):(redStep out c).length ≤ out.length + 1:=by
 unfold redStep; split
 ·rw [List.length_dropLast]; omega
 ·simp
theorem redFold_len:∀ (l out:List UInt8),(l.foldl redStep out).length ≤ out.length + l.length
 | [],out=>by simp
 | c :: l,out=>by
  have:=redFold_len l (redStep out c)
  have:=redStep_len out c
  simp only [List.foldl_cons,List.length_cons]; omega
theorem under87:Tryd.prog.underlying 87 = some (.slice 5):=by kernel_rfl
theorem ok87:slOk Tryd.prog 87 5 1 1 = true:=by kernel_rfl
theorem zero5:(Tryd.prog.info? 5).bind (·.zero) = some (.int .u8 0):=by kernel_rfl
abbrev OwnB (w:World) (s:Sl) (l:List UInt8):Prop:=OwnT w 5 tB s (l.map ofB)
theorem StrIdx.mk {s:ByteArray} {i:Int} {K:Int → Prop} (n:Nat) (hi:i = (n:Int)) (h:n < s.size) (k:K (ofB (s[n]'h))):StrIdx s i K:=by
 subst hi
 exact ⟨by omega,h,k⟩
theorem reduce_ret {w:World} {sl:Sl} {s:ByteArray} (hs:RdT w (.sc .str) sl [s]) (hb:s.size ≤ 1000000000) (hblk:∀ a,sl.a = some a → a.block < w.heap.size) :
  Ret Tryd.prog 80 #[sl.v] (.sc .str) w fun x w'=>x = ⟨(redF s.data.toList).toArray⟩ ∧ Chg Nil w w':=by
 refine word_reduce.calls _ ?_
 unfold word_reduce.sh
 have hn:sl.n = 1:=hs.len
 refine LoopT.fuel (fun m x w'=>∃ (i:Nat) (o:Sl) (out:List UInt8),i ≤ 1 ∧ m = 1 - i ∧ x = (o,sl,((sl.n:Nat):Int),(i:Int),()) ∧ Chg Nil w w' ∧ OwnB w' o out ∧ (∀ k,o.own k → w.heap.size ≤ k) ∧ (i = 0 → out = []) ∧ (i = 1 → out = redF s.data.toList)) 1
  ⟨0,⟨none,0,0⟩,[],by omega,rfl,rfl,Chg.refl w,OwnT.nil w 5 tB,(fun k hk=>by obtain ⟨a,ha,_⟩:=hk; cases ha),fun _=>rfl,fun h=>by cases h⟩ ?_
 rintro m x g w1 C ⟨i,o,out,hi,rfl,rfl,hc,ho,hown,h0,h1⟩ hC
 dsimp only
 refine Br.dec (fun hlt=>?_) (fun hge=>?_)
 ·have hi0:i = 0:=by omega
  subst hi0
  obtain rfl:=h0 rfl
  have hs1:RdT w1 (.sc .str) sl [s]:=hs.chg hc fun _ _ h=>h
  refine hs1.get (t:=.sc .str) 0 rfl (x:=s) rfl ?_
  refine LoopT.fuel (fun m x w'=>∃ (j:Nat) (o:Sl) (out:List UInt8),j ≤ s.size ∧ m = s.size - j ∧ x = (o,s,sl,((sl.n:Nat):Int),((0:Nat):Int),((s.size:Nat):Int),(j:Int),()) ∧ Chg Nil w w' ∧ OwnB w' o out ∧ (∀ k,o.own k → w.heap.size ≤ k) ∧ (s.data.toList.drop j).foldl redStep out = redF s.data.toList ∧ out.length ≤ j) s.size
   ⟨0,o,[],by omega,rfl,rfl,hc,ho,hown,rfl,by simp⟩ ?_
  clear ho hown hs1
  rintro m x g2 w2 C2 ⟨j,o2,out,hj,rfl,rfl,hc2,ho,hown,hred,hlen⟩ hC2
  dsimp only
  have hmax:out.length ≤ 1000000000:=by omega
  have hon:o2.n = out.length:=by rw [ho.len,List.length_map]
  refine Br.dec (fun hlt=>?_) (fun hge=>?_)
  ·have hlt':j < s.size:=by omega
   have hdrop:s.data.toList.drop j = s[j] :: s.data.toList.drop (j + 1):=by
    rw [List.drop_eq_getElem_cons (by simpa using hlt')]; rfl
   rw [hdrop,List.foldl_cons] at hred
   refine Join.by' (fun x w'=>∃ b:Bool,x = (o2,s,(j:Int),(out.length:Int),sl,((sl.n:Nat):Int),((0:Nat):Int),((s.size:Nat):Int),(j:Int),b,()) ∧ Chg Nil w2 w' ∧ (b = true ↔ out.getLast? = some (otherB s[j]))) ?_ ?_
   ·rintro x w3 g3 ⟨b,rfl,hc3,hb⟩
    dsimp only
    have ho3:OwnB w3 o2 out:=ho.chg hc3 fun _ _ h=>h
    have hwj:IntKind.wrap .i64 ((j:Int) + 1) = ((j + 1:Nat):Int):=by rw [wrap64 (by omega) (by omega)]; rfl
    rw [hwj]
    refine Br.mk (fun h=>?_) (fun h=>?_)
    ·have hl:=hb.1 h
     have hpos:0 < out.length:=by
      cases out with
      | nil=>simp at hl
      | cons _ _=>simp
     rw [wrap64 (by omega) (by omega)]
     refine OwnT.upto (t:=tB) ok87 ho3 (out.length - 1) (by omega) (by rw [List.length_map]; omega) fun s' hs' hown' hsn=>?_
     refine hC2 _ _ (s.size - (j + 1)) (by omega) ⟨j + 1,s',out.dropLast,hlt',rfl,rfl,hc2.then hc3,?_,fun k hk=>hown k (hown' k hk),?_,?_⟩
     ·unfold OwnB; rw [List.dropLast_eq_take,List.map_take]; exact hs'
     ·rw [redStep,if_pos hl] at hred; exact hred
     ·rw [List.length_dropLast]; omega
    ·have hl:¬ out.getLast? = some (otherB s[j]):=fun hl=>by rw [hb.2 hl] at h; cases h
     refine StrIdx.mk j rfl hlt' ?_
     refine New.mk fun b' w4 hb' hnew hsz hc4=>?_
     have ho4:OwnB w4 o2 out:=ho3.chg hc4 fun _ _ h=>h
     refine OwnT.append (t:=tB) (m:=1) ok87 rfl (by decide) ho4 [ofB s[j]] rfl (by decide) (fun i v hv=>?_) ?_ ?_ fun o' w5 ho5 hc5 hown5=>?_
     ·rw [cellOf hnew]; simpa [Ty.cells] using hv
     ·rw [List.length_map]; omega
     ·rw [List.length_map]; simp only [maxLen]; omega
     have hw4:w.heap.size ≤ w4.heap.size:=((hc2.then hc3).then hc4).size
     refine hC2 _ _ (s.size - (j + 1)) (by omega) ⟨j + 1,o',out ++ [s[j]],hlt',rfl,rfl,?_,?_,fun k hk=>?_,?_,?_⟩
     ·exact ((hc2.then hc3).then hc4).trans hc5 (fun _ _ h=>h) fun i hi hk=>by have:=hown i hk; omega
     ·unfold OwnB; rw [List.map_append]; exact ho5
     ·rcases hown5 k hk with hk | hk
      ·exact hown k hk
      ·omega
     ·rw [redStep,if_neg hl] at hred; exact hred
     ·simp; omega
   ·intro J hJ
    have hd:Chg Nil w2 w2.drew:=Chg.drew w2
    refine ⟨fun w'=>Chg Nil w2 w',hd,?_⟩
    refine Br.dec (fun hpos=>?_) (fun hzero=>?_)
    ·have hpos':0 < out.length:=by omega
     have hlast:out[out.length - 1]? = out.getLast?:=by rw [List.getLast?_eq_getElem?]
     obtain ⟨c,hcl⟩:∃ c,out.getLast? = some c:=by
      cases hg:out.getLast? with
      | none=>rw [List.getLast?_eq_none_iff] at hg; subst hg; simp at hpos'
      | some c=>exact ⟨c,rfl⟩
     rw [hcl] at hlast
     have hm:(out.map ofB)[out.length - 1]? = some (ofB c):=by rw [List.getElem?_map,hlast]; rfl
     rw [wrap64 (by omega) (by omega)]
     refine ho.idx (t:=tB) (out.length - 1) (by omega) (by rw [List.length_map]; omega) fun g hg=>?_
     refine LoadS.sc (s:=.int .u8) (x:=ofB c) (fun w' hw=>(ho.chg hw fun _ _ h=>h).rd.cell1 hg hm) ?_
     refine StrIdx.mk j rfl hlt' ?_
     refine Ret.call (other_ret _ _) ?_
     rintro _ _ ⟨rfl,rfl⟩
     refine ⟨hd,hJ _ _ ⟨_,by rw [hon],hd,?_⟩⟩
     rw [other_of,hcl]
     simp [ofB_inj]
    ·have hz:out = []:=by
      cases out with
      | nil=>rfl
      | cons _ _=>rw [hon] at hzero; simp at hzero
     refine hJ _ _ ⟨false,by rw [hon],hd,?_⟩
     subst hz; simp
  ·have:j = s.size:=by omega
   subst this
   refine hC _ _ 0 (by omega) ⟨1,o2,out,by omega,by omega,rfl,hc2,ho,hown,(fun h=>by cases h),fun _=>?_⟩
   rw [← hred,List.drop_eq_nil_of_le (by simp)]; rfl
 ·have hi1:i = 1:=by omega
  obtain rfl:=h1 hi1
  exact bytes_string under87 under5 under9 ho.rd ⟨_,rfl,rfl,hc⟩
def ReduceF (s:ByteArray):ByteArray:=if checkF 8 s = 0 then ⟨(redF s.data.toList).toArray⟩ else ⟨#[]⟩
theorem check_size {k:Int} {s:ByteArray} (h:checkF k s = 0):s.size ≤ 100000:=by
 unfold checkF at h
 split at h
 ·cases h
 ·split at h
  ·cases h
  ·omega
theorem Reduce_ret {w:World} (h:Laid w) (s:ByteArray):Ret Tryd.prog 48 #[.string s] (.sc .str) w fun x w'=>x = ReduceF s ∧ Chg Nil w w':=by
 refine word_Reduce.calls _ ?_
 unfold word_Reduce.sh
 refine Ret.call (is_ret h s) ?_
 rintro _ w1 ⟨rfl,hc⟩
 refine Br.mk (fun hb=>⟨_,rfl,?_,hc⟩) (fun hb=>?_)
 ·rw [ReduceF,if_neg]; simpa using hb
 ·have hz:checkF 8 s = 0:=by simpa using hb
  refine New.mk fun b w2 hb2 hnew hsz hc2=>?_
  have hrd:RdT w2 (.sc .str) ⟨some ⟨b,0,none⟩,1,1⟩ [s]:=⟨rfl,fun i x hx=>⟨_,rfl,fun j v hv=>by
   cases i with
   | zero=>simp at hx; subst hx; rw [add_add,cellOf hnew]; simpa [Ty.cells,Ty.sz] using hv
   | succ i=>simp at hx⟩⟩
  refine Ret.call (reduce_ret (sl:=⟨some ⟨b,0,none⟩,1,1⟩) (s:=s) hrd (by have:=check_size hz; omega) (fun a ha=>by cases ha; exact lt_of_heap hnew)) ?_
  rintro _ w3 ⟨rfl,hc3⟩
  exact ⟨_,rfl,by rw [ReduceF,if_pos hz],(hc.then hc2).then hc3⟩
end Go.Proofs.YtffdjfkekdoeaaaDoor.Wd
end
section
set_option maxRecDepth 4000
namespace Go.Proofs.YtffdjfkekdoeaaaDoor.Wd
open Fw
def invF (l:List UInt8):List UInt8:=(l.map otherB).reverse
theorem inv_fill {α:Type} (z v:α) (m:Nat) (r:List α):(List.replicate (m + 1) z ++ r).set m v = List.replicate m z ++ v :: r:=by
 rw [List.replicate_succ',List.append_assoc,List.set_append_right _ _ (by simp)]
 simp
theorem inverse_ret {w:World} (s:ByteArray) (hb:s.size ≤ 1000000000) :
  Ret Tryd.prog 93 #[.string s] (.sc .str) w fun x w'=>x = ⟨(invF s.data.toList).toArray⟩ ∧ Chg Nil w w':=by
 refine word_inverse.calls _ ?_
 unfold word_inverse.sh
 refine makeSlice_own (s:=.int .u8) ok87 (z:=(0:Int)) zero5 rfl s.size rfl (by omega) (by simp only [maxLen]; omega) fun g w1 ho hc hg=>?_
 refine LoopT.mk (fun x w'=>∃ i:Nat,i ≤ s.size ∧ x = (s,⟨some ⟨g,0,none⟩,s.size,s.size⟩,((s.size:Nat):Int),(i:Int),()) ∧ Chg Nil w w' ∧ OwnT w' 5 tB ⟨some ⟨g,0,none⟩,s.size,s.size⟩ (List.replicate (s.size - i) 0 ++ (((s.data.toList.take i).map otherB).reverse).map ofB)) (fun x _=>s.size - x.2.2.2.1.toNat)
  ⟨0,Nat.zero_le _,rfl,hc,by simpa using ho⟩ ?_
 rintro x g6 w2 ⟨i,hi,rfl,hc2,ho2⟩
 dsimp only
 refine Br.dec (fun hlt=>?_) (fun hge=>?_)
 ·have hlt':i < s.size:=by omega
  refine StrIdx.mk i rfl hlt' ?_
  refine Ret.call (other_ret _ _) ?_
  rintro _ _ ⟨rfl,rfl⟩
  have e1:IntKind.wrap .i64 (((s.size:Nat):Int) - 1) = ((s.size - 1:Nat):Int):=by rw [wrap64 (by omega) (by omega)]; omega
  have e2:IntKind.wrap .i64 (((s.size - 1:Nat):Int) - (i:Int)) = ((s.size - (i + 1):Nat):Int):=by rw [wrap64 (by omega) (by omega)]; omega
  rw [e1,e2,wrap64 (by omega) (by omega)]
  refine ho2.idx (t:=tB) _ rfl (by simp; omega) fun g' hg'=>?_
  cases hg'
  rw [other_of]
  refine ho2.store (s:=.int .u8) rfl _ (by simp; omega) (x:=ofB (otherB s[i])) fun w3 ho3 hc3 _=>?_
  refine ⟨⟨i + 1,hlt',rfl,?_,?_⟩,?_⟩
  ·refine hc2.trans hc3 (fun _ _ h=>h) fun k hk he=>?_
   have he':k = g:=he
   omega
  ·rw [show s.size - i = (s.size - (i + 1)) + 1 by omega,inv_fill] at ho3
   have ht:s.data.toList.take (i + 1) = s.data.toList.take i ++ [s[i]]:=by
    rw [List.take_add_one,bytes_get s i hlt']; rfl
   rw [ht,List.map_append,List.reverse_append]
   exact ho3
  ·show s.size - (i + 1) < s.size - i
   omega
 ·have hi':i = s.size:=by omega
  subst hi'
  rw [Nat.sub_self,List.replicate_zero,List.nil_append,List.take_of_length_le (by simp)] at ho2
  exact bytes_string (l:=invF s.data.toList) under87 under5 under9 ho2.rd ⟨_,rfl,rfl,hc2⟩
def InverseF (s:ByteArray):ByteArray:=if checkF 8 s = 0 then ⟨(invF s.data.toList).toArray⟩ else ⟨#[]⟩
theorem Inverse_ret {w:World} (h:Laid w) (s:ByteArray):Ret Tryd.prog 75 #[.string s] (.sc .str) w fun x w'=>x = InverseF s ∧ Chg Nil w w':=by
 refine word_Inverse.calls _ ?_
 unfold word_Inverse.sh
 refine Ret.call (is_ret h s) ?_
 rintro _ w1 ⟨rfl,hc⟩
 refine Br.mk (fun hb=>⟨_,rfl,?_,hc⟩) (fun hb=>?_)
 ·rw [InverseF,if_neg]; simpa using hb
 ·have hz:checkF 8 s = 0:=by simpa using hb
  refine Ret.call (inverse_ret s (by have:=check_size hz; omega)) ?_
  rintro _ w3 ⟨rfl,hc3⟩
  exact ⟨_,rfl,by rw [InverseF,if_pos hz],hc.then hc3⟩
end Go.Proofs.YtffdjfkekdoeaaaDoor.Wd
end
section
namespace Go.Proofs.YtffdjfkekdoeaaaDoor.Fo
open Fw Wd
def start0 (m:Nat):St:=⟨m,[0],[List.replicate m none],[]⟩
theorem start_ret {w:World} (k:Nat) (h1:1 ≤ k) (h8:k ≤ 8) :
  Ret Tryd.prog 46 #[.int .i64 (k:Int)] (.sc .ptr) w fun x w'=>∃ fb M,x = some (at0 fb) ∧ Rep w' fb (start0 (2 * k)) M ∧ Chg Nil w w' ∧ ∀ i,M.foot fb i → w.heap.size ≤ i:=by
 refine fold_start.calls _ ?_
 unfold fold_start.sh
 refine New.mk fun fb w1 hfb hnew hsz hc=>?_
 rw [wrap64 (by omega) (by omega)] at hnew
 have h:Rep w1 fb ⟨2 * k,[],[],[]⟩ ⟨⟨none,0,0⟩,⟨none,0,0⟩,⟨none,0,0⟩,[]⟩:=
  { head:=by rw [hnew]; simp
    par:=OwnT.nil _ _ _,next:=OwnT.nil _ _ _,todo:=OwnT.nil _ _ _,len:=rfl
    row:=fun i b row hi=>by simp at hi
    nodup:=by simp,apart:=fun b hb=>by simp at hb,mle:=by show 2 * k ≤ 64; omega }
 have hno:∀ i,(⟨⟨none,0,0⟩,⟨none,0,0⟩,⟨none,0,0⟩,[]⟩:Mem).foot fb i → i = fb:=by
  rintro i (h | ⟨a,ha,_⟩ | ⟨a,ha,_⟩ | ⟨a,ha,_⟩ | h)
  ·exact h
  ·cases ha
  ·cases ha
  ·cases ha
  ·simp at h
 refine Ret.call (state_ret h (st':=start0 (2 * k)) rfl) ?_
 rintro _ w2 ⟨rfl,⟨M,hr,hf⟩,hc2⟩
 refine ⟨_,rfl,fb,M,rfl,hr,hc.trans hc2 (fun _ _ h=>h) fun i hi hk=>?_,fun i hi=>?_⟩
 ·have:=hno i hk; omega
 ·rcases hf i hi with h | h
  ·have:=hno i h; omega
  ·have:=hc.size; omega
def Idxs (s:ByteArray) (xs:List Nat):Prop:=s.data.toList.map (fun b=>idxF (ofB b)) = xs.map ofN
theorem path_ret {w:World} (hl:Laid w) {fb:Nat} {M:Mem} {st st':St} (h:Rep w fb st M) (h0:¬ M.foot fb 0) {K s t:Nat} {wd:ByteArray} (hsz:wd.size ≤ 1000000000) {xs:List Nat} (hx:Idxs wd xs) (hf:pathF K st s xs t = some st') :
  RetN Tryd.prog 47 #[.pointer (some (at0 fb)),.int .i64 (s:Int),.string wd,.int .i64 (t:Int)] [] w fun _ w'=>Step fb M w w' st':=by
 refine fold_folding_path.calls _ _ _ _ ?_
 unfold fold_folding_path.sh
 have hlen:xs.length = wd.size:=by
  have:=congrArg List.length hx
  simpa using this.symm
 have h00:0 < w.heap.size:=by obtain ⟨_,_,h⟩:=hl; exact lt_of_heap h
 refine LoopT.fuel (fun m x w'=>∃ (i s':Nat) (st1:St),i ≤ wd.size ∧ m = wd.size - i ∧ x = (some (at0 fb),(s':Int),wd,(t:Int),((wd.size:Nat):Int),(i:Int),()) ∧ Step fb M w w' st1 ∧ pathF K st1 s' (xs.drop i) t = some st') wd.size
  ⟨0,s,st,Nat.zero_le _,rfl,rfl,⟨⟨M,h,fun _ h=>.inl h⟩,Chg.refl w⟩,hf⟩ ?_
 clear h hf
 rintro m x g w1 C ⟨i,s',st1,hi,rfl,rfl,hst,hf⟩ hC
 dsimp only
 refine Br.dec (fun hlt=>?_) (fun hge=>?_)
 ·have hlt':i < wd.size:=by omega
  have hxi:xs[i]? = some (xs[i]'(by omega)):=List.getElem?_eq_getElem _
  have hidx:idxF (ofB wd[i]) = ((xs[i]'(by omega):Nat):Int):=by
   have h1:=congrArg (·[i]?) hx
   simp only [List.getElem?_map,bytes_get wd i hlt',hxi,Option.map_some,Option.some.injEq] at h1
   exact h1
  have hdrop:xs.drop i = xs[i]'(by omega) :: xs.drop (i + 1):=List.drop_eq_getElem_cons _
  rw [hdrop] at hf
  have hw1:IntKind.wrap .i64 (((wd.size:Nat):Int) - 1) = ((wd.size:Nat):Int) - 1:=wrap64 (by omega) (by omega)
  have hw2:IntKind.wrap .i64 ((i:Int) + 1) = ((i + 1:Nat):Int):=by rw [wrap64 (by omega) (by omega)]; rfl
  -- behind the choice of 'to'
  refine Join.by' (fun x w'=>∃ (to:Nat) (st2:St),x = (some (at0 fb),(s':Int),wd,(t:Int),(i:Int),(to:Int),((wd.size:Nat):Int),(i:Int),()) ∧ Step fb M w w' st2 ∧
    ∃ st3,linkF K st2 s' (xs[i]'(by omega)) to = some st3 ∧ pathF K st3 to (xs.drop (i + 1)) t = some st') ?_ ?_
  ·rintro x w2 g2 ⟨to,st2,rfl,hst2,st3,hlk,hrest⟩
   dsimp only
   refine StrIdx.mk i rfl hlt' ?_
   have hl2:Laid w2:=hl.chg hst2.chg h0
   refine Ret.call (index_ret hl2 _) ?_
   rintro _ w3 ⟨rfl,hc3⟩
   rw [hidx]
   obtain ⟨⟨M2,hr2,hf2⟩,hc2⟩:=hst2
   refine RetN.call (link_ret (hr2.nil hc3) hlk) fun _ w4 hs4=>?_
   rw [hw2]
   refine hC _ _ (wd.size - (i + 1)) (by omega) ⟨i + 1,to,st3,hlt',rfl,rfl,?_,hrest⟩
   exact hs4.step.pre (hc2.then hc3.nil) hf2
  ·intro J hJ
   rw [hw1]
   refine Br.dec (fun hin=>?_) (fun hlast=>?_)
   ·obtain ⟨y,l,hyl⟩:∃ y l,xs.drop (i + 1) = y :: l:=⟨_,_,List.drop_eq_getElem_cons (show i + 1 < xs.length by omega)⟩
    rw [hyl] at hf
    simp only [pathF] at hf
    split at hf
    ·cases hf
    rename_i st2 hst2
    split at hf
    ·cases hf
    rename_i st3 hlk
    obtain ⟨⟨M1,hr1,hf1⟩,hc1⟩:=hst
    refine Ret.call (state_ret hr1 hst2) ?_
    rintro _ w2 ⟨rfl,hs2⟩
    exact hJ _ _ ⟨_,st2,rfl,hs2.pre hc1 hf1,st3,hlk,by rw [hyl]; exact hf⟩
   ·have:xs.drop (i + 1) = []:=List.drop_eq_nil_of_le (by omega)
    rw [this] at hf
    simp only [pathF] at hf
    exact hJ _ _ ⟨t,st1,rfl,hst,st',hf,by rw [this]; simp [pathF]⟩
 ·have:i = wd.size:=by omega
  subst this
  rw [List.drop_eq_nil_of_le (by omega)] at hf
  simp only [pathF,Option.some.injEq] at hf
  subst hf
  exact ⟨(),rfl,hst⟩
end Go.Proofs.YtffdjfkekdoeaaaDoor.Fo
end
section
set_option maxRecDepth 4000
namespace Go.Proofs.YtffdjfkekdoeaaaDoor.Fo
open Fw Wd
theorem ofO_nonneg (o:Option Nat):(0 ≤ ofO o) ↔ o.isSome = true:=by
 cases o with
 | none=>simp [ofO]
 | some n=>simp [ofO]
theorem degF_snoc (r:Row) (o:Option Nat):degF (r ++ [o]) = degF r + (if o.isSome = true then 1 else 0):=by
 unfold degF
 rw [List.filter_append,List.length_append]
 cases o <;> simp
theorem degree_ret {w:World} {s:Sl} {r:Row} (h:RdT w tI s (r.map ofO)) (hb:r.length ≤ 1000000000):Ret Tryd.prog 62 #[s.v] tI w fun x w'=>x = (degF r:Int) ∧ w' = w:=by
 refine fold_degree.calls _ ?_
 unfold fold_degree.sh
 have hn:s.n = r.length:=by rw [h.len,List.length_map]
 refine LoopT.mk (fun x w'=>∃ i:Nat,i ≤ r.length ∧ x = ((degF (r.take i):Int),s,((s.n:Nat):Int),(i:Int),()) ∧ w' = w) (fun x _=>r.length - x.2.2.2.1.toNat) ⟨0,Nat.zero_le _,rfl,rfl⟩ ?_
 rintro x g w1 ⟨i,hi,rfl,rfl⟩
 dsimp only
 have hd:degF (r.take i) ≤ i:=Nat.le_trans (List.length_filter_le _ _) (by simp; omega)
 refine Br.dec (fun hlt=>?_) (fun hge=>?_)
 ·have hlt':i < r.length:=by omega
  refine h.get (t:=tI) i rfl (x:=ofO r[i]) (by rw [List.getElem?_map,List.getElem?_eq_getElem hlt']; rfl) ?_
  have ht:r.take (i + 1) = r.take i ++ [r[i]]:=by rw [List.take_add_one,List.getElem?_eq_getElem hlt']; rfl
  have hw:IntKind.wrap .i64 ((i:Int) + 1) = ((i + 1:Nat):Int):=by rw [wrap64 (by omega) (by omega)]; rfl
  have hmu:r.length - (i + 1) < r.length - i:=by omega
  rw [hw]
  refine Br.dec (fun hp=>?_) (fun hnp=>?_)
  ·have hs:=(ofO_nonneg _).1 hp
   refine ⟨⟨i + 1,hlt',?_,rfl⟩,hmu⟩
   rw [wrap64 (by omega) (by omega),ht,degF_snoc,if_pos hs]
   rfl
  ·have hs:(r[i]).isSome = false:=by
    rcases hb:(r[i]).isSome with _ | _
    ·rfl
    ·exact absurd ((ofO_nonneg _).2 hb) hnp
   refine ⟨⟨i + 1,hlt',?_,rfl⟩,hmu⟩
   rw [ht,degF_snoc,if_neg (by rw [hs]; simp)]
   rfl
 ·have:i = r.length:=by omega
  subst this
  rw [List.take_length]
  exact ⟨_,rfl,rfl,rfl⟩
theorem under85:Tryd.prog.underlying 85 = some (.slice 3):=by kernel_rfl
theorem eq_nil (w:World) (a:Option Addr) (n c:Nat) (x:Operand):(do eqGuard .eql 85 x (.const (.slice none 0 0)) (.slice a n c) (.slice none 0 0); binOp .eql 85 (.slice a n c) (.slice none 0 0):Sem Value).run Tryd.prog w = .ok (.bool a.isNone) w:=by
 rw [eqGuard_at_slice,Sem.run_bind,Sem.run_pure,Result.andThen_ok]
 simp only [binOp]
 simp [run_equal_slice_nil w 85 3 a n c under85]
theorem ne_nil (w:World) (a:Option Addr) (n c:Nat) (x:Operand):(do eqGuard .neq 85 x (.const (.slice none 0 0)) (.slice a n c) (.slice none 0 0); binOp .neq 85 (.slice a n c) (.slice none 0 0):Sem Value).run Tryd.prog w = .ok (.bool (!a.isNone)) w:=by
 rw [eqGuard_at_slice,Sem.run_bind,Sem.run_pure,Result.andThen_ok,run_neq_slice_nil w 85 3 a n c under85]
theorem clone_ret {w:World} {g m c:Nat} {r:Row} (h:OwnT w 3 tI ⟨some ⟨g,0,none⟩,m,c⟩ (r.map ofO)) (hpos:0 < m) (hm:m ≤ 64) :
  Ret Tryd.prog 83 #[.slice (some ⟨g,0,none⟩) m c] (.sc .sl) w fun x w'=>OwnT w' 3 tI x (r.map ofO) ∧ Chg Nil w w' ∧ ∀ k,x.own k → w.heap.size ≤ k:=by
 refine slices_Clone___int_int_.calls (p0:=⟨some ⟨g,0,none⟩,m,c⟩) ?_
 unfold slices_Clone___int_int_.sh
 refine ⟨false,w,eq_nil w _ _ _ _,Br.f rfl ?_⟩
 refine New.mk fun b w1 hb hnew hsz hc=>?_
 have hlen:m = r.length:=by have:=h.len; rwa [List.length_map] at this
 have h0:OwnT w1 3 tI ⟨some ⟨b,0,none⟩,0,0⟩ []:=⟨⟨rfl,.inr ⟨b,0,#[],rfl,Nat.zero_le _,hnew,Nat.le_refl _,by simp [maxLen],rfl,rfl⟩⟩,rfl⟩
 have h1:=h.chg hc fun _ _ h=>h
 refine OwnT.append (t:=tI) (m:=m) ok85 rfl (by decide) h0 (r.map ofO) (by rw [List.length_map]; exact hlen) hpos (fun j v hv=>?_) (by simp; omega) (by simp only [maxLen,List.length_nil]; omega) fun s' w2 ho2 hc2 hown=>?_
 ·rcases h1.block with ⟨h2,_⟩ | ⟨g',cur,h2,h3,h4,h5,h6,h7⟩
  ·cases h2
  ·cases h2
   rw [cellOf h3]
   rw [← h7,List.getElem?_take] at hv
   split at hv
   ·simpa using hv
   ·cases hv
 ·refine ⟨s',rfl,by simpa using ho2,hc.trans hc2 (fun _ _ h=>h) fun i hi hk=>?_,fun k hk=>?_⟩
  ·obtain ⟨a,ha,rfl⟩:=hk; cases ha; dsimp only at hi; omega
  ·rcases hown k hk with ⟨a,ha,rfl⟩ | hk
   ·cases ha; dsimp only; omega
   ·have:=hc.size; omega
structure Tab (w:World) (rs:Sl) (sls:List Sl) (rows:List (Option Row)):Prop where
 own:OwnT w 85 (.sc .sl) rs sls
 len:sls.length = rows.length
 row:∀ (i:Nat) (s:Sl) (r:Row),sls[i]? = some s → rows[i]? = some (some r) → OwnT w 3 tI s (r.map ofO) ∧ 0 < r.length ∧ r.length ≤ 64
 nul:∀ (i:Nat) (s:Sl),sls[i]? = some s → rows[i]? = some none → s = ⟨none,0,0⟩
 apart:∀ (i j:Nat) (s s':Sl),sls[i]? = some s → sls[j]? = some s' → i ≠ j → ∀ k,s.own k → ¬ s'.own k
def tfoot (rs:Sl) (sls:List Sl):Nat → Prop:=fun k=>rs.own k ∨ ∃ s ∈ sls,s.own k
section
variable {w:World} {rs:Sl} {sls:List Sl} {rows:List (Option Row)}
theorem Tab.slAt (h:Tab w rs sls rows) {i:Nat} {r:Option Row} (hr:rows[i]? = some r):∃ s,sls[i]? = some s:=
 ⟨_,List.getElem?_eq_getElem (by rw [h.len]; exact (List.getElem?_eq_some_iff.1 hr).1)⟩
theorem Tab.elem (h:Tab w rs sls rows) {s:Sl} (hs:s ∈ sls) {k:Nat} (hk:s.own k):∃ cur,w.heap[k]? = some (.cells cur 3 (0,0)):=by
 obtain ⟨i,hi⟩:=List.getElem?_of_mem hs
 have hlt:i < rows.length:=by rw [← h.len]; exact (List.getElem?_eq_some_iff.1 hi).1
 have hr:rows[i]? = some rows[i]:=List.getElem?_eq_getElem hlt
 cases hri:rows[i] with
 | none=>
  rw [hri] at hr
  have:=h.nul i s hi hr
  subst this
  obtain ⟨a,ha,_⟩:=hk; cases ha
 | some r=>
  rw [hri] at hr
  exact (h.row i s r hi hr).1.elem hk
theorem Tab.lt (h:Tab w rs sls rows):∀ k,tfoot rs sls k → k < w.heap.size:=by
 rintro k (⟨a,ha,rfl⟩ | ⟨s,hs,hk⟩)
 ·exact h.own.lt a ha
 ·obtain ⟨cur,hc⟩:=h.elem hs hk; exact lt_of_heap hc
theorem Tab.at27 (h:Tab w rs sls rows) {k:Nat} (hk:tfoot rs sls k) {c:Array Value} {e:TypeId} {f:Nat × Nat} (hc:w.heap[k]? = some (.cells c e f)):e = 85 ∨ e = 3:=by
 rcases hk with hk | ⟨s,hs,hk⟩
 ·obtain ⟨_,h1⟩:=h.own.elem hk; rw [h1] at hc; cases hc; exact .inl rfl
 ·obtain ⟨_,h1⟩:=h.elem hs hk; rw [h1] at hc; cases hc; exact .inr rfl
theorem Tab.chg (h:Tab w rs sls rows) {S:Nat → Prop} {w':World} (hc:Chg S w w') (hs:∀ k,tfoot rs sls k → ¬ S k):Tab w' rs sls rows:=
 ⟨h.own.chg hc fun a ha=>hs _ (.inl ⟨a,ha,rfl⟩),h.len,fun i s r hi hr=>⟨(h.row i s r hi hr).1.chg hc fun a ha=>hs _ (.inr ⟨s,List.mem_of_getElem? hi,a,ha,rfl⟩),(h.row i s r hi hr).2⟩,h.nul,h.apart⟩
theorem Tab.nil (h:Tab w rs sls rows) {w':World} (hc:Chg Nil w w'):Tab w' rs sls rows:=h.chg hc fun _ _ h=>h
theorem Tab.blk (h:Tab w rs sls rows) {i:Nat} {r:Row} (hr:rows[i]? = some (some r)):∃ g n c,sls[i]? = some ⟨some ⟨g,0,none⟩,n,c⟩ ∧ n = r.length:=by
 obtain ⟨s,hs⟩:=h.slAt hr
 obtain ⟨ho,hp,_⟩:=h.row i s r hs hr
 rcases ho.block with ⟨_,h1⟩ | ⟨g,cur,h1,_⟩
 ·have h2:=List.map_eq_nil_iff.1 h1; subst h2; simp at hp
 ·refine ⟨g,s.n,s.c,?_,?_⟩
  ·rw [hs]; congr 1; cases s; simp only at h1; subst h1; rfl
  ·rw [ho.len,List.length_map]
theorem Tab.setRow (h:Tab w rs sls rows) {w':World} {i g n c:Nat} {r r':Row} (hr:rows[i]? = some (some r)) (hi:sls[i]? = some ⟨some ⟨g,0,none⟩,n,c⟩) (hc:Chg (· = g) w w') (ho:OwnT w' 3 tI ⟨some ⟨g,0,none⟩,n,c⟩ (r'.map ofO)) (hl:r'.length = r.length) :
  Tab w' rs sls (rows.set i (some r')):=by
 have hg:∀ (j:Nat) (s:Sl),sls[j]? = some s → j ≠ i → ∀ a,s.a = some a → ¬ a.block = g:=fun j s hj hne a ha he=>
  h.apart j i s _ hj hi hne g ⟨a,ha,he⟩ ⟨_,rfl,rfl⟩
 have hrs:∀ a,rs.a = some a → ¬ a.block = g:=fun a ha he=>by
  obtain ⟨_,c1⟩:=h.own.elem ⟨a,ha,he⟩
  obtain ⟨_,c2⟩:=h.elem (List.mem_of_getElem? hi) (k:=g) ⟨_,rfl,rfl⟩
  exact ne_of_elem c1 c2 (by decide) rfl
 have hlt:i < rows.length:=(List.getElem?_eq_some_iff.1 hr).1
 refine ⟨h.own.chg hc hrs,by rw [h.len,List.length_set],fun j s q hj hq=>?_,fun j s hj hq=>?_,h.apart⟩
 ·by_cases hij:i = j
  ·subst hij
   rw [List.getElem?_set_self hlt] at hq; cases hq
   rw [hi] at hj; cases hj
   have:=(h.row i _ r hi hr).2
   exact ⟨ho,by omega,by omega⟩
  ·rw [List.getElem?_set_ne hij] at hq
   exact ⟨(h.row j s q hj hq).1.chg hc (hg j s hj (Ne.symm hij)),(h.row j s q hj hq).2⟩
 ·by_cases hij:i = j
  ·subst hij
   rw [List.getElem?_set_self hlt] at hq; cases hq
  ·rw [List.getElem?_set_ne hij] at hq
   exact h.nul j s hj hq
end
end Go.Proofs.YtffdjfkekdoeaaaDoor.Fo
end
section
set_option maxRecDepth 4000
namespace Go.Proofs.YtffdjfkekdoeaaaDoor.Fo
open Fw Wd
theorem under3:Tryd.prog.underlying 3 = some (.int .i64):=by kernel_rfl
theorem under139:Tryd.prog.underlying 139 = some (.map 3 3):=by kernel_rfl
theorem checkKey_int (P:Program) (w:World) (b:Bool) (n:Nat) (t:TypeId) (k kd:IntKind) (v:Int) (h:P.underlying t = some (.int kd)):(Instr.checkKey b (n + 1) t (.int k v)).run P w = .ok () w:=by
 simp [Instr.checkKey,run_underlying h]
theorem sameNow_int (kd k:IntKind) (a b:Int):Instr.sameNow (.int kd) (.int k a) (.int k b) = some (a == b):=by simp [Instr.sameNow]
def ents (es:List MapEntry) (l:List (Int × Value)):Prop:=es.map (fun e=>(e.key,e.val)) = l.map fun p=>(.int .i64 p.1,p.2)
theorem findNow_none (kd:IntKind) (t:Int):∀ (es:List MapEntry) (l:List (Int × Value)) (i:Nat),ents es l → (∀ p ∈ l,p.1 ≠ t) → Instr.findNow (.int kd) (.int .i64 t) es i = some none
 | [],l,i,_,_=>rfl
 | e :: es,[],i,h,_=>by simp [ents] at h
 | e :: es,p :: l,i,h,hn=>by
  simp only [ents,List.map_cons,List.cons.injEq,Prod.mk.injEq] at h
  have hne:(t == p.1) = false:=by rw [beq_eq_false_iff_ne]; exact fun he=>hn p (by simp) he.symm
  rw [Instr.findNow,h.1.1,sameNow_int,hne]
  exact findNow_none kd t es l (i + 1) h.2 fun q hq=>hn q (by simp [hq])
theorem findNow_some (kd:IntKind) (t:Int):∀ (es:List MapEntry) (l:List (Int × Value)) (i j:Nat) (v:Value),ents es l → l[j]? = some (t,v) → (∀ j' p,j' < j → l[j']? = some p → p.1 ≠ t) → Instr.findNow (.int kd) (.int .i64 t) es i = some (some (i + j,v))
 | [],l,i,j,v,h,hj,_=>by cases l with | nil=>simp at hj | cons _ _=>simp [ents] at h
 | e :: es,[],i,j,v,h,hj,_=>by simp at hj
 | e :: es,p :: l,i,j,v,h,hj,hn=>by
  simp only [ents,List.map_cons,List.cons.injEq,Prod.mk.injEq] at h
  rw [Instr.findNow,h.1.1,sameNow_int]
  cases j with
  | zero=>
   simp only [List.getElem?_cons_zero,Option.some.injEq] at hj
   subst hj
   simp [h.1.2]
  | succ j=>
   have hne:(t == p.1) = false:=by rw [beq_eq_false_iff_ne]; exact fun he=>hn 0 p (by omega) (by simp) he.symm
   rw [hne]
   rw [List.getElem?_cons_succ] at hj
   have:=findNow_some kd t es l (i + 1) j v h.2 hj fun j' q hj' hq=>hn (j' + 1) q (by omega) (by simpa using hq)
   rw [show i + (j + 1) = i + 1 + j by omega]; exact this
def qList (q:List Nat):List (Int × Value):=q.zipIdx.map fun p=>((p.1:Int),.int .i64 (p.2:Int))
def MapQ (w:World) (mb:Nat) (q:List Nat):Prop:=q.Nodup ∧ ∃ es clock,w.heap[mb]? = some (.map es clock) ∧ ents es.toList (qList q)
theorem MapQ.chg {w w':World} {mb:Nat} {q:List Nat} {S:Nat → Prop} (h:MapQ w mb q) (hc:Chg S w w') (hs:¬ S mb):MapQ w' mb q:=by
 obtain ⟨hn,es,c,h1,h2⟩:=h; exact ⟨hn,es,c,hc.heap h1 hs,h2⟩
theorem qList_get (q:List Nat) (i:Nat):(qList q)[i]? = (q[i]?).map fun t=>((t:Int),Value.int .i64 (i:Int)):=by
 unfold qList
 rw [List.getElem?_map,List.getElem?_zipIdx]
 cases q[i]? <;> simp
theorem qList_notin {q:List Nat} {t:Nat} (h:t ∉ q):∀ p ∈ qList q,p.1 ≠ (t:Int):=fun p hp he=>by
 obtain ⟨i,hi⟩:=List.getElem?_of_mem hp
 rw [qList_get] at hi
 cases hq:q[i]? with
 | none=>rw [hq] at hi; cases hi
 | some t'=>
  rw [hq] at hi
  cases hi
  have:t' = t:=Int.ofNat.inj he
  subst this
  exact h (List.mem_of_getElem? hq)
theorem zero3' (w:World):(zeroValue 3).run Tryd.prog w = .ok (.int .i64 0) w:=by
 obtain ⟨i,hi,hz⟩:=Option.bind_eq_some_iff.1 zero3
 simp [zeroValue,typeInfo,hi,hz]
theorem lookup_out {w:World} {mb:Nat} {q:List Nat} (h:MapQ w mb q) {t:Nat} (ht:t ∉ q) :
  (Instr.lookup 139 (.map (some mb)) (.int .i64 (t:Int)) true).run Tryd.prog w = .ok (.tuple #[.int .i64 0,.bool false]) w:=by
 obtain ⟨hn,es,c,h1,h2⟩:=h
 simp [Instr.lookup,run_underlying under139,getObj,Sem.run_bind,Sem.run,h1,Result.andThen,checkKey_int Tryd.prog w _ 9999 3 .i64 .i64 _ under3,Instr.findKey,run_underlying under3,findNow_none .i64 _ _ _ 0 h2 (qList_notin ht),zero3' w]
theorem lookup_in {w:World} {mb:Nat} {q:List Nat} (h:MapQ w mb q) {t:Nat} (ht:t ∈ q) :
  (Instr.lookup 139 (.map (some mb)) (.int .i64 (t:Int)) true).run Tryd.prog w = .ok (.tuple #[.int .i64 ((q.idxOf t:Nat):Int),.bool true]) w:=by
 obtain ⟨hn,es,c,h1,h2⟩:=h
 have hlt:q.idxOf t < q.length:=List.idxOf_lt_length_iff.2 ht
 have hget:q[q.idxOf t]? = some t:=by rw [List.getElem?_eq_getElem hlt,List.getElem_idxOf hlt]
 have hf:=findNow_some .i64 (t:Int) es.toList (qList q) 0 (q.idxOf t) (.int .i64 ((q.idxOf t:Nat):Int)) h2 (by rw [qList_get,hget]; rfl) (fun j p hj hp he=>by
  rw [qList_get] at hp
  cases hq:q[j]? with
  | none=>rw [hq] at hp; cases hp
  | some t'=>
   rw [hq] at hp
   cases hp
   have:t' = t:=Int.ofNat.inj he
   subst this
   have hjl:=(List.getElem?_eq_some_iff.1 hq)
   have:=(List.getElem_inj hn).1 (hjl.2.trans (List.getElem_idxOf hlt).symm)
   omega)
 simp [Instr.lookup,run_underlying under139,getObj,Sem.run_bind,Sem.run,h1,Result.andThen,checkKey_int Tryd.prog w _ 9999 3 .i64 .i64 _ under3,Instr.findKey,run_underlying under3,hf]
theorem mapUpdate_new {w:World} {mb:Nat} {q:List Nat} (h:MapQ w mb q) {t:Nat} (ht:t ∉ q) :
  ∃ w',(Instr.mapUpdate 139 (.map (some mb)) (.int .i64 (t:Int)) (.int .i64 ((q.length:Nat):Int))).run Tryd.prog w = .ok () w' ∧ MapQ w' mb (q ++ [t]) ∧ Chg (· = mb) w w':=by
 obtain ⟨hn,es,c,h1,h2⟩:=h
 refine ⟨w.putObj mb (.map (es.push { key:=.int .i64 (t:Int),val:=.int .i64 ((q.length:Nat):Int),born:=c }) (c + 1)),?_,⟨?_,_,_,heap_putObj h1,?_⟩,Chg.putObj w _ rfl⟩
 ·simp [Instr.mapUpdate,run_underlying under139,getObj,setObj,Sem.run_bind,Sem.run,h1,Result.andThen,checkKey_int Tryd.prog w _ 9999 3 .i64 .i64 _ under3,Instr.findKey,run_underlying under3,findNow_none .i64 _ _ _ 0 h2 (qList_notin ht),World.putObj]
 ·rw [List.nodup_append]
  exact ⟨hn,by simp,fun a ha b hb=>by simp only [List.mem_singleton] at hb; subst hb; exact fun he=>ht (he ▸ ha)⟩
 ·unfold ents qList at *
  rw [Array.toList_push,List.map_append,h2,List.zipIdx_append,List.map_append,List.map_append]
  simp
end Go.Proofs.YtffdjfkekdoeaaaDoor.Fo
end
section
set_option maxRecDepth 4000
namespace Go.Proofs.YtffdjfkekdoeaaaDoor.Fo
open Fw Wd
theorem ok24:slOk Tryd.prog 24 4 1 1 = true:=by kernel_rfl
structure AutR (B:Nat) (w:World) (sa sn:Sl) (acc:List Bool) (next:List (List Int)):Prop where
 acc:RdT w (.sc .bool) sa acc
 accB:∀ k,sa.own k → B ≤ k
 nextB:∀ k,sn.own k → B ≤ k
 next:∃ sls,RdT w (.sc .sl) sn sls ∧ sls.length = next.length ∧ (∀ (i:Nat) (s:Sl) (r:List Int),sls[i]? = some s → next[i]? = some r → RdT w tI s r) ∧ ∀ s ∈ sls,∀ k,s.own k → B ≤ k
theorem AutR.chg {B:Nat} {w w':World} {sa sn:Sl} {acc:List Bool} {next:List (List Int)} (h:AutR B w sa sn acc next) {S:Nat → Prop} (hc:Chg S w w') (hs:∀ k,B ≤ k → ¬ S k):AutR B w' sa sn acc next:=by
 obtain ⟨h1,hb,hn,sls,h2,h3,h4,h5⟩:=h
 exact ⟨h1.chg hc fun a ha=>hs _ (hb _ ⟨a,ha,rfl⟩),hb,hn,sls,h2.chg hc fun a ha=>hs _ (hn _ ⟨a,ha,rfl⟩),h3,fun i s r hi hr=>(h4 i s r hi hr).chg hc fun a ha=>hs _ (h5 s (List.mem_of_getElem? hi) _ ⟨a,ha,rfl⟩),h5⟩
theorem AutR.nil {B:Nat} {w w':World} {sa sn:Sl} {acc:List Bool} {next:List (List Int)} (h:AutR B w sa sn acc next) (hc:Chg Nil w w'):AutR B w' sa sn acc next:=h.chg hc fun _ _ h=>h
theorem AutR.mono {B B':Nat} {w:World} {sa sn:Sl} {acc:List Bool} {next:List (List Int)} (h:AutR B w sa sn acc next) (hb:B' ≤ B):AutR B' w sa sn acc next:=by
 obtain ⟨h1,h2,h3,sls,h4,h5,h6,h7⟩:=h
 exact ⟨h1,fun k hk=>Nat.le_trans hb (h2 k hk),fun k hk=>Nat.le_trans hb (h3 k hk),sls,h4,h5,h6,fun s hs k hk=>Nat.le_trans hb (h7 s hs k hk)⟩
def accF (n:Nat):List Bool:=(List.range n).map (· == 0)
def tooBig:List PanicEntry:=[{ v:=.iface 128 (.agg #[]),recovered:=false }]
def numPost (w:World) (F:Nat → Prop) (m:Nat) (res:Option (List Row)) (e:Ending) (w':World):Prop:=
 Chg F w w' ∧ match res with
  | some nexts=>∃ sa sn,e = .returned (.agg #[.int .i64 (m:Int),.int .i64 0,sa.v,sn.v]) ∧ AutR w.heap.size w' sa sn (accF nexts.length) (nexts.map (·.map ofO))
  | none=>e = .panicked tooBig
def zeroAut:Obj:=.cells #[.int .i64 0,.int .i64 0,.slice none 0 0,.slice none 0 0] 27 (0,0)
theorem accF_succ (n:Nat):accF (n + 1) = accF n ++ [n == 0]:=by unfold accF; rw [List.range_succ,List.map_append]; rfl
theorem ne_map {w:World} {i j:Nat} {c:Array Value} {e:TypeId} {f:Nat × Nat} {es:Array MapEntry} {cl:Nat} (h:w.heap[i]? = some (.cells c e f)) (h':w.heap[j]? = some (.map es cl)):i ≠ j:=fun he=>by
 subst he; rw [h] at h'; cases h'
def bfoot (b mb:Nat) (qs sa sn:Sl) (os:List Sl):Nat → Prop:=fun k=>k = b ∨ k = mb ∨ qs.own k ∨ sa.own k ∨ sn.own k ∨ ∃ s ∈ os,s.own k
structure Bfs (B:Nat) (w:World) (b mb m:Nat) (qs sa sn:Sl) (qm q:List Nat) (na:Nat) (os:List Sl) (out:List Row):Prop where
 head:w.heap[b]? = some (.cells #[.int .i64 (m:Int),.int .i64 0,sa.v,sn.v] 27 (0,0))
 map:MapQ w mb qm
 que:OwnN w qs q
 acc:OwnT w 4 (.sc .bool) sa (accF na)
 nxt:OwnT w 85 (.sc .sl) sn os
 len:os.length = out.length
 row:∀ (i:Nat) (s:Sl) (r:Row),os[i]? = some s → out[i]? = some r → OwnT w 3 tI s (r.map ofO)
 apart:∀ s ∈ os,∀ k,s.own k → ¬ qs.own k
 ge:∀ k,bfoot b mb qs sa sn os k → B ≤ k
section
variable {B:Nat} {w:World} {b mb m:Nat} {qs sa sn:Sl} {qm q:List Nat} {na:Nat} {os:List Sl} {out:List Row}
theorem Bfs.rowElem (h:Bfs B w b mb m qs sa sn qm q na os out) {s:Sl} (hs:s ∈ os) {k:Nat} (hk:s.own k):∃ cur,w.heap[k]? = some (.cells cur 3 (0,0)):=by
 obtain ⟨i,hi⟩:=List.getElem?_of_mem hs
 have hlt:i < out.length:=by rw [← h.len]; exact (List.getElem?_eq_some_iff.1 hi).1
 exact (h.row i s _ hi (List.getElem?_eq_getElem hlt)).elem hk
theorem Bfs.lt (h:Bfs B w b mb m qs sa sn qm q na os out):∀ k,bfoot b mb qs sa sn os k → k < w.heap.size:=by
 rintro k (rfl | rfl | hk | hk | hk | ⟨s,hs,hk⟩)
 ·exact lt_of_heap h.head
 ·obtain ⟨_,_,_,h1,_⟩:=h.map; exact lt_of_heap h1
 ·obtain ⟨_,h1⟩:=h.que.elem hk; exact lt_of_heap h1
 ·obtain ⟨_,h1⟩:=h.acc.elem hk; exact lt_of_heap h1
 ·obtain ⟨_,h1⟩:=h.nxt.elem hk; exact lt_of_heap h1
 ·obtain ⟨_,h1⟩:=h.rowElem hs hk; exact lt_of_heap h1
theorem Bfs.chg (h:Bfs B w b mb m qs sa sn qm q na os out) {S:Nat → Prop} {w':World} (hc:Chg S w w') (hs:∀ k,bfoot b mb qs sa sn os k → ¬ S k):Bfs B w' b mb m qs sa sn qm q na os out where
 head:=hc.heap h.head (hs _ (.inl rfl))
 map:=h.map.chg hc (hs _ (.inr (.inl rfl)))
 que:=h.que.chg hc fun a ha=>hs _ (.inr (.inr (.inl ⟨a,ha,rfl⟩)))
 acc:=h.acc.chg hc fun a ha=>hs _ (.inr (.inr (.inr (.inl ⟨a,ha,rfl⟩))))
 nxt:=h.nxt.chg hc fun a ha=>hs _ (.inr (.inr (.inr (.inr (.inl ⟨a,ha,rfl⟩)))))
 len:=h.len
 row:=fun i s r hi hr=>(h.row i s r hi hr).chg hc fun a ha=>hs _ (.inr (.inr (.inr (.inr (.inr ⟨s,List.mem_of_getElem? hi,a,ha,rfl⟩)))))
 apart:=h.apart
 ge:=h.ge
theorem Bfs.nil (h:Bfs B w b mb m qs sa sn qm q na os out) {w':World} (hc:Chg Nil w w'):Bfs B w' b mb m qs sa sn qm q na os out:=h.chg hc fun _ _ h=>h
theorem Bfs.setMap (h:Bfs B w b mb m qs sa sn qm q na os out) {w':World} {qm':List Nat} (hc:Chg (· = mb) w w') (hm:MapQ w' mb qm'):Bfs B w' b mb m qs sa sn qm' q na os out:=by
 obtain ⟨_,es,cl,hmap,_⟩:=h.map
 have ne:∀ {k:Nat} {c:Array Value} {e:TypeId} {f:Nat × Nat},w.heap[k]? = some (.cells c e f) → ¬ k = mb:=fun hk=>ne_map hk hmap
 exact {
  head:=hc.heap h.head (ne h.head)
  map:=hm
  que:=h.que.chg hc fun a ha=>by obtain ⟨_,h1⟩:=h.que.elem ⟨a,ha,rfl⟩; exact ne h1
  acc:=h.acc.chg hc fun a ha=>by obtain ⟨_,h1⟩:=h.acc.elem ⟨a,ha,rfl⟩; exact ne h1
  nxt:=h.nxt.chg hc fun a ha=>by obtain ⟨_,h1⟩:=h.nxt.elem ⟨a,ha,rfl⟩; exact ne h1
  len:=h.len
  row:=fun i s r hi hr=>(h.row i s r hi hr).chg hc fun a ha=>by obtain ⟨_,h1⟩:=(h.row i s r hi hr).elem ⟨a,ha,rfl⟩; exact ne h1
  apart:=h.apart
  ge:=h.ge }
theorem Bfs.setQue (h:Bfs B w b mb m qs sa sn qm q na os out) {w':World} {qs':Sl} {q':List Nat} (hB:B ≤ w.heap.size) (hc:Chg qs.own w w') (hq:OwnN w' qs' q') (hown:∀ k,qs'.own k → qs.own k ∨ w.heap.size ≤ k):Bfs B w' b mb m qs' sa sn qm q' na os out:=by
 obtain ⟨_,es,cl,hmap,_⟩:=h.map
 have ne:∀ {k:Nat} {c:Array Value} {e:TypeId} {f:Nat × Nat},w.heap[k]? = some (.cells c e f) → e ≠ 3 → ¬ qs.own k:=fun hk he ho=>by
  obtain ⟨_,h1⟩:=h.que.elem ho; exact ne_of_elem hk h1 he rfl
 exact {
  head:=hc.heap h.head (ne h.head (by decide))
  map:=h.map.chg hc fun ho=>by obtain ⟨_,h1⟩:=h.que.elem ho; exact ne_map h1 hmap rfl
  que:=hq
  acc:=h.acc.chg hc fun a ha=>by obtain ⟨_,h1⟩:=h.acc.elem ⟨a,ha,rfl⟩; exact ne h1 (by decide)
  nxt:=h.nxt.chg hc fun a ha=>by obtain ⟨_,h1⟩:=h.nxt.elem ⟨a,ha,rfl⟩; exact ne h1 (by decide)
  len:=h.len
  row:=fun i s r hi hr=>(h.row i s r hi hr).chg hc fun a ha=>h.apart s (List.mem_of_getElem? hi) _ ⟨a,ha,rfl⟩
  apart:=fun s hs k hk hq'=>by
   rcases hown k hq' with h1 | h1
   ·exact h.apart s hs k hk h1
   ·have:=h.lt k (.inr (.inr (.inr (.inr (.inr ⟨s,hs,hk⟩))))); omega
  ge:=by
   rintro k (hk | hk | hk | hk | hk | hk)
   ·exact h.ge k (.inl hk)
   ·exact h.ge k (.inr (.inl hk))
   ·rcases hown k hk with h1 | h1
    ·exact h.ge k (.inr (.inr (.inl h1)))
    ·omega
   ·exact h.ge k (.inr (.inr (.inr (.inl hk))))
   ·exact h.ge k (.inr (.inr (.inr (.inr (.inl hk)))))
   ·exact h.ge k (.inr (.inr (.inr (.inr (.inr hk))))) }
theorem Bfs.setAcc (h:Bfs B w b mb m qs sa sn qm q na os out) {w1 w2:World} {sa':Sl} {na':Nat} (hB:B ≤ w.heap.size) (hc:Chg sa.own w w1) (ha:OwnT w1 4 (.sc .bool) sa' (accF na')) (hown:∀ k,sa'.own k → sa.own k ∨ w.heap.size ≤ k)
  (hc2:Chg (· = b) w1 w2) (hh:w2.heap[b]? = some (.cells #[.int .i64 (m:Int),.int .i64 0,sa'.v,sn.v] 27 (0,0))):Bfs B w2 b mb m qs sa' sn qm q na' os out:=by
 obtain ⟨_,es,cl,hmap,_⟩:=h.map
 have ne:∀ {k:Nat} {c:Array Value} {e:TypeId} {f:Nat × Nat},w.heap[k]? = some (.cells c e f) → e ≠ 4 → ¬ sa.own k:=fun hk he ho=>by
  obtain ⟨_,h1⟩:=h.acc.elem ho; exact ne_of_elem hk h1 he rfl
 have hcc:Chg (fun k=>sa.own k ∨ k = b) w w2:=hc.trans hc2 (fun _ _ h=>.inl h) (fun _ _ h=>.inr h)
 have ne2:∀ {k:Nat} {c:Array Value} {e:TypeId} {f:Nat × Nat},w.heap[k]? = some (.cells c e f) → e ≠ 4 → e ≠ 27 → ¬ (sa.own k ∨ k = b):=fun hk h4 h27 ho=>ho.elim (ne hk h4) (ne_of_elem hk h.head h27)
 have hh1:w1.heap[b]? = _:=hc.heap h.head (ne h.head (by decide))
 exact {
  head:=hh
  map:=h.map.chg hcc fun ho=>ho.elim (fun ho=>by obtain ⟨_,h1⟩:=h.acc.elem ho; exact ne_map h1 hmap rfl) (fun he=>ne_map h.head hmap he.symm)
  que:=h.que.chg hcc fun a ha=>by obtain ⟨_,h1⟩:=h.que.elem ⟨a,ha,rfl⟩; exact ne2 h1 (by decide) (by decide)
  acc:=ha.chg hc2 fun a hx he=>by obtain ⟨_,h1⟩:=ha.elem ⟨a,hx,rfl⟩; exact ne_of_elem h1 hh1 (by decide) he
  nxt:=h.nxt.chg hcc fun a ha=>by obtain ⟨_,h1⟩:=h.nxt.elem ⟨a,ha,rfl⟩; exact ne2 h1 (by decide) (by decide)
  len:=h.len
  row:=fun i s r hi hr=>(h.row i s r hi hr).chg hcc fun a ha=>by obtain ⟨_,h1⟩:=(h.row i s r hi hr).elem ⟨a,ha,rfl⟩; exact ne2 h1 (by decide) (by decide)
  apart:=h.apart
  ge:=by
   rintro k (hk | hk | hk | hk | hk | hk)
   ·exact h.ge k (.inl hk)
   ·exact h.ge k (.inr (.inl hk))
   ·exact h.ge k (.inr (.inr (.inl hk)))
   ·rcases hown k hk with h1 | h1
    ·exact h.ge k (.inr (.inr (.inr (.inl h1))))
    ·omega
   ·exact h.ge k (.inr (.inr (.inr (.inr (.inl hk)))))
   ·exact h.ge k (.inr (.inr (.inr (.inr (.inr hk))))) }
theorem Bfs.addRow (h:Bfs B w b mb m qs sa sn qm q na os out) {w1 w2:World} {sn' rw:Sl} {r:Row} (hB:B ≤ w.heap.size) (hrw:OwnT w 3 tI rw (r.map ofO)) (hrB:∀ k,rw.own k → B ≤ k) (hrq:∀ k,rw.own k → ¬ qs.own k) (hc:Chg sn.own w w1)
  (hn:OwnT w1 85 (.sc .sl) sn' (os ++ [rw])) (hown:∀ k,sn'.own k → sn.own k ∨ w.heap.size ≤ k)
  (hc2:Chg (· = b) w1 w2) (hh:w2.heap[b]? = some (.cells #[.int .i64 (m:Int),.int .i64 0,sa.v,sn'.v] 27 (0,0))):Bfs B w2 b mb m qs sa sn' qm q na (os ++ [rw]) (out ++ [r]):=by
 obtain ⟨_,es,cl,hmap,_⟩:=h.map
 have ne:∀ {k:Nat} {c:Array Value} {e:TypeId} {f:Nat × Nat},w.heap[k]? = some (.cells c e f) → e ≠ 85 → ¬ sn.own k:=fun hk he ho=>by
  obtain ⟨_,h1⟩:=h.nxt.elem ho; exact ne_of_elem hk h1 he rfl
 have hcc:Chg (fun k=>sn.own k ∨ k = b) w w2:=hc.trans hc2 (fun _ _ h=>.inl h) (fun _ _ h=>.inr h)
 have ne2:∀ {k:Nat} {c:Array Value} {e:TypeId} {f:Nat × Nat},w.heap[k]? = some (.cells c e f) → e ≠ 85 → e ≠ 27 → ¬ (sn.own k ∨ k = b):=fun hk h4 h27 ho=>ho.elim (ne hk h4) (ne_of_elem hk h.head h27)
 have hh1:w1.heap[b]? = _:=hc.heap h.head (ne h.head (by decide))
 have hkeep:∀ {s:Sl} {r:Row},OwnT w 3 tI s (r.map ofO) → OwnT w2 3 tI s (r.map ofO):=fun ho=>ho.chg hcc fun a ha=>by obtain ⟨_,h1⟩:=ho.elem ⟨a,ha,rfl⟩; exact ne2 h1 (by decide) (by decide)
 exact {
  head:=hh
  map:=h.map.chg hcc fun ho=>ho.elim (fun ho=>by obtain ⟨_,h1⟩:=h.nxt.elem ho; exact ne_map h1 hmap rfl) (fun he=>ne_map h.head hmap he.symm)
  que:=h.que.chg hcc fun a ha=>by obtain ⟨_,h1⟩:=h.que.elem ⟨a,ha,rfl⟩; exact ne2 h1 (by decide) (by decide)
  acc:=h.acc.chg hcc fun a ha=>by obtain ⟨_,h1⟩:=h.acc.elem ⟨a,ha,rfl⟩; exact ne2 h1 (by decide) (by decide)
  nxt:=hn.chg hc2 fun a hx he=>by obtain ⟨_,h1⟩:=hn.elem ⟨a,hx,rfl⟩; exact ne_of_elem h1 hh1 (by decide) he
  len:=by rw [List.length_append,List.length_append,h.len]; rfl
  row:=fun i s q hi hr=>by
   by_cases hlt:i < os.length
   ·rw [List.getElem?_append_left hlt] at hi
    rw [List.getElem?_append_left (by rw [← h.len]; exact hlt)] at hr
    exact hkeep (h.row i s q hi hr)
   ·rw [List.getElem?_append_right (by omega)] at hi
    rw [List.getElem?_append_right (by rw [← h.len]; omega),← h.len] at hr
    cases hk:i - os.length with
    | zero=>rw [hk] at hi hr; cases hi; cases hr; exact hkeep hrw
    | succ n=>rw [hk] at hi; simp at hi
  apart:=fun s hs k hk=>by
   rcases List.mem_append.1 hs with h1 | h1
   ·exact h.apart s h1 k hk
   ·simp only [List.mem_singleton] at h1; subst h1; exact hrq k hk
  ge:=by
   rintro k (hk | hk | hk | hk | hk | ⟨s,hs,hk⟩)
   ·exact h.ge k (.inl hk)
   ·exact h.ge k (.inr (.inl hk))
   ·exact h.ge k (.inr (.inr (.inl hk)))
   ·exact h.ge k (.inr (.inr (.inr (.inl hk))))
   ·rcases hown k hk with h1 | h1
    ·exact h.ge k (.inr (.inr (.inr (.inr (.inl h1)))))
    ·omega
   ·rcases List.mem_append.1 hs with h1 | h1
    ·exact h.ge k (.inr (.inr (.inr (.inr (.inr ⟨s,h1,hk⟩)))))
    ·simp only [List.mem_singleton] at h1; subst h1; exact hrB k hk }
theorem Bfs.at27 (h:Bfs B w b mb m qs sa sn qm q na os out) {k:Nat} (hk:bfoot b mb qs sa sn os k) {c:Array Value} {f:Nat × Nat} (hc:w.heap[k]? = some (.cells c 27 f)):k = b:=by
 rcases hk with hk | hk | hk | hk | hk | ⟨s,hs,hk⟩
 ·exact hk
 ·subst hk; obtain ⟨_,_,_,h1,_⟩:=h.map; rw [h1] at hc; cases hc
 ·obtain ⟨_,h1⟩:=h.que.elem hk; exact (ne_of_elem h1 hc (by decide) rfl).elim
 ·obtain ⟨_,h1⟩:=h.acc.elem hk; exact (ne_of_elem h1 hc (by decide) rfl).elim
 ·obtain ⟨_,h1⟩:=h.nxt.elem hk; exact (ne_of_elem h1 hc (by decide) rfl).elim
 ·obtain ⟨_,h1⟩:=h.rowElem hs hk; exact (ne_of_elem h1 hc (by decide) rfl).elim
theorem Bfs.aut (h:Bfs B w b mb m qs sa sn qm q out.length os out):AutR B w sa sn (accF out.length) (out.map (·.map ofO)):=
 ⟨h.acc.rd,fun k hk=>h.ge k (.inr (.inr (.inr (.inl hk)))),fun k hk=>h.ge k (.inr (.inr (.inr (.inr (.inl hk))))),os,h.nxt.rd,by rw [h.len,List.length_map],fun i s r hi hr=>(by
  rw [List.getElem?_map] at hr
  cases ho:out[i]? with
  | none=>rw [ho] at hr; cases hr
  | some r'=>rw [ho] at hr; cases hr; exact (h.row i s r' hi ho).rd),fun s hs k hk=>h.ge k (.inr (.inr (.inr (.inr (.inr ⟨s,hs,hk⟩)))))⟩
end
theorem set_mid {α:Type} (f:Option Nat → α) (done:Row) (o o':Option Nat) (z:α) (n:Nat) :
  ((done.map f ++ List.replicate (n + 1) z).set done.length (f o) = (done ++ [o]).map f ++ List.replicate n z) ∧ (((done ++ [o]).map f ++ List.replicate n z).set done.length (f o') = (done ++ [o']).map f ++ List.replicate n z):=by
 constructor
 ·rw [List.set_append_right _ _ (by simp)]
  simp [List.replicate_succ]
 ·rw [List.map_append,List.append_assoc,List.set_append_right _ _ (by simp)]
  simp
theorem bfsRow_len:∀ (l:Row) (q:List Nat),(bfsRow l q).2.length = l.length
 | [],q=>rfl
 | none :: l,q=>by simp [bfsRow,bfsRow_len l q]
 | some t :: l,q=>by
  simp only [bfsRow]
  split
  ·simp [bfsRow_len l q]
  ·simp [bfsRow_len l (q ++ [t])]
end Go.Proofs.YtffdjfkekdoeaaaDoor.Fo
end
section
set_option maxRecDepth 4000
set_option maxHeartbeats 1600000
namespace Go.Proofs.YtffdjfkekdoeaaaDoor.Fo
open Fw Wd
theorem numbered_ret {w:World} {rs:Sl} {sls:List Sl} {rows:List (Option Row)} (h:Tab w rs sls rows) (hbig:rows.length ≤ Fo.big) {K m start:Nat} (hm:m ≤ 64) {res:Option (List Row)} (hf:numberedF K m rows start = some res) :
  Calls Tryd.prog 84 #[.int .i64 (m:Int),rs.v,.int .i64 (start:Int)] w (numPost w (tfoot rs sls) m res):=by
 refine fold_numbered.calls _ _ _ ?_
 unfold fold_numbered.sh
 have hrn:rs.n = rows.length:=by rw [h.own.len,h.len]
 have hbg:Fo.big = 4294967296:=rfl
 simp only [numberedF] at hf
 split at hf
 ·cases hf
 rename_i rowsP hprune
 refine New.mk fun b1 w1 hb1 hnew1 hsz1 hc1=>?_
 -- the leaves
 refine LoopT.mk (fun x w'=>∃ (i:Nat) (lv:Sl) (leaves:List Nat),i ≤ rows.length ∧ x = ((m:Int),rs,(start:Int),Addr.mk b1 0 none,lv,rs,((rs.n:Nat):Int),(i:Int),()) ∧ Chg Nil w w' ∧ OwnN w' lv leaves ∧ (∀ k,lv.own k → w.heap.size ≤ k) ∧ leaves.length ≤ i ∧
   leaves ++ leavesF start i (rows.drop i) = leavesF start 0 rows ∧ w'.heap[b1]? = some zeroAut) (fun x _=>rows.length - x.2.2.2.2.2.2.2.1.toNat)
  ⟨0,⟨none,0,0⟩,[],Nat.zero_le _,rfl,hc1,OwnT.nil _ _ _,(fun k hk=>by obtain ⟨a,ha,_⟩:=hk; cases ha),by simp,rfl,hnew1⟩ ?_
 rintro x g w2 ⟨i,lv,leaves,hi,rfl,hc2,hlv,hown,hll,hleq,hz⟩
 dsimp only
 have h2:Tab w2 rs sls rows:=h.nil hc2
 refine Br.dec (fun hlt=>?_) (fun hge=>?_)
 ·have hlt':i < rows.length:=by omega
  have hri:rows[i]? = some rows[i]:=List.getElem?_eq_getElem hlt'
  obtain ⟨s,hs⟩:=h2.slAt hri
  have hdrop:rows.drop i = rows[i] :: rows.drop (i + 1):=List.drop_eq_getElem_cons hlt'
  rw [hdrop,leavesF] at hleq
  refine h2.own.rd.get (t:=.sc .sl) i rfl hs ?_
  have hw:IntKind.wrap .i64 ((i:Int) + 1) = ((i + 1:Nat):Int):=by rw [wrap64 (by omega) (by omega)]; rfl
  have hmu:rows.length - (i + 1) < rows.length - i:=by omega
  refine Join.by' (fun x w'=>x = ((m:Int),rs,(start:Int),Addr.mk b1 0 none,lv,(i:Int),rs,((rs.n:Nat):Int),(i:Int),leafAt start i rows[i],()) ∧ w' = w2) ?_ ?_
  ·rintro x w3 g3 ⟨rfl,rfl⟩
   dsimp only
   rw [hw]
   refine Br.mk (fun hb=>?_) (fun hb=>?_)
   ·rw [if_pos hb] at hleq
    refine New.mk fun b w4 hb4 hnew hsz hc4=>?_
    have hlv4:OwnN w4 lv leaves:=hlv.chg hc4 fun _ _ h=>h
    refine OwnT.append (t:=tI) (m:=1) ok85 rfl (by decide) hlv4 [ofN i] rfl (by decide) (fun j v hv=>?_) ?_ ?_ fun lv' w5 ho5 hc5 hown5=>?_
    ·rw [cellOf hnew]; simpa [Ty.cells,ofN] using hv
    ·rw [List.length_map]; exact bound_mul (n:=_ + 1) (by omega) (by decide)
    ·rw [List.length_map]; simp only [maxLen]; omega
    have hsz4:w.heap.size ≤ w4.heap.size:=(hc2.then hc4).size
    refine ⟨⟨i + 1,lv',leaves ++ [i],hlt',rfl,(hc2.then hc4).trans hc5 (fun _ _ h=>h) fun j hj hk=>?_,?_,fun k hk=>?_,?_,?_,?_⟩,hmu⟩
    ·have:=hown j hk; omega
    ·unfold OwnN; rw [List.map_append]; exact ho5
    ·rcases hown5 k hk with hk | hk
     ·exact hown k hk
     ·omega
    ·simp; omega
    ·rw [List.append_assoc]; exact hleq
    ·exact hc5.heap (hc4.heap hz fun h=>h) fun hk=>by
      obtain ⟨_,c1⟩:=hlv4.elem hk; exact ne_of_elem c1 (hc4.heap hz fun h=>h) (by decide) rfl
   ·rw [if_neg (by rw [hb]; simp)] at hleq
    exact ⟨⟨i + 1,lv,leaves,hlt',rfl,hc2,hlv,hown,by omega,hleq,hz⟩,hmu⟩
  ·intro J hJ
   refine Br.mk (fun hb=>?_) (fun hb=>?_)
   ·have hne:i ≠ start:=fun he=>by subst he; simp at hb
    refine ⟨!s.a.isNone,w2,ne_nil w2 _ _ _ _,?_⟩
    cases hr:rows[i] with
    | none=>
     rw [hr] at hri
     have hsn:=h2.nul i s hs hri
     subst hsn
     refine Br.f rfl (hJ _ _ ⟨?_,rfl⟩)
     simp [leafAt,hr]
    | some r=>
     rw [hr] at hri
     obtain ⟨gb,n,c,hsl,hn⟩:=h2.blk hri
     rw [hs] at hsl; cases hsl
     obtain ⟨hro,hp,hle⟩:=h2.row i _ r hs hri
     refine Br.t rfl (Ret.call (degree_ret (s:=⟨some ⟨gb,0,none⟩,n,c⟩) hro.rd (by omega)) ?_)
     rintro _ _ ⟨rfl,rfl⟩
     refine hJ _ _ ⟨?_,rfl⟩
     have e1:(i != start) = true:=by rw [bne_iff_ne]; exact hne
     have e2:(((degF r:Nat):Int) == 1) = (degF r == 1):=by rw [Bool.eq_iff_iff]; simp; omega
     simp [leafAt,hr,e1,e2]
   ·have he:i = start:=by
     by_cases hc:i = start
     ·exact hc
     ·exact absurd (by simpa using hb) (fun h:(i:Int) = start=>hc (Int.ofNat.inj h))
    refine hJ _ _ ⟨?_,rfl⟩
    subst he
    cases hr:rows[i] <;> simp [leafAt]
 have hin:i = rows.length:=by omega
 rw [List.drop_eq_nil_of_le (by omega),leavesF,List.append_nil] at hleq
 rw [← hleq] at hprune
 -- the pruning
 have hc02:Chg (tfoot rs sls) w w2:=hc2.nil
 refine LoopT.fuel (fun k x w'=>∃ (lv:Sl) (leaves:List Nat) (rows1:List (Option Row)),x = ((m:Int),rs,(start:Int),Addr.mk b1 0 none,lv,()) ∧ Tab w' rs sls rows1 ∧ Chg (tfoot rs sls) w w' ∧ OwnN w' lv leaves ∧ (∀ k,lv.own k → w.heap.size ≤ k) ∧
   pruneF start k rows1 leaves = some rowsP ∧ rows1.length = rows.length ∧ w'.heap[b1]? = some zeroAut) K
  ⟨lv,leaves,rows,rfl,h2,hc02,hlv,hown,hprune,rfl,hz⟩ ?_
 clear hleq hown hlv hprune hll hc02 h2 hge hin hi hz
 rintro k x g3 w3 C ⟨lv,leaves,rows1,rfl,h3,hc3,hlv,hown,hprune,hlen1,hz⟩ hC
 dsimp only
 cases k with
 | zero=>simp [pruneF] at hprune
 | succ k=>
 have hln:lv.n = leaves.length:=by rw [hlv.len,List.length_map]
 have hlmax:leaves.length ≤ maxLen:=by
  rw [← hln]
  rcases hlv.block with ⟨_,hx⟩ | ⟨_,_,_,_,h5,h6,_⟩
  ·have:=hlv.len; rw [hx] at this; rw [this]; simp
  ·omega
 simp only [maxLen] at hlmax
 simp only [pruneF] at hprune
 split at hprune
 ·rename_i hnone
  cases hprune
  have:leaves = []:=by simpa using hnone
  refine Br.no (by rw [hln,this]; simp) ?_
  clear hC hlv hown hln hlmax this hnone
  -- the numbers
  refine New.mk fun b60 w61 hb60 hn60 hsz60 hc60=>?_
  refine StoreN.whole (vs:=[.int .i64 (m:Int),.int .i64 0,.slice none 0 0,.slice none 0 0]) hn60 rfl fun w62 hh62 hc62 _=>?_
  refine New.mk fun mb w64 hmb hn64 hsz64 hc64=>?_
  have hm64:MapQ w64 mb []:=⟨by simp,#[],0,hn64,rfl⟩
  obtain ⟨w65,hrun65,hm65,hc65⟩:=mapUpdate_new hm64 (t:=start) (by simp)
  refine ⟨w65,hrun65,?_⟩
  refine New.mk fun b66 w67 hb66 hn66 hsz66 hc66=>?_
  have hB3:w.heap.size ≤ w3.heap.size:=hc3.size
  have hb1lt:b1 < w3.heap.size:=lt_of_heap hz
  have hz61:w61.heap[b1]? = some zeroAut:=hc60.heap hz fun h=>h
  have hz62:w62.heap[b1]? = some zeroAut:=hc62.heap hz61 fun he=>by have he:b1 = b60:=he; omega
  have hz64:w64.heap[b1]? = some zeroAut:=hc64.heap hz62 fun h=>h
  have hz65:w65.heap[b1]? = some zeroAut:=hc65.heap hz64 (ne_map hz64 hn64)
  have hz67:w67.heap[b1]? = some zeroAut:=hc66.heap hz65 fun h=>h
  have hh64:=hc64.heap hh62 fun h=>h
  have hh65:=hc65.heap hh64 (ne_map hh64 hn64)
  have hh67:=hc66.heap hh65 fun h=>h
  have s61:=hc60.size
  have s62:=hc62.size
  have s64:=hc64.size
  have s65:=hc65.size
  have hbfs:Bfs w.heap.size w67 b60 mb m ⟨some ⟨b66,0,none⟩,1,1⟩ ⟨none,0,0⟩ ⟨none,0,0⟩ [start] [start] 0 [] []:=
   { head:=hh67,map:=hm65.chg hc66 fun h=>h
     que:=⟨⟨rfl,.inr ⟨b66,1,_,rfl,Nat.zero_le _,hn66,Nat.le_refl _,by simp [maxLen],rfl,rfl⟩⟩,rfl⟩
     acc:=OwnT.nil _ _ _,nxt:=OwnT.nil _ _ _,len:=rfl,row:=fun i s r hi=>by simp at hi,apart:=fun s hs=>by simp at hs
     ge:=by
      rintro k (rfl | rfl | ⟨a,ha,rfl⟩ | ⟨a,ha,_⟩ | ⟨a,ha,_⟩ | ⟨s,hs,_⟩)
      ·omega
      ·omega
      ·cases ha; dsimp only; omega
      ·cases ha
      ·cases ha
      ·simp at hs }
  have hF:∀ {S:Nat → Prop} {wa wb:World},Chg S wa wb → (∀ i,S i → w.heap.size ≤ i) → Chg (fun k=>tfoot rs sls k ∨ w.heap.size ≤ k) wa wb:=fun hc hs=>hc.mono fun i _ hi=>.inr (hs i hi)
  have hTab:∀ {S:Nat → Prop} {wa wb:World},Chg S wa wb → (∀ i,S i → w.heap.size ≤ i) → Tab wa rs sls rowsP → Tab wb rs sls rowsP:=fun hc hs ht=>ht.chg hc fun k hk hS=>by have:=h.lt k hk; have:=hs k hS; omega
  have hc67:Chg (fun k=>tfoot rs sls k ∨ w.heap.size ≤ k) w w67:=
   (((((hc3.mono fun _ _ h=>.inl h).then hc60.nil).then (hF hc62 fun i hi=>by have hi:i = b60:=hi; omega)).then hc64.nil).then (hF hc65 fun i hi=>by have hi:i = mb:=hi; omega)).then hc66.nil
  have ht67:Tab w67 rs sls rowsP:=(hTab hc65 (fun i hi=>by have hi:i = mb:=hi; omega) ((hTab hc62 (fun i hi=>by have hi:i = b60:=hi; omega) (h3.nil hc60)).nil hc64)).nil hc66
  have hb160:b1 ≠ b60:=by omega
  refine LoopT.fuel (fun k x w'=>∃ (i:Nat) (qs sa sn:Sl) (q:List Nat) (os:List Sl) (out:List Row),x = ((m:Int),rs,Addr.mk b1 0 none,Addr.mk b60 0 none,some mb,qs,(i:Int),()) ∧ Tab w' rs sls rowsP ∧ Chg (fun k=>tfoot rs sls k ∨ w.heap.size ≤ k) w w' ∧ w'.heap[b1]? = some zeroAut ∧
    Bfs w.heap.size w' b60 mb m qs sa sn q q out.length os out ∧ bfsF m rowsP k i q out = some res ∧ out.length = i ∧ q.length ≤ 2000) K
   ⟨0,_,_,_,[start],[],[],rfl,ht67,hc67,hz67,hbfs,hf,rfl,by simp⟩ ?_
  clear hbfs ht67 hc67 hz67 hz65 hz64 hz62 hz61 hh64 hh65 hh67 hm64 hm65 hf
  rintro k x g5 w5 C ⟨i,qs,sa,sn,q,os,out,rfl,ht5,hc5,hz5,hb5,hf,hout,hq2⟩ hC
  dsimp only
  have hqn:qs.n = q.length:=by rw [hb5.que.len,List.length_map]
  cases k with
  | zero=>simp [bfsF] at hf
  | succ k=>
  simp only [bfsF] at hf
  split at hf
  · -- done
   rename_i hnone
   cases hf
   have hiq:q.length ≤ i:=by simpa using hnone
   refine Br.no (by rw [hqn]; omega) ?_
   refine LoadT.mk (.agg [.int .i64,.int .i64,.sl,.sl]) (x:=((m:Int),(0:Int),sa,sn,())) (fun j v hv=>by rw [cellOf hb5.head]; simpa [Ty.cells] using hv) ?_
   refine StoreN.whole (vs:=[.int .i64 (m:Int),.int .i64 0,sa.v,sn.v]) hz5 rfl fun w6 hh6 hc6 _=>?_
   refine LoadT.mk (.agg [.int .i64,.int .i64,.sl,.sl]) (x:=((m:Int),(0:Int),sa,sn,())) (fun j v hv=>by rw [cellOf hh6]; simpa [Ty.cells] using hv) ?_
   have hb6:=hb5.chg hc6 fun k hk he=>by
    have he:k = b1:=he
    subst he
    exact hb160 (hb5.at27 hk hz5)
   refine ⟨?_,sa,sn,rfl,hb6.aut⟩
   refine hc5.trans hc6 (fun i hi hk=>hk.elim id fun h=>by omega) fun i hi he=>?_
   have he:i = b1:=he
   omega
  rename_i t ht
  have hiq:i < q.length:=(List.getElem?_eq_some_iff.1 ht).1
  refine Br.yes (by rw [hqn]; omega) ?_
  split at hf
  case h_2=>cases hf
  rename_i row hrow
  split at hf
  case isFalse=>cases hf
  rename_i hrm
  refine makeSlice_own (s:=.int .i64) ok85 (z:=(0:Int)) zero3 rfl m rfl (by omega) (by simp only [maxLen]; omega) fun g w6 ho6 hc6 hg=>?_
  have ht6:Tab w6 rs sls rowsP:=ht5.nil hc6
  have hb6:=hb5.nil hc6
  have hz6:w6.heap[b1]? = some zeroAut:=hc6.heap hz5 fun h=>h
  have hgB:w.heap.size ≤ g:=by have:=hc5.size; omega
  refine hb6.que.rd.get (t:=tI) i rfl (x:=ofN t) (by rw [List.getElem?_map,ht]; rfl) ?_
  obtain ⟨gt,nt,ct,hslt,hnt⟩:=ht6.blk hrow
  refine ht6.own.rd.get (t:=.sc .sl) t rfl hslt ?_
  have hgo:∀ s ∈ os,¬ s.own g:=fun s hs hk=>by have:=hb5.lt g (.inr (.inr (.inr (.inr (.inr ⟨s,hs,hk⟩))))); omega
  have hgq:¬ qs.own g:=fun hk=>by have:=hb5.lt g (.inr (.inr (.inl hk))); omega
  have hgb:g ≠ b60:=fun he=>by have:=hb5.lt b60 (.inl rfl); omega
  have hgm:g ≠ mb:=fun he=>by have:=hb5.lt mb (.inr (.inl rfl)); omega
  refine LoopT.mk (fun x w'=>∃ (y:Nat) (qs:Sl) (q':List Nat) (done:Row),y ≤ m ∧ x = ((m:Int),rs,Addr.mk b1 0 none,Addr.mk b60 0 none,some mb,qs,(i:Int),⟨some ⟨g,0,none⟩,m,m⟩,⟨some ⟨gt,0,none⟩,nt,ct⟩,((nt:Nat):Int),(y:Int),()) ∧ Tab w' rs sls rowsP ∧
    Chg (fun k=>tfoot rs sls k ∨ w.heap.size ≤ k) w w' ∧ w'.heap[b1]? = some zeroAut ∧ Bfs w.heap.size w' b60 mb m qs sa sn q' q' out.length os out ∧ OwnT w' 3 tI ⟨some ⟨g,0,none⟩,m,m⟩ (done.map ofO ++ List.replicate (m - y) 0) ∧ done.length = y ∧
    (bfsRow (row.drop y) q').1 = (bfsRow row q).1 ∧ done ++ (bfsRow (row.drop y) q').2 = (bfsRow row q).2 ∧ ¬ qs.own g ∧ q'.length ≤ q.length + y) (fun x _=>m - x.2.2.2.2.2.2.2.2.2.2.1.toNat)
   ⟨0,qs,q,[],Nat.zero_le _,rfl,ht6,hc5.then hc6.nil,hz6,hb6,by simpa using ho6,rfl,rfl,rfl,hgq,by simp⟩ ?_
  clear ho6 ht6 hb6 hz6 hgq hqn ht5 hc5 hz5 hb5
  rintro x g7 w7 ⟨y,qs,q',done,hy,rfl,ht7,hc7,hz7,hb7,ho7,hdone,hb1',hb2,hgq,hq'⟩
  dsimp only
  refine Br.dec (fun hlt=>?_) (fun hge=>?_)
  ·have hlt':y < m:=by omega
   have hyr:y < row.length:=by omega
   have hw:IntKind.wrap .i64 ((y:Int) + 1) = ((y + 1:Nat):Int):=by rw [wrap64 (by omega) (by omega)]; rfl
   have hmu:m - (y + 1) < m - y:=by omega
   have hdrop:row.drop y = row[y] :: row.drop (y + 1):=List.drop_eq_getElem_cons hyr
   rw [hdrop] at hb1' hb2
   have hro:=(ht7.row t _ row hslt hrow).1
   refine hro.rd.get (t:=tI) y rfl (x:=ofO row[y]) (by rw [List.getElem?_map,List.getElem?_eq_getElem hyr]; rfl) ?_
   refine ho7.idx (t:=tI) y rfl (by simp; omega) fun g' hg'=>?_
   cases hg'
   refine ho7.store (s:=.int .i64) rfl y (by simp; omega) (x:=(-1:Int)) fun w8 ho8 hc8 _=>?_
   have hsm:=(set_mid ofO done none none (0:Int) (m - (y + 1))).1
   rw [hdone] at hsm
   rw [show m - y = (m - (y + 1)) + 1 by omega] at ho8
   have ho8:OwnT w8 3 tI ⟨some ⟨g,0,none⟩,m,m⟩ ((done.map ofO ++ List.replicate ((m - (y + 1)) + 1) 0).set y (ofO none)):=ho8
   rw [hsm] at ho8
   have hS8:∀ i,(· = g) i → w.heap.size ≤ i:=fun i hi=>by have hi:i = g:=hi; omega
   have ht8:=hTab hc8 hS8 ht7
   have hb8:=hb7.chg hc8 fun k hk he=>by
    have he:k = g:=he
    subst he
    rcases hk with hk | hk | hk | hk | hk | ⟨s,hs,hk⟩
    ·exact hgb hk
    ·exact hgm hk
    ·exact hgq hk
    ·obtain ⟨_,h1⟩:=hb7.acc.elem hk; obtain ⟨_,h2⟩:=ho7.elem ⟨_,rfl,rfl⟩; exact ne_of_elem h1 h2 (by decide) rfl
    ·obtain ⟨_,h1⟩:=hb7.nxt.elem hk; obtain ⟨_,h2⟩:=ho7.elem ⟨_,rfl,rfl⟩; exact ne_of_elem h1 h2 (by decide) rfl
    ·exact hgo s hs hk
   have hz8:w8.heap[b1]? = some zeroAut:=hc8.heap hz7 fun he=>by
    obtain ⟨_,h2⟩:=ho7.elem ⟨_,rfl,rfl⟩; exact ne_of_elem hz7 h2 (by decide) he
   have hc08:=hc7.then (hF hc8 hS8)
   rw [hw]
   cases ho:row[y] with
   | none=>
    rw [ho] at hb1' hb2
    simp only [bfsRow] at hb1' hb2
    refine Br.yes (by decide) ⟨⟨y + 1,qs,q',done ++ [none],hlt',rfl,ht8,hc08,hz8,hb8,ho8,by simp [hdone],hb1',by rw [List.append_assoc]; exact hb2,hgq,by omega⟩,hmu⟩
   | some t'=>
    rw [ho] at hb1' hb2
    simp only [bfsRow] at hb1' hb2
    refine Br.no (by show ¬ ((t':Int) < 0); omega) ?_
    have hfin:∀ (wa w9:World) (qs':Sl) (q'':List Nat) (n:Nat),Chg (· = g) wa w9 → Tab wa rs sls rowsP → Chg (fun k=>tfoot rs sls k ∨ w.heap.size ≤ k) w wa → wa.heap[b1]? = some zeroAut → Bfs w.heap.size wa b60 mb m qs' sa sn q'' q'' out.length os out →
      OwnT wa 3 tI ⟨some ⟨g,0,none⟩,m,m⟩ ((done ++ [none]).map ofO ++ List.replicate (m - (y + 1)) 0) → ¬ qs'.own g → OwnT w9 3 tI ⟨some ⟨g,0,none⟩,m,m⟩ (((done ++ [none]).map ofO ++ List.replicate (m - (y + 1)) 0).set y (ofO (some n))) →
      Tab w9 rs sls rowsP ∧ Chg (fun k=>tfoot rs sls k ∨ w.heap.size ≤ k) w w9 ∧ w9.heap[b1]? = some zeroAut ∧ Bfs w.heap.size w9 b60 mb m qs' sa sn q'' q'' out.length os out ∧ OwnT w9 3 tI ⟨some ⟨g,0,none⟩,m,m⟩ ((done ++ [some n]).map ofO ++ List.replicate (m - (y + 1)) 0):=by
     intro wa w9 qs' q'' n hc hta hca hza hba hoa hgq' ho9
     refine ⟨hTab hc hS8 hta,hca.then (hF hc hS8),hc.heap hza fun he=>?_,hba.chg hc fun k hk he=>?_,?_⟩
     ·obtain ⟨_,h2⟩:=hoa.elem ⟨_,rfl,rfl⟩; exact ne_of_elem hza h2 (by decide) he
     ·have he:k = g:=he
      subst he
      rcases hk with hk | hk | hk | hk | hk | ⟨s,hs,hk⟩
      ·exact hgb hk
      ·exact hgm hk
      ·exact hgq' hk
      ·obtain ⟨_,h1⟩:=hba.acc.elem hk; obtain ⟨_,h2⟩:=hoa.elem ⟨_,rfl,rfl⟩; exact ne_of_elem h1 h2 (by decide) rfl
      ·obtain ⟨_,h1⟩:=hba.nxt.elem hk; obtain ⟨_,h2⟩:=hoa.elem ⟨_,rfl,rfl⟩; exact ne_of_elem h1 h2 (by decide) rfl
      ·exact hgo s hs hk
     ·have hsm:=(set_mid ofO done none (some n) (0:Int) (m - (y + 1))).2
      rw [hdone] at hsm
      rw [hsm] at ho9; exact ho9
    by_cases hin:t' ∈ q'
    ·rw [if_pos hin] at hb1' hb2
     refine ⟨(((q'.idxOf t':Nat):Int),true,()),w8,lookup_in hb8.map hin,?_⟩
     refine Join.mk ?_
     refine Br.f rfl fun g9=>?_
     dsimp only
     refine ho8.idx (t:=tI) y rfl (by simp; omega) fun g' hg'=>?_
     cases hg'
     refine ho8.store (s:=.int .i64) rfl y (by simp; omega) (x:=((q'.idxOf t':Nat):Int)) fun w9 ho9 hc9 _=>?_
     obtain ⟨f1,f2,f3,f4,f5⟩:=hfin w8 w9 qs q' (q'.idxOf t') hc9 ht8 hc08 hz8 hb8 ho8 hgq ho9
     rw [hw]
     exact ⟨⟨y + 1,qs,q',done ++ [some (q'.idxOf t')],hlt',rfl,f1,f2,f3,f4,f5,by simp [hdone],hb1',by rw [List.append_assoc]; exact hb2,hgq,by omega⟩,hmu⟩
    ·rw [if_neg hin] at hb1' hb2
     refine ⟨((0:Int),false,()),w8,lookup_out hb8.map hin,?_⟩
     refine Join.mk ?_
     refine Br.t rfl ?_
     have hqn:qs.n = q'.length:=by rw [hb8.que.len,List.length_map]
     obtain ⟨w9,hrun9,hm9,hc9⟩:=mapUpdate_new hb8.map hin
     refine ⟨w9,by rw [hqn]; exact hrun9,?_⟩
     have hmB:w.heap.size ≤ mb:=hb8.ge mb (.inr (.inl rfl))
     have hS9:∀ i,(· = mb) i → w.heap.size ≤ i:=fun i hi=>by have hi:i = mb:=hi; omega
     have hb9:=hb8.setMap hc9 hm9
     obtain ⟨_,es8,cl8,hmap8,_⟩:=hb8.map
     have hz9:w9.heap[b1]? = some zeroAut:=hc9.heap hz8 (ne_map hz8 hmap8)
     have ho9:=ho8.chg hc9 fun a ha he=>by cases ha; exact hgm he
     refine New.mk fun bq w10 hbq hn10 hsz10 hc10=>?_
     have hb10:=hb9.nil hc10
     have hBw:w.heap.size ≤ w10.heap.size:=((hc08.then (hF hc9 hS9)).then hc10.nil).size
     refine OwnT.append (t:=tI) (m:=1) ok85 rfl (by decide) hb10.que [ofN t'] rfl (by decide) (fun j v hv=>?_) ?_ ?_ fun qs' w11 ho11 hc11 hown11=>?_
     ·rw [cellOf hn10]; simpa [Ty.cells,ofN,ofO] using hv
     ·rw [List.length_map]; exact bound_mul (n:=_ + 1) (by omega) (by decide)
     ·rw [List.length_map]; simp only [maxLen]; omega
     intro g9
     dsimp only
     have hqB:∀ i,qs.own i → w.heap.size ≤ i:=fun i hi=>hb8.ge i (.inr (.inr (.inl hi)))
     have hb11:=hb10.setQue hBw hc11 (q':=q' ++ [t']) (by unfold OwnN; rw [List.map_append]; exact ho11) hown11
     have ho11:=(ho9.chg hc10 fun _ _ h=>h).chg hc11 fun a ha hk=>by cases ha; exact hgq hk
     have hz11:w11.heap[b1]? = some zeroAut:=hc11.heap (hc10.heap hz9 fun h=>h) fun hk=>by
      obtain ⟨_,h1⟩:=hb10.que.elem hk; exact ne_of_elem h1 (hc10.heap hz9 fun h=>h) (by decide) rfl
     have hc011:=((hc08.then (hF hc9 hS9)).then hc10.nil).then (hF hc11 hqB)
     have ht11:=hTab hc11 hqB ((hTab hc9 hS9 ht8).nil hc10)
     have hg8:g < w8.heap.size:=by obtain ⟨_,h2⟩:=ho8.elem ⟨_,rfl,rfl⟩; exact lt_of_heap h2
     have hgq':¬ qs'.own g:=fun hk=>by
      rcases hown11 g hk with h1 | h1
      ·exact hgq h1
      ·have:=hc9.size; have:=hc10.size; omega
     rw [hqn]
     refine ho11.idx (t:=tI) y rfl (by simp; omega) fun g' hg'=>?_
     cases hg'
     refine ho11.store (s:=.int .i64) rfl y (by simp; omega) (x:=((q'.length:Nat):Int)) fun w12 ho12 hc12 _=>?_
     obtain ⟨f1,f2,f3,f4,f5⟩:=hfin w11 w12 qs' (q' ++ [t']) q'.length hc12 ht11 hc011 hz11 hb11 ho11 hgq' ho12
     rw [hw]
     exact ⟨⟨y + 1,qs',q' ++ [t'],done ++ [some q'.length],hlt',rfl,f1,f2,f3,f4,f5,by simp [hdone],hb1',by rw [List.append_assoc]; exact hb2,hgq',by simp; omega⟩,hmu⟩
  ·have hym:y = m:=by omega
   subst hym
   rw [Nat.sub_self,List.replicate_zero,List.append_nil] at ho7
   rw [List.drop_eq_nil_of_le (by omega)] at hb1' hb2
   simp only [bfsRow] at hb1' hb2
   rw [List.append_nil] at hb2
   subst hb1'
   subst hb2
   have hqn:qs.n = (bfsRow row q).1.length:=by rw [hb7.que.len,List.length_map]
   refine LoadT.sc (s:=.sl) (x:=sa) (by rw [cellOf hb7.head]; rfl) ?_
   refine New.mk fun ba w8 hba hn8 hsz8 hc8=>?_
   have hb8:=hb7.nil hc8
   have hB8:w.heap.size ≤ w8.heap.size:=(hc7.then hc8.nil).size
   have hol:out.length ≤ 2000:=by omega
   have hal:∀ n,(accF n).length = n:=fun n=>by simp [accF]
   refine OwnT.append (t:=.sc .bool) (m:=1) ok24 rfl (by decide) hb8.acc [out.length == 0] rfl (by decide) (fun j v hv=>?_) ?_ ?_ fun sa' w9 ho9 hc9 hown9=>?_
   ·rw [cellOf hn8]
    have:((i:Int) == 0) = (out.length == 0):=by rw [hout,Bool.eq_iff_iff]; simp
    rw [this]; simpa [Ty.cells] using hv
   ·rw [hal]; omega
   ·rw [hal]; simp only [maxLen]; omega
   have hh9:w9.heap[b60]? = _:=hc9.heap hb8.head fun hk=>by obtain ⟨_,h1⟩:=hb8.acc.elem hk; exact ne_of_elem h1 hb8.head (by decide) rfl
   refine Store1.at hh9 2 (by rw [head_sz]; decide) rfl fun w10 hh10 hc10 _=>?_
   have hb10:=hb8.setAcc (na':=out.length + 1) hB8 hc9 (by rw [accF_succ]; exact ho9) hown9 hc10 hh10
   have hsB:∀ i,sa.own i → w.heap.size ≤ i:=fun i hi=>hb8.ge i (.inr (.inr (.inr (.inl hi))))
   have hbB:∀ i,(· = b60) i → w.heap.size ≤ i:=fun i hi=>by have hi:i = b60:=hi; have:=hb8.ge b60 (.inl rfl); omega
   have hg7:∃ cur,w7.heap[g]? = some (.cells cur 3 (0,0)):=ho7.elem ⟨_,rfl,rfl⟩
   have ho10:OwnT w10 3 tI ⟨some ⟨g,0,none⟩,y,y⟩ ((bfsRow row q).2.map ofO):=((ho7.chg hc8 fun _ _ h=>h).chg hc9 fun a ha hk=>by
    cases ha
    obtain ⟨_,h1⟩:=hb8.acc.elem hk; obtain ⟨_,h2⟩:=(ho7.chg hc8 fun _ _ h=>h).elem ⟨_,rfl,rfl⟩; exact ne_of_elem h1 h2 (by decide) rfl).chg hc10 fun a ha he=>by cases ha; exact hgb he
   have hz8:=hc8.heap hz7 fun h=>h
   have hz9:w9.heap[b1]? = some zeroAut:=hc9.heap hz8 fun hk=>by obtain ⟨_,h1⟩:=hb8.acc.elem hk; exact ne_of_elem h1 hz8 (by decide) rfl
   have hz10:w10.heap[b1]? = some zeroAut:=hc10.heap hz9 fun he=>hb160 he
   have hc010:=((hc7.then hc8.nil).then (hF hc9 hsB)).then (hF hc10 hbB)
   have ht10:=hTab hc10 hbB (hTab hc9 hsB (ht7.nil hc8))
   refine LoadT.sc (s:=.sl) (x:=sn) (by rw [cellOf hb10.head]; rfl) ?_
   refine New.mk fun bn w11 hbn hn11 hsz11 hc11=>?_
   have hb11:=hb10.nil hc11
   have hB11:w.heap.size ≤ w11.heap.size:=(hc010.then hc11.nil).size
   refine OwnT.append (t:=.sc .sl) (m:=1) ok25 rfl (by decide) hb11.nxt [⟨some ⟨g,0,none⟩,y,y⟩] rfl (by decide) (fun j v hv=>?_) ?_ ?_ fun sn' w12 ho12 hc12 hown12=>?_
   ·rw [cellOf hn11]; simpa [Ty.cells] using hv
   ·rw [hb11.len]; omega
   ·rw [hb11.len]; simp only [maxLen]; omega
   have hh12:w12.heap[b60]? = _:=hc12.heap hb11.head fun hk=>by obtain ⟨_,h1⟩:=hb11.nxt.elem hk; exact ne_of_elem h1 hb11.head (by decide) rfl
   refine Store1.at hh12 3 (by rw [head_sz]; decide) rfl fun w13 hh13 hc13 _=>?_
   have hown1:∀ k,(⟨some ⟨g,0,none⟩,y,y⟩:Sl).own k → k = g:=fun k hk=>by obtain ⟨a,ha,rfl⟩:=hk; cases ha; rfl
   have hb13:=hb11.addRow (rw:=⟨some ⟨g,0,none⟩,y,y⟩) (r:=(bfsRow row q).2) hB11 (ho10.chg hc11 fun _ _ h=>h) (fun k hk=>by rw [hown1 k hk]; exact hgB) (fun k hk=>by rw [hown1 k hk]; exact hgq) hc12 ho12 hown12 hc13 hh13
   have hnB:∀ i,sn.own i → w.heap.size ≤ i:=fun i hi=>hb11.ge i (.inr (.inr (.inr (.inr (.inl hi)))))
   have hz11:=hc11.heap hz10 fun h=>h
   have hz12:w12.heap[b1]? = some zeroAut:=hc12.heap hz11 fun hk=>by obtain ⟨_,h1⟩:=hb11.nxt.elem hk; exact ne_of_elem h1 hz11 (by decide) rfl
   have hz13:w13.heap[b1]? = some zeroAut:=hc13.heap hz12 fun he=>hb160 he
   have hc013:=((hc010.then hc11.nil).then (hF hc12 hnB)).then (hF hc13 hbB)
   have ht13:=hTab hc13 hbB (hTab hc12 hnB (ht10.nil hc11))
   rw [hqn]
   refine Br.dec (fun hbig=>?_) (fun hsm=>?_)
   ·rw [if_pos (by omega)] at hf
    cases hf
    exact ⟨hc013.mono fun i hi hk=>hk.elim id fun h=>by omega,rfl⟩
   ·rw [if_neg (by omega)] at hf
    have hwi:IntKind.wrap .i64 ((i:Int) + 1) = ((i + 1:Nat):Int):=by rw [wrap64 (by omega) (by omega)]; rfl
    rw [hwi]
    refine hC _ _ k (by omega) ⟨i + 1,qs,sa',sn',(bfsRow row q).1,os ++ [⟨some ⟨g,0,none⟩,y,y⟩],out ++ [(bfsRow row q).2],rfl,ht13,hc013,hz13,?_,hf,by simp [hout],by omega⟩
    rw [List.length_append]; exact hb13
 rename_i s hlast
 have hpos:0 < leaves.length:=by
  cases leaves with
  | nil=>simp at hlast
  | cons _ _=>simp
 refine Br.yes (by rw [hln]; omega) ?_
 have hsat:leaves[leaves.length - 1]? = some s:=by rw [← List.getLast?_eq_getElem?]; exact hlast
 have hwr:IntKind.wrap .i64 (((lv.n:Nat):Int) - 1) = ((leaves.length - 1:Nat):Int):=by
  rw [hln,wrap64 (by omega) (by omega)]; omega
 rw [hwr]
 refine hlv.rd.get (t:=tI) _ rfl (x:=ofN s) (by rw [List.getElem?_map,hsat]; rfl) ?_
 refine OwnT.upto (t:=tI) ok85 hlv _ rfl (by rw [List.length_map]; omega) fun lv' hlv' hown' _=>?_
 have htk:(leaves.map ofN).take (leaves.length - 1) = leaves.dropLast.map ofN:=by rw [List.dropLast_eq_take,List.map_take]
 rw [htk] at hlv'
 split at hprune
 case h_2=>cases hprune
 rename_i row hrow
 obtain ⟨gs,ns,cs,hsl,hns⟩:=h3.blk hrow
 obtain ⟨_,hrp,hr64⟩:=h3.row s _ row hsl hrow
 refine h3.own.rd.get (t:=.sc .sl) s rfl hsl ?_
 split at hprune
 ·cases hprune
 rename_i rows2 leaves2 hpr
 have hns':ns = row.length:=hns
 refine LoopT.mk (fun x w'=>∃ (y:Nat) (lv:Sl) (leaves:List Nat) (rows1:List (Option Row)),y ≤ row.length ∧ x = ((m:Int),rs,(start:Int),Addr.mk b1 0 none,lv,(s:Int),⟨some ⟨gs,0,none⟩,ns,cs⟩,((ns:Nat):Int),(y:Int),()) ∧ Tab w' rs sls rows1 ∧ Chg (tfoot rs sls) w w' ∧ OwnN w' lv leaves ∧ (∀ k,lv.own k → w.heap.size ≤ k) ∧
   pruneRow start s (row.length - y) rows1 leaves y = some (rows2,leaves2) ∧ rows1.length = rows.length ∧ w'.heap[b1]? = some zeroAut) (fun x _=>row.length - x.2.2.2.2.2.2.2.2.1.toNat)
  ⟨0,lv',leaves.dropLast,rows1,Nat.zero_le _,rfl,h3,hc3,hlv',fun k hk=>hown k (hown' k hk),hpr,hlen1,hz⟩ ?_
 clear hpr hlv' hown' hlv hown hlast hpos hsat hwr htk hrow hln hlmax h3 hc3 hz
 rintro x g4 w4 ⟨y,lv,leaves,rows3,hy,rfl,h4,hc4,hlv,hown,hpr,hlen3,hz⟩
 dsimp only
 refine Br.dec (fun hlt=>?_) (fun hge=>?_)
 ·have hlt':y < row.length:=by omega
  rw [show row.length - y = (row.length - (y + 1)) + 1 by omega] at hpr
  simp only [pruneRow] at hpr
  have hw:IntKind.wrap .i64 ((y:Int) + 1) = ((y + 1:Nat):Int):=by rw [wrap64 (by omega) (by omega)]; rfl
  have hmu:row.length - (y + 1) < row.length - y:=by omega
  split at hpr
  case h_2=>cases hpr
  rename_i row3 hrow3
  obtain ⟨hro,_,hr364⟩:=h4.row s _ row3 hsl hrow3
  split at hpr
  ·cases hpr
  ·rename_i hx
   refine hro.rd.get (t:=tI) y rfl (x:=(-1:Int)) (by rw [List.getElem?_map,hx]; rfl) (Br.no (by decide) ?_)
   rw [hw]
   exact ⟨⟨y + 1,lv,leaves,rows3,hlt',rfl,h4,hc4,hlv,hown,hpr,hlen3,hz⟩,hmu⟩
  ·rename_i t hx
   have hyl:y < row3.length:=(List.getElem?_eq_some_iff.1 hx).1
   refine hro.rd.get (t:=tI) y rfl (x:=(t:Int)) (by rw [List.getElem?_map,hx]; rfl) (Br.yes (Int.natCast_nonneg t) ?_)
   split at hpr
   case h_2=>cases hpr
   rename_i rt hrt
   split at hpr
   case isFalse=>cases hpr
   rename_i hxb
   have hslen:s < rows3.length:=(List.getElem?_eq_some_iff.1 hrow3).1
   have htlen:t < rows3.length:=by have:=(List.getElem?_eq_some_iff.1 hrt).1; rwa [List.length_set] at this
   obtain ⟨st,hst'⟩:∃ st,sls[t]? = some st:=⟨_,List.getElem?_eq_getElem (by rw [h4.len]; exact htlen)⟩
   refine ⟨fun w'=>RdT w' (.sc .sl) rs sls,h4.own.rd.chg (Chg.drew (S:=Nil) w4) (fun _ _ h=>h),?_⟩
   refine h4.own.idx (t:=.sc .sl) s rfl (by rw [h4.len]; exact hslen) fun gr hgr=>?_
   refine LoadS.sc (s:=.sl) (x:=⟨some ⟨gs,0,none⟩,ns,cs⟩) (fun w' hw=>hw.cell1 hgr hsl) ?_
   refine h4.own.idx (t:=.sc .sl) t rfl (by rw [h4.len]; exact htlen) fun gr' hgr'=>?_
   refine LoadS.sc (s:=.sl) (x:=st) (fun w' hw=>hw.cell1 hgr' hst') ?_
   have h4d:Tab w4.drew rs sls rows3:=h4.nil (Chg.drew w4)
   obtain ⟨hrod,_,_⟩:=h4d.row s _ row3 hsl hrow3
   refine hrod.idx (t:=tI) y rfl (by rw [List.length_map]; exact hyl) fun g' hg'=>?_
   cases hg'
   refine hrod.store (s:=.int .i64) rfl y (by rw [List.length_map]; exact hyl) (x:=(-1:Int)) fun w5 ho5 hc5 _=>?_
   have h5:Tab w5 rs sls (rows3.set s (some (row3.set y none))):=h4d.setRow hrow3 hsl hc5 (by rw [List.map_set]; exact ho5) (by simp)
   refine ⟨h5.own.rd,?_⟩
   rw [xor1 y (by omega)]
   obtain ⟨gt,nt,ct,hslt,hnt⟩:=h5.blk hrt
   rw [hst'] at hslt; cases hslt
   obtain ⟨hrot,hrtp,hrt64⟩:=h5.row t _ rt hst' hrt
   refine hrot.idx (t:=tI) (y ^^^ 1) rfl (by rw [List.length_map]; exact hxb.1) fun g' hg'=>?_
   cases hg'
   refine hrot.store (s:=.int .i64) rfl (y ^^^ 1) (by rw [List.length_map]; exact hxb.1) (x:=(-1:Int)) fun w6 ho6 hc6 _=>?_
   have h6:Tab w6 rs sls ((rows3.set s (some (row3.set y none))).set t (some (rt.set (y ^^^ 1) none))):=h5.setRow hrt hst' hc6 (by rw [List.map_set]; exact ho6) (by simp)
   have hfs:tfoot rs sls gs:=.inr ⟨_,List.mem_of_getElem? hsl,⟨gs,0,none⟩,rfl,rfl⟩
   have hft:tfoot rs sls gt:=.inr ⟨_,List.mem_of_getElem? hst',⟨gt,0,none⟩,rfl,rfl⟩
   have hc46:Chg (tfoot rs sls) w4 w6:=((Chg.drew w4).then (hc5.mono fun i _ hi=>by rw [show i = gs from hi]; exact hfs)).then (hc6.mono fun i _ hi=>by rw [show i = gt from hi]; exact hft)
   have hc06:Chg (tfoot rs sls) w w6:=hc4.then hc46
   have hz6:w6.heap[b1]? = some zeroAut:=hc46.heap hz fun hk=>by have:=h.lt _ hk; omega
   have hlv6:OwnN w6 lv leaves:=hlv.chg hc46 fun a ha hk=>by
    have h1:=hown _ ⟨a,ha,rfl⟩
    have h2:=h.lt _ hk
    omega
   have hrt':((rows3.set s (some (row3.set y none))).set t (some (rt.set (y ^^^ 1) none)))[t]? = some (some (rt.set (y ^^^ 1) none)):=List.getElem?_set_self (by rw [List.length_set]; exact htlen)
   refine Join.by' (fun x w'=>x = ((m:Int),rs,(start:Int),Addr.mk b1 0 none,lv,(s:Int),(t:Int),⟨some ⟨gs,0,none⟩,ns,cs⟩,((ns:Nat):Int),(y:Int),(t != start && degF (rt.set (y ^^^ 1) none) == 1),()) ∧ w' = w6) ?_ ?_
   ·rintro x w7 g7 ⟨rfl,rfl⟩
    dsimp only
    rw [hw]
    refine Br.mk (fun hb=>?_) (fun hb=>?_)
    ·rw [if_pos hb] at hpr
     refine New.mk fun b w8 hb8 hnew hsz hc8=>?_
     have hlv8:OwnN w8 lv leaves:=hlv6.chg hc8 fun _ _ h=>h
     refine OwnT.append (t:=tI) (m:=1) ok85 rfl (by decide) hlv8 [ofN t] rfl (by decide) (fun j v hv=>?_) ?_ ?_ fun lv' w9 ho9 hc9 hown9=>?_
     ·rw [cellOf hnew]; simpa [Ty.cells,ofN] using hv
     ·rw [List.length_map]; exact bound_mul (n:=_ + 1) (by omega) (by decide)
     ·rw [List.length_map]; simp only [maxLen]; omega
     have hsz8:w.heap.size ≤ w8.heap.size:=(hc06.then hc8.nil).size
     refine ⟨⟨y + 1,lv',leaves ++ [t],_,hlt',rfl,?_,?_,?_,?_,hpr,(by rw [List.length_set,List.length_set]; exact hlen3),?_⟩,hmu⟩
     ·exact (h6.nil hc8).chg hc9 fun k hk hl=>by have:=hown k hl; have:=h.lt k hk; omega
     ·exact (hc06.then hc8.nil).trans hc9 (fun _ _ h=>h) fun i hi hk=>by have:=hown i hk; omega
     ·unfold OwnN; rw [List.map_append]; exact ho9
     ·intro k hk
      rcases hown9 k hk with hk | hk
      ·exact hown k hk
      ·omega
     ·exact hc9.heap (hc8.heap hz6 fun h=>h) fun hk=>by
       obtain ⟨_,c1⟩:=hlv8.elem hk; exact ne_of_elem c1 (hc8.heap hz6 fun h=>h) (by decide) rfl
    ·rw [if_neg (by rw [hb]; simp)] at hpr
     exact ⟨⟨y + 1,lv,leaves,_,hlt',rfl,h6,hc06,hlv6,hown,hpr,(by rw [List.length_set,List.length_set]; exact hlen3),hz6⟩,hmu⟩
   ·intro J hJ
    refine Br.mk (fun hb=>?_) (fun hb=>?_)
    ·have hne:t ≠ start:=fun he=>by subst he; simp at hb
     refine h6.own.rd.get (t:=.sc .sl) t rfl hst' ?_
     obtain ⟨hr6,_,_⟩:=h6.row t _ _ hst' hrt'
     refine Ret.call (degree_ret (s:=⟨some ⟨gt,0,none⟩,nt,ct⟩) hr6.rd (by simp; omega)) ?_
     rintro _ _ ⟨rfl,rfl⟩
     refine hJ _ _ ⟨?_,rfl⟩
     have e1:(t != start) = true:=by rw [bne_iff_ne]; exact hne
     have e2:(((degF (rt.set (y ^^^ 1) none):Nat):Int) == 1) = (degF (rt.set (y ^^^ 1) none) == 1):=by rw [Bool.eq_iff_iff]; simp; omega
     rw [e1,e2,Bool.true_and]
    ·have he:t = start:=by
      by_cases hc:t = start
      ·exact hc
      ·exact absurd (by simpa using hb) (fun h:(t:Int) = start=>hc (Int.ofNat.inj h))
     refine hJ _ _ ⟨?_,rfl⟩
     subst he
     simp
 ·have hyr:y = row.length:=by omega
  rw [hyr,Nat.sub_self] at hpr
  simp only [pruneRow,Option.some.injEq,Prod.mk.injEq] at hpr
  obtain ⟨rfl,rfl⟩:=hpr
  exact hC _ _ k (by omega) ⟨lv,leaves,rows3,rfl,h4,hc4,hlv,hown,hprune,hlen3,hz⟩
end Go.Proofs.YtffdjfkekdoeaaaDoor.Fo
end
section
set_option maxRecDepth 4000
set_option maxHeartbeats 1000000
namespace Go.Proofs.YtffdjfkekdoeaaaDoor.Fo
open Fw Wd
def ops81 : Array Oper := #[Oper.mk (some 5) (.call ⟨.builtin .recover, #[], #[]⟩) 20 "fold.go:123" #[] none, Oper.mk (some 2) (.assign (.tmp 5)) 20 "fold.go:123" #[⟨0, .data⟩, ⟨0, .chain⟩, ⟨0, .phase⟩] none]
theorem body81:Tryd.f81.body = some (.seq (.region 0 ops81 false) fold_folding_made_c1.body):=by kernel_rfl
def act81 (q0 q1:Addr):Act:={ tmps:=#[.pointer (some q0),.pointer (some q1)] ++ Array.replicate 15 undef,defers:=[] }
theorem wanted_plain {o:Oper} (h:o.guard = none) (f:Nat → Option Bool):Region.wanted o f = true:=by simp [Region.wanted,h]
theorem wpS_recover {P:Program} {c:Code} {Q:Exit → Act → List Frame → World → Prop} {a:Act} {cs cs2:List Frame} {w:World} {rv:Value} (hsz:5 < a.tmps.size) (hr:match recoverD cs with
   | some (v,cs')=>v = rv ∧ cs' = cs2
   | none=>rv = .nilIface ∧ cs = cs2) (h:c.wpS P Q ((a.put (some 5) rv).put (some 2) rv) cs2 w):(Code.seq (.region 0 ops81 false) c).wpS P Q a cs w:=by
 refine wpS_seq (wpS_region ?_)
 show wpOpsS _ ops81 _ [0,1] _ _ _
 unfold wpOpsS
 have o0 : ops81[0]? = some (Oper.mk (some 5) (.call ⟨.builtin .recover, #[], #[]⟩) 20 "fold.go:123" #[] none) := rfl
 have o1 : ops81[1]? = some (Oper.mk (some 2) (.assign (.tmp 5)) 20 "fold.go:123" #[⟨0, .data⟩, ⟨0, .chain⟩, ⟨0, .phase⟩] none) := rfl
 have e0 : ∀ (a : Act), (execOp a.eval (Oper.mk (some 5) (.call ⟨.builtin .recover, #[], #[]⟩) 20 "fold.go:123" #[] none)).run P w = .ok .recover w := fun a => rfl
 have last:∀ (v:Value) (cs':List Frame),v = rv → cs' = cs2 → wpOpsS P ops81 (Exit.thenS (c.wpS P Q) Q) [1] (a.put (some 5) v) cs' w:=by
  intro v cs' hv hcs
  subst hv
  subst hcs
  unfold wpOpsS
  rw [o1]
  have hput:(a.put (some 5) v).eval (.tmp 5) = v:=by simp [Act.put,Act.eval,hsz]
  have e1 : (execOp (a.put (some 5) v).eval (Oper.mk (some 2) (.assign (.tmp 5)) 20 "fold.go:123" #[⟨0, .data⟩, ⟨0, .chain⟩, ⟨0, .phase⟩] none)).run P w = .ok (.value v) w := by
   have : execOp (a.put (some 5) v).eval (Oper.mk (some 2) (.assign (.tmp 5)) 20 "fold.go:123" #[⟨0, .data⟩, ⟨0, .chain⟩, ⟨0, .phase⟩] none) = pure (.value ((a.put (some 5) v).eval (.tmp 5))) := rfl
   rw [this,hput]; rfl
  dsimp only
  rw [if_pos (wanted_plain rfl _),e1]
  dsimp only
  unfold wpOpsS
  exact h
 rw [o0]
 dsimp only
 rw [if_pos (wanted_plain rfl _),e0]
 dsimp only
 split at hr
 ·rename_i v cs' hrd
  rw [hrd]
  exact last v cs' hr.1 hr.2
 ·rename_i hrd
  rw [hrd]
  exact last _ _ hr.1.symm hr.2
theorem act81_size (q0 q1:Addr):(act81 q0 q1).tmps.size = 17:=by simp [act81]
theorem ntmps81:Tryd.f81.ntmps = 17:=by kernel_rfl
theorem made1_D {q0 q1:Addr} {u u2:FrameMode} {rv:Value} {w:World} {R:Ending → World → Prop} (hrec:∀ (c₀:Frame) (cs:List Frame),c₀.mode = u → (match recoverD (c₀ :: cs) with
   | some (v,cs')=>v = rv ∧ cs' = { c₀ with mode:=u2 } :: cs
   | none=>rv = .nilIface ∧ c₀ :: cs = { c₀ with mode:=u2 } :: cs))
  (h:wpc Tryd.prog fold_folding_made_c1.ann fold_folding_made_c1.body (fnKs Tryd.prog Tryd.f81 R) [] (upd (upd (env0 #[(.pointer (some q0)),(.pointer (some q1))]) 5 rv) 2 rv) w) :
  CallsD Tryd.prog 81 #[.pointer (some q0),.pointer (some q1)] u w fun e u' w'=>u' = u2 ∧ R e w':=by
 have hrep:Fw.Rep ⟨17,[]⟩ [] (env0 #[.pointer (some q0),.pointer (some q1)]) (act81 q0 q1):=
  rep0 (n:=17) (fx:=[]) (args:=#[.pointer (some q0),.pointer (some q1)]) (by show 2 ≤ 17; decide) (by simp) (by simp)
 have hw:=wp_of_wpc (fn:=Tryd.f81) (n:=17) (R:=R) mixed (by kernel_rfl) (by kernel_rfl) ((hrep.put (some 5) rv rfl).put (some 2) rv rfl) h
 refine callsD_of_wpS Tryd.func81 body81 fun c₀ cs hu=>?_
 have ha:({ tmps:=#[.pointer (some q0),.pointer (some q1)] ++ Array.replicate (Tryd.f81.ntmps - (#[.pointer (some q0),.pointer (some q1)]:Array Value).size) undef,defers:=[] }:Act) = act81 q0 q1:=by rw [ntmps81]; rfl
 rw [ha]
 refine wpS_recover (rv:=rv) (cs2:={ c₀ with mode:=u2 } :: cs) (by rw [act81_size]; decide) (hrec c₀ cs hu) ?_
 refine wpS_of_wp fun b k cs2=>?_
 obtain ⟨e,a',w',hq,har⟩:=hw b k cs2
 refine ⟨e,a',w',?_,har⟩
 cases e with
 | normal=>obtain ⟨h1,v,h2,h3⟩:=hq; exact ⟨h1,u2,rfl,v,h2,rfl,h3⟩
 | ret=>obtain ⟨h1,v,h2,h3⟩:=hq; exact ⟨h1,u2,rfl,v,h2,rfl,h3⟩
 | panic ch=>obtain ⟨h1,h2⟩:=hq; exact ⟨h1,u2,rfl,rfl,h2⟩
 | exit id=>exact hq.elim
 | goto l=>exact hq.elim
 | outgrown=>exact ⟨u2,rfl,hq⟩
end Go.Proofs.YtffdjfkekdoeaaaDoor.Fo
end
section
set_option maxRecDepth 4000
set_option maxHeartbeats 1000000
namespace Go.Proofs.YtffdjfkekdoeaaaDoor.Fo
open Fw Wd
noncomputable def reg49:Code:=match Tryd.f49.body with | some (.seq c _)=>c | _=>.skip
noncomputable def rest49:Code:=match Tryd.f49.body with | some (.seq _ c)=>c | _=>.skip
theorem body49:Tryd.f49.body = some (.seq reg49 rest49):=by kernel_rfl
theorem ntmps49:Tryd.f49.ntmps = 76:=by kernel_rfl
theorem results49:Tryd.f49.results = #[.cell 4 27,.cell 5 28]:=by kernel_rfl
theorem under27:(Tryd.prog.underlying 27).map (fun d=>(match d with | .struct _=>true | _=>false)) = some true:=by kernel_rfl
theorem info27:(Tryd.prog.info? 27).map (·.size) = some 4:=by kernel_rfl
theorem under28:Tryd.prog.underlying 28 = some (.int .i64):=by kernel_rfl
theorem run_results49 {tmps:Array Value} {w:World} {b1 b3:Nat} {cs:Array Value} {k:Int} (h4:tmps.getD 4 undef = .pointer (some (at0 b1))) (h5:tmps.getD 5 undef = .pointer (some (at0 b3)))
  (hb1:w.heap[b1]? = some (.cells cs 27 (0,0))) (hsz:cs.size = 4) (hb3:w.heap[b3]? = some (.cells #[.int .i64 k] 28 (0,0))):(results Tryd.f49 tmps).run Tryd.prog w = .ok (.tuple #[.agg cs,.int .i64 k]) w:=by
 obtain ⟨d,hd,hds⟩:=Option.map_eq_some_iff.1 under27
 have l1:(loadVar 27 (at0 b1)).run Tryd.prog w = .ok (.agg cs) w:=by
  refine run_loadVar_row w b1 27 27 cs (0,0) d hb1 hd ?_ (by rw [info27,hsz])
  cases d <;> simp_all
 have l2:(loadVar 28 (at0 b3)).run Tryd.prog w = .ok (.int .i64 k) w:=by
  have hc:w.cell? (at0 b3) = some (.int .i64 k):=by rw [cellOf0 hb3]; rfl
  simp [loadVar,isAgg,run_underlying under28,hc]
 have hre:results Tryd.f49 tmps = (do let vs ← Tryd.f49.results.mapM (resSem tmps); pure (if h:vs.size = 1 then vs[0] else .tuple vs)):=rfl
 have hl:[ResultVar.cell 4 27,ResultVar.cell 5 28].mapM (resSem tmps) = (do let a ← resSem tmps (.cell 4 27); let b ← resSem tmps (.cell 5 28); pure [a,b]):=by simp
 rw [hre,results49,List.mapM_toArray,Sem.run_bind,Sem.run_map,hl]
 simp [resSem,h4,h5,asAddr,l1,l2,-Array.getD_eq_getD_getElem?]
def endD (R:Ending → World → Prop) (b1 b3:Nat) (u:FrameMode) (w:World):Prop:=
 CallsD Tryd.prog 81 #[.pointer (some (at0 b1)),.pointer (some (at0 b3))] u w fun e u' w'=>(∃ v,e = .returned v) ∧ settle u' = .returning ∧ ∃ (cs:Array Value) (k:Int),w'.heap[b1]? = some (.cells cs 27 (0,0)) ∧ cs.size = 4 ∧ w'.heap[b3]? = some (.cells #[.int .i64 k] 28 (0,0)) ∧
  R (.returned (.tuple #[.agg cs,.int .i64 k])) w'
def dfr (b1 b3:Nat):Deferred:={ target:=.fn (.func 81) #[.pointer (some (at0 b1)),.pointer (some (at0 b3))],args:=#[] }
theorem leaves49 {R:Ending → World → Prop} {b1 b3:Nat} {u:FrameMode} {w:World} {tmps:Array Value} (hu:u ≠ .run) (h4:tmps.getD 4 undef = .pointer (some (at0 b1))) (h5:tmps.getD 5 undef = .pointer (some (at0 b3))) (h:endD R b1 b3 u w) :
  Leaves Tryd.prog Tryd.f49 tmps R [dfr b1 b3] u w:=by
 refine ⟨hu,.func 81,_,81,_,rfl,rfl,?_⟩
 intro c cs hc
 obtain ⟨e,u',w',fr,hq,hrest⟩:=h c cs hc
 refine ⟨e,u',w',fr,?_,hrest⟩
 obtain ⟨⟨v,rfl⟩,hs,cs',k,hb1,hsz,hb3,hR⟩:=hq
 show Leaves _ _ _ _ [] (settle u') w'
 rw [hs]
 exact ⟨_,run_results49 h4 h5 hb1 hsz hb3,hR⟩
theorem made_calls {p0:Option Addr} {p1:Int} {w:World} {R:Ending → World → Prop} (h:fold_folding_made.sh p0 p1 (fun ds _ w'=>ds = [dfr w.heap.size (w.heap.size + 1)] ∧ endD R w.heap.size (w.heap.size + 1) .returning w')
   (fun ch ds w'=>ds = [dfr w.heap.size (w.heap.size + 1)] ∧ endD R w.heap.size (w.heap.size + 1) (.panicking ch) w') w):Calls Tryd.prog 49 #[.pointer p0,.int .i64 p1] w R:=by
 generalize hRn:(fun (ds:List Deferred) (_:List Value) (w':World)=>ds = [dfr w.heap.size (w.heap.size + 1)] ∧ endD R w.heap.size (w.heap.size + 1) .returning w') = Rn at h
 generalize hRp:(fun (ch:List PanicEntry) (ds:List Deferred) (w':World)=>ds = [dfr w.heap.size (w.heap.size + 1)] ∧ endD R w.heap.size (w.heap.size + 1) (.panicking ch) w') = Rp at h
 have h:=(fold_folding_made.eq p0 p1 Rn Rp w).mp h
 have hsplit:wpc Tryd.prog fold_folding_made.ann fold_folding_made.body (defKs [4,5] Rn Rp) [] (env0 #[(.pointer p0),(.int .i64 p1)]) w =
   New w (.cells #[(.int .i64 0),(.int .i64 0),(.slice none 0 0),(.slice none 0 0)] 27) fun b1 w2=>New w2 (.cells #[(.int .i64 0)] 28) fun b3 w4=>
    wpc Tryd.prog fold_folding_made.ann rest49 (defKs [4,5] Rn Rp) [] (upd (upd (env0 #[(.pointer p0),(.int .i64 p1)]) 4 (.pointer (some (Addr.mk b1 0 none)))) 5 (.pointer (some (Addr.mk b3 0 none)))) w4:=by kernel_rfl
 rw [hsplit] at h
 refine calls_of_wp_defers Tryd.func49 body49 ?_
 refine (wpIn_wide (n:=0)).1 ?_
 rw [← Wf_none]
 refine wpIn_seq ?_
 have ha:({ tmps:=#[.pointer p0,.int .i64 p1] ++ Array.replicate (Tryd.f49.ntmps - (#[.pointer p0,.int .i64 p1]:Array Value).size) undef,defers:=[] }:Act) = { tmps:=#[.pointer p0,.int .i64 p1] ++ Array.replicate (76 - (#[.pointer p0,.int .i64 p1]:Array Value).size) undef,defers:=[] }:=by rw [ntmps49]
 rw [ha]
 have hrep:Fw.Rep ⟨76,[]⟩ [] (env0 #[.pointer p0,.int .i64 p1]) { tmps:=#[.pointer p0,.int .i64 p1] ++ Array.replicate (76 - (#[.pointer p0,.int .i64 p1]:Array Value).size) undef,defers:=[] }:=
  rep0 (n:=76) (fx:=[]) (args:=#[.pointer p0,.int .i64 p1]) (by show 2 ≤ 76; decide) (by simp) (by simp)
 refine wpIn_of_wpc (F:=⟨76,[]⟩) (A:=fold_folding_made.ann) mixed reg49 none
  { N:=fun ds e w'=>ds = [] ∧ e 4 = .pointer (some (at0 w.heap.size)) ∧ e 5 = .pointer (some (at0 (w.heap.size + 1))) ∧ wpc Tryd.prog fold_folding_made.ann rest49 (defKs [4,5] Rn Rp) [] e w',X:=fun _ _ _ _=>False,R:=fun _ _ _=>False,P:=fun _ _ _=>False }
  [] _ _ w _ (by kernel_rfl) hrep ⟨fun ds e a w' _ hr hn=>?_,fun _ _ _ _ _ _ _ h=>h.elim,fun _ _ _ _ _ _ h=>h.elim,fun _ _ _ _ h=>h.elim⟩ ?_
 ·obtain ⟨rfl,e4,e5,hw⟩:=hn
  have hr':Fw.Rep ⟨76,[(4,.pointer (some (at0 w.heap.size))),(5,.pointer (some (at0 (w.heap.size + 1))))]⟩ [] e a:=
   ⟨hr.size,hr.slots,hr.defers,fun p hp=>by
    simp only [List.mem_cons,List.not_mem_nil,or_false] at hp
    rcases hp with rfl | rfl
    ·exact e4
    ·exact e5,fun p hp=>by
    simp only [List.mem_cons,List.not_mem_nil,or_false] at hp
    rcases hp with rfl | rfl
    ·show 4 < 76; decide
    ·show 5 < 76; decide⟩
  refine wpIn_of_wpc (F:=⟨76,[(4,.pointer (some (at0 w.heap.size))),(5,.pointer (some (at0 (w.heap.size + 1))))]⟩) mixed rest49 none (defKs [4,5] Rn Rp) [] e a w' _ (by kernel_rfl) hr' ⟨fun ds e a w' _ hr hn=>?_,fun _ _ _ _ _ _ _ h=>h.elim,fun ds e a w' _ hr hn=>?_,fun ch ds w' _ hn a ha hfx=>?_⟩ hw
  ·have hn:Rn ds [e 4,e 5] w':=hn
   rw [← hRn] at hn
   show Leaves _ _ _ _ _ _ _
   rw [hr.defers,hn.1]
   exact leaves49 (by simp) (hr.at (4,_) (by simp)) (hr.at (5,_) (by simp)) hn.2
  ·have hn:Rn ds [e 4,e 5] w':=hn
   rw [← hRn] at hn
   show Leaves _ _ _ _ _ _ _
   rw [hr.defers,hn.1]
   exact leaves49 (by simp) (hr.at (4,_) (by simp)) (hr.at (5,_) (by simp)) hn.2
  ·have hn:Rp ch ds w':=hn
   rw [← hRp] at hn
   show Leaves _ _ _ _ _ _ _
   rw [ha,hn.1]
   exact leaves49 (by simp) (hfx (4,_) (by simp)) (hfx (5,_) (by simp)) hn.2
 ·have hsplit2:∀ K:Ks,wpc Tryd.prog fold_folding_made.ann reg49 K [] (env0 #[(.pointer p0),(.int .i64 p1)]) w =
   New w (.cells #[(.int .i64 0),(.int .i64 0),(.slice none 0 0),(.slice none 0 0)] 27) fun b1 w2=>New w2 (.cells #[(.int .i64 0)] 28) fun b3 w4=>
    K.N [] (upd (upd (env0 #[(.pointer p0),(.int .i64 p1)]) 4 (.pointer (some (Addr.mk b1 0 none)))) 5 (.pointer (some (Addr.mk b3 0 none)))) w4:=fun K=>by kernel_rfl
  rw [hsplit2]
  refine ⟨rfl,rfl,?_,h⟩
  show Value.pointer (some (Addr.mk (w.alloc _).heap.size 0 none)) = _
  rw [World.size_alloc]
end Go.Proofs.YtffdjfkekdoeaaaDoor.Fo
end
section
set_option maxRecDepth 4000
set_option maxHeartbeats 1000000
namespace Go.Proofs.YtffdjfkekdoeaaaDoor.Fo
open Fw Wd
theorem under20:(Tryd.prog.underlying 20).map (fun d=>(match d with | .interface _=>true | _=>false)) = some true:=by kernel_rfl
theorem under128:(Tryd.prog.underlying 128).map (fun d=>(match d with | .struct _=>true | _=>false)) = some true:=by kernel_rfl
theorem equalIn_nn (d:Nat) (w:World):(Op.equalIn (d + 1) 20 .nilIface .nilIface).run Tryd.prog w = .ok true w:=by
 obtain ⟨t,ht,hd⟩:=Option.map_eq_some_iff.1 under20
 cases t <;> simp at hd
 simp [Op.equalIn,run_underlying ht]
theorem equalIn_in (d:Nat) (w:World) (t:TypeId) (v:Value):(Op.equalIn (d + 1) 20 (.iface t v) .nilIface).run Tryd.prog w = .ok false w:=by
 obtain ⟨t,ht,hd⟩:=Option.map_eq_some_iff.1 under20
 cases t <;> simp at hd
 simp [Op.equalIn,run_underlying ht]
theorem neq_nn (w:World) (x:Operand):(do eqGuard .neq 20 x (.const Value.nilIface) Value.nilIface Value.nilIface; binOp .neq 20 Value.nilIface Value.nilIface:Sem Value).run Tryd.prog w = .ok (.bool false) w:=by
 rw [eqGuard_nil_constR,Sem.run_bind,Sem.run_pure,Result.andThen_ok]
 simp only [binOp]
 have h:(Op.equal 20 .nilIface .nilIface).run Tryd.prog w = .ok true w:=equalIn_nn 9999 w
 simp [h]
theorem neq_in (w:World) (x:Operand) (t:TypeId) (v:Value):(do eqGuard .neq 20 x (.const Value.nilIface) (.iface t v) Value.nilIface; binOp .neq 20 (.iface t v) Value.nilIface:Sem Value).run Tryd.prog w = .ok (.bool true) w:=by
 rw [eqGuard_at_iface,Sem.run_bind,Sem.run_pure,Result.andThen_ok]
 simp only [binOp]
 have h:(Op.equal 20 (.iface t v) .nilIface).run Tryd.prog w = .ok false w:=equalIn_in 9999 w t v
 simp [h]
theorem assert128 (w:World):(Instr.typeAssert (.iface 128 (.agg #[])) 20 128 true).run Tryd.prog w = .ok (.tuple #[.agg #[],.bool true]) w:=by
 obtain ⟨t,ht,hd⟩:=Option.map_eq_some_iff.1 under128
 cases t <;> simp at hd
 simp [Instr.typeAssert,run_underlying ht]
theorem endD_ret {R:Ending → World → Prop} {b1 b3:Nat} {w:World} {cs:Array Value} {k:Int} (h1:w.heap[b1]? = some (.cells cs 27 (0,0))) (hs:cs.size = 4) (h3:w.heap[b3]? = some (.cells #[.int .i64 k] 28 (0,0)))
  (hR:R (.returned (.tuple #[.agg cs,.int .i64 k])) w):endD R b1 b3 .returning w:=by
 have hsh:fold_folding_made_c1_nil.sh (at0 b1) (at0 b3) (fun e w'=>e = .returned (.tuple #[]) ∧ w' = w) w:=by
  unfold fold_folding_made_c1_nil.sh
  exact ⟨false,w,neq_nn w _,Br.f rfl ⟨rfl,rfl⟩⟩
 have:=made1_D (u:=.returning) (u2:=.returning) (rv:=.nilIface) (fun c₀ cs hm=>by
  simp only [recoverD,hm]
  refine ⟨trivial,?_⟩
  rw [← hm]) ((fold_folding_made_c1_nil.eq (at0 b1) (at0 b3) _ w).mp hsh)
 refine fun c cs hc=>?_
 obtain ⟨e,u',w',fr,⟨hu,he,hw⟩,hrest⟩:=this c cs hc
 subst hu; subst hw; subst he
 exact ⟨_,_,_,fr,⟨⟨_,rfl⟩,rfl,_,k,h1,hs,h3,hR⟩,hrest⟩
theorem endD_panic {R:Ending → World → Prop} {b1 b3:Nat} {w:World} {cs:Array Value} {k:Int} (h1:w.heap[b1]? = some (.cells cs 27 (0,0))) (hs:cs.size = 4) (h3:w.heap[b3]? = some (.cells #[.int .i64 k] 28 (0,0)))
  (hR:∀ w',Chg (fun i=>i = b1 ∨ i = b3) w w' → R (.returned (.tuple #[.agg #[.int .i64 0,.int .i64 0,.slice none 0 0,.slice none 0 0],.int .i64 2])) w'):endD R b1 b3 (.panicking tooBig) w:=by
 have hsh:fold_folding_made_c1.sh (at0 b1) (at0 b3) (fun e w'=>e = .returned (.tuple #[]) ∧ Chg (fun i=>i = b1 ∨ i = b3) w w' ∧ w'.heap[b1]? = some zeroAut ∧ w'.heap[b3]? = some (.cells #[.int .i64 2] 28 (0,0))) w:=by
  unfold fold_folding_made_c1.sh
  refine ⟨true,w,neq_in w _ _ _,Br.t rfl ?_⟩
  refine ⟨((),true,()),w,assert128 w,?_⟩
  refine New.mk fun b w1 hb hnew hsz hc=>?_
  refine ⟨trivial,?_⟩
  refine Br.f rfl ?_
  have h1':=hc.heap h1 fun h=>h
  have h3':=hc.heap h3 fun h=>h
  refine StoreN.whole (vs:=[.int .i64 0,.int .i64 0,.slice none 0 0,.slice none 0 0]) h1' (by rw [hs]; rfl) fun w2 hh2 hc2 _=>?_
  have h3'':=hc2.heap h3' fun he=>ne_of_elem h3' h1' (by decide) he
  have:=Store1.at (b:=b3) h3'' 0 (by show 0 < 1; decide) (v:=.int .i64 2) (cs':=#[.int .i64 2]) rfl (K:=fun w'=>Ending.returned (.tuple #[]) = .returned (.tuple #[]) ∧ Chg (fun i=>i = b1 ∨ i = b3) w w' ∧ w'.heap[b1]? = some zeroAut ∧ w'.heap[b3]? = some (.cells #[.int .i64 2] 28 (0,0))) fun w3 hh3 hc3 _=>
   ⟨rfl,(hc.nil.then (hc2.mono fun _ _ h=>.inl h)).then (hc3.mono fun _ _ h=>.inr h),hc3.heap hh2 fun he=>ne_of_elem hh2 h3'' (by decide) he,hh3⟩
  rw [add0] at this
  exact this
 have:=made1_D (u:=.panicking tooBig) (u2:=.panicking [{ v:=.iface 128 (.agg #[]),recovered:=true }]) (rv:=.iface 128 (.agg #[])) (fun c₀ cs hm=>by
  simp only [recoverD,hm,tooBig]
  exact ⟨trivial,trivial⟩) ((fold_folding_made_c1.eq (at0 b1) (at0 b3) _ w).mp hsh)
 refine fun c cs hc=>?_
 obtain ⟨e,u',w',fr,⟨hu,he,hw,hb1,hb3⟩,hrest⟩:=this c cs hc
 subst hu; subst he
 exact ⟨_,_,_,fr,⟨⟨_,rfl⟩,rfl,_,2,hb1,rfl,hb3,hR _ hw⟩,hrest⟩
end Go.Proofs.YtffdjfkekdoeaaaDoor.Fo
end
section
set_option maxRecDepth 4000
set_option maxHeartbeats 1600000
namespace Go.Proofs.YtffdjfkekdoeaaaDoor.Fo
open Fw Wd
section
variable {w:World} {rs:Sl} {sls:List Sl} {rows:List (Option Row)}
theorem Tab.put (h:Tab w rs sls rows) {w':World} {i:Nat} {s':Sl} {r:Row} (hi:rows[i]? = some none) (hs:OwnT w 3 tI s' (r.map ofO)) (hp:0 < r.length) (h64:r.length ≤ 64) (hfresh:∀ k,s'.own k → ¬ tfoot rs sls k) (hc:Chg rs.own w w')
  (ho:OwnT w' 85 (.sc .sl) rs (sls.set i s')):Tab w' rs (sls.set i s') (rows.set i (some r)):=by
 have hlt:i < rows.length:=(List.getElem?_eq_some_iff.1 hi).1
 have hkeep:∀ {s:Sl} {r:Row},OwnT w 3 tI s (r.map ofO) → OwnT w' 3 tI s (r.map ofO):=fun ho=>ho.chg hc fun a ha hk=>by
  obtain ⟨_,h1⟩:=ho.elem ⟨a,ha,rfl⟩; obtain ⟨_,h2⟩:=h.own.elem hk; exact ne_of_elem h1 h2 (by decide) rfl
 refine ⟨ho,by rw [List.length_set,List.length_set,h.len],fun j s q hj hq=>?_,fun j s hj hq=>?_,fun j1 j2 s1 s2 hj1 hj2 hne k hk1 hk2=>?_⟩
 ·by_cases hij:i = j
  ·subst hij
   rw [List.getElem?_set_self hlt] at hq; cases hq
   rw [List.getElem?_set_self (by rw [h.len]; exact hlt)] at hj; cases hj
   exact ⟨hkeep hs,hp,h64⟩
  ·rw [List.getElem?_set_ne hij] at hq hj
   exact ⟨hkeep (h.row j s q hj hq).1,(h.row j s q hj hq).2⟩
 ·by_cases hij:i = j
  ·subst hij
   rw [List.getElem?_set_self hlt] at hq; cases hq
  ·rw [List.getElem?_set_ne hij] at hq hj
   exact h.nul j s hj hq
 ·by_cases h1:i = j1
  ·subst h1
   rw [List.getElem?_set_self (by rw [h.len]; exact hlt)] at hj1; cases hj1
   rw [List.getElem?_set_ne hne] at hj2
   exact hfresh k hk1 (.inr ⟨s2,List.mem_of_getElem? hj2,hk2⟩)
  ·rw [List.getElem?_set_ne h1] at hj1
   by_cases h2:i = j2
   ·subst h2
    rw [List.getElem?_set_self (by rw [h.len]; exact hlt)] at hj2; cases hj2
    exact hfresh k hk2 (.inr ⟨s1,List.mem_of_getElem? hj1,hk1⟩)
   ·rw [List.getElem?_set_ne h2] at hj2
    exact h.apart j1 j2 s1 s2 hj1 hj2 hne k hk1 hk2
end
def madePost (w:World) (F:Nat → Prop) (m:Nat) (res:Option (List Row)) (e:Ending) (w':World):Prop:=
 Chg F w w' ∧ match res with
  | some nexts=>∃ sa sn,e = .returned (.tuple #[.agg #[.int .i64 (m:Int),.int .i64 0,sa.v,sn.v],.int .i64 0]) ∧ AutR w.heap.size w' sa sn (accF nexts.length) (nexts.map (·.map ofO))
  | none=>e = .returned (.tuple #[.agg #[.int .i64 0,.int .i64 0,.slice none 0 0,.slice none 0 0],.int .i64 2])
theorem set_rep {α:Type} (done:List (Option α)) (x:Option α) (n:Nat) (h:done.length < n):(done ++ List.replicate (n - done.length) none).set done.length x = (done ++ [x]) ++ List.replicate (n - (done.length + 1)) none:=by
 rw [List.set_append_right _ _ (by simp),show n - done.length = (n - (done.length + 1)) + 1 by omega,List.replicate_succ]
 simp
theorem none_rep {α:Type} (done:List (Option α)) (n:Nat) (h:done.length < n):done ++ List.replicate (n - done.length) none = (done ++ [none]) ++ List.replicate (n - (done.length + 1)) none:=by
 rw [show n - done.length = (n - (done.length + 1)) + 1 by omega,List.replicate_succ]
 simp
theorem made_ret {w:World} {fb:Nat} {st:St} {M:Mem} (h:Rep w fb st M) (hbig:st.next.length ≤ Fo.big) (hm0:0 < st.m) {K start:Nat} {res:Option (List Row)} (hf:madeF K st start = some res) :
  Calls Tryd.prog 49 #[.pointer (some (at0 fb)),.int .i64 (start:Int)] w (madePost w (M.foot fb) st.m res):=by
 refine made_calls ?_
 unfold fold_folding_made.sh
 simp only [madeF] at hf
 split at hf
 ·cases hf
 rename_i parE rowsE hrows
 split at hf
 ·cases hf
 rename_i parZ rz hfz
 have hbg:Fo.big = 4294967296:=rfl
 have hm:=h.mle
 refine New.mk fun b1 w1 hb1 hn1 hsz1 hc1=>?_
 refine New.mk fun b3 w2 hb3 hn3 hsz3 hc2=>?_
 have h2:=(h.nil hc1).nil hc2
 have hz1:w2.heap[b1]? = some zeroAut:=hc2.heap hn1 fun h=>h
 refine NilCk.mk (LoadT.sc (s:=.sl) (x:=M.na) (cellHead h2).2.2.1 ?_)
 have hnn:M.na.n = st.next.length:=by rw [h2.next.len,List.length_map,h2.len]
 rw [hnn]
 refine makeSlice_own (s:=.sl) ok25 (z:=(⟨none,0,0⟩:Sl)) zero85 rfl st.next.length rfl (by omega) (by simp only [maxLen]; omega) fun g w3 ho3 hc3 hg=>?_
 have hnone:∀ (i:Nat) (s:Sl),(List.replicate st.next.length (⟨none,0,0⟩:Sl))[i]? = some s → s = ⟨none,0,0⟩:=fun i s hs=>by
  rw [List.getElem?_replicate] at hs; split at hs <;> cases hs; rfl
 have ht3:Tab w3 ⟨some ⟨g,0,none⟩,st.next.length,st.next.length⟩ (List.replicate st.next.length ⟨none,0,0⟩) (List.replicate st.next.length none):=
  ⟨ho3,by simp,fun i s r hi hr=>(by rw [List.getElem?_replicate] at hr; split at hr <;> cases hr),fun i s hi _=>hnone i s hi,fun i j s s' hi hj _ k hk=>(by
   rw [hnone i s hi] at hk; obtain ⟨a,ha,_⟩:=hk; cases ha)⟩
 have h3:=h2.nil hc3
 have hB:∀ k,M.foot fb k → k < w.heap.size:=fun k hk=>h.lt k hk
 have s1:=hc1.size
 have s2:=hc2.size
 -- from here on: what may have turned
 have hF:∀ {S:Nat → Prop} {wa wb:World},Chg S wa wb → (∀ i,S i → M.foot fb i ∨ w.heap.size ≤ i) → Chg (fun k=>M.foot fb k ∨ w.heap.size ≤ k) wa wb:=fun hc hs=>hc.mono fun i _ hi=>hs i hi
 refine LoopT.mk (fun x w'=>∃ (s:Nat) (par1:List Nat) (sls:List Sl) (done rest:List (Option Row)),s ≤ st.next.length ∧ x = (some (at0 fb),(start:Int),at0 b1,at0 b3,⟨some ⟨g,0,none⟩,st.next.length,st.next.length⟩,((st.next.length:Nat):Int),(s:Int),()) ∧
   Rep w' fb { st with par:=par1 } M ∧ Tab w' ⟨some ⟨g,0,none⟩,st.next.length,st.next.length⟩ sls (done ++ List.replicate (st.next.length - s) none) ∧ (∀ k,tfoot ⟨some ⟨g,0,none⟩,st.next.length,st.next.length⟩ sls k → w.heap.size ≤ k) ∧
   Chg (fun k=>M.foot fb k ∨ w.heap.size ≤ k) w w' ∧ w'.heap[b1]? = some zeroAut ∧ w'.heap[b3]? = some (.cells #[.int .i64 0] 28 (0,0)) ∧ done.length = s ∧ rowsF K par1 (st.next.drop s) s = some (parE,rest) ∧ done ++ rest = rowsE) (fun x _=>st.next.length - x.2.2.2.2.2.2.1.toNat)
  ⟨0,st.par,_,[],rowsE,Nat.zero_le _,rfl,h3,by simpa using ht3,?_,((hc1.then hc2).then hc3).nil,hc3.heap hz1 fun h=>h,hc3.heap hn3 fun h=>h,rfl,hrows,rfl⟩ ?_
 ·rintro k (⟨a,ha,rfl⟩ | ⟨s,hs,hk⟩)
  ·cases ha; dsimp only; omega
  ·have hs:=List.eq_of_mem_replicate hs; subst hs; obtain ⟨a,ha,_⟩:=hk; cases ha
 rintro x g4 w4 ⟨s,par1,sls,done,rest,hs,rfl,h4,ht4,htB,hc4,hz4,he4,hdl,hrest,hall⟩
 dsimp only
 refine Br.dec (fun hlt=>?_) (fun hge=>?_)
 ·have hlt':s < st.next.length:=by omega
  have hdrop:st.next.drop s = st.next[s] :: st.next.drop (s + 1):=List.drop_eq_getElem_cons hlt'
  generalize hrow:st.next[s] = row at hdrop
  have hrow':st.next[s]? = some row:=by rw [List.getElem?_eq_getElem hlt',hrow]
  rw [hdrop] at hrest
  simp only [rowsF] at hrest
  split at hrest
  ·cases hrest
  rename_i par2 r hfind
  have hw:IntKind.wrap .i64 ((s:Int) + 1) = ((s + 1:Nat):Int):=by rw [wrap64 (by omega) (by omega)]; rfl
  have hmu:st.next.length - (s + 1) < st.next.length - s:=by omega
  have hpaB:∀ k,M.pa.own k → M.foot fb k:=fun k hk=>.inr (.inl hk)
  refine NilCk.mk (Ret.call (find_rep h4 hfind) ?_)
  rintro _ w5 ⟨rfl,h5,hc5⟩
  have ht5:=ht4.chg hc5 fun k hk hp=>by have:=htB k hk; have:=hB k (hpaB k hp); omega
  have hc05:=hc4.then (hF hc5 fun i hi=>.inl (hpaB i hi))
  have hz5:w5.heap[b1]? = some zeroAut:=hc5.heap hz4 fun hk=>by have:=hB _ (hpaB _ hk); omega
  have he5:=hc5.heap he4 fun hk=>by have:=hB _ (hpaB _ hk); omega
  rw [hw]
  split at hrest
  ·rename_i hrs
   subst hrs
   refine Br.f (by simp) ?_
   split at hrest
   ·cases hrest
   rename_i par4 row2 hreps
   split at hrest
   ·cases hrest
   rename_i par5 rows5 hrows5
   cases hrest
   have hrl:r < M.rows.length:=by rw [h5.len]; exact hlt'
   have hblk:M.rows[r]? = some M.rows[r]:=List.getElem?_eq_getElem hrl
   refine NilCk.mk (LoadT.sc (s:=.sl) (x:=M.na) (cellHead h5).2.2.1 ?_)
   refine h5.next.rd.get (t:=.sc .sl) r rfl (x:=rowSl st.m M.rows[r]) (by rw [List.getElem?_map,hblk]; rfl) ?_
   have hro:=h5.row r _ row hblk hrow'
   have hml:st.m = row.length:=by have:=hro.len; rwa [List.length_map] at this
   refine Ret.call (clone_ret (g:=M.rows[r]) (m:=st.m) (c:=st.m) hro hm0 hm) ?_
   rintro s' w6 ⟨hs',hc6,hfresh⟩
   obtain ⟨gs,ns,cs,rfl⟩:∃ gs ns cs,s' = ⟨some ⟨gs,0,none⟩,ns,cs⟩:=by
    rcases hs'.block with ⟨_,hx⟩ | ⟨g',cur,hx,_⟩
    ·have hx:=List.map_eq_nil_iff.1 hx; subst hx; simp at hml; omega
    ·obtain ⟨a,n,c⟩:=s'; simp only at hx; subst hx; exact ⟨_,_,_,rfl⟩
   have hns:ns = row.length:=by have:=hs'.len; rwa [List.length_map] at this
   have ht6:=ht5.nil hc6
   have h6:=h5.nil hc6
   have hsl:r < sls.length:=by rw [ht6.len,List.length_append,List.length_replicate]; omega
   refine ht6.own.idx (t:=.sc .sl) r rfl hsl fun g' hg'=>?_
   cases hg'
   refine ht6.own.store (s:=.sl) rfl r hsl (x:=⟨some ⟨gs,0,none⟩,ns,cs⟩) fun w7 ho7 hc7 _=>?_
   have hc7':Chg (⟨some ⟨g,0,none⟩,st.next.length,st.next.length⟩:Sl).own w6 w7:=hc7.mono fun i _ hi=>⟨_,rfl,hi.symm⟩
   have hgB:w.heap.size ≤ g:=by have:=htB g (.inl ⟨_,rfl,rfl⟩); omega
   have hgsB:w.heap.size ≤ gs:=by have:=hfresh gs ⟨_,rfl,rfl⟩; have:=hc05.size; omega
   have hnri:(done ++ List.replicate (st.next.length - r) none)[r]? = some none:=by
    rw [List.getElem?_append_right (by omega),hdl,Nat.sub_self,List.getElem?_replicate,if_pos (by omega)]
   have ht7:=ht6.put hnri hs' (by omega) (by omega) (fun k hk hf=>by have:=hfresh k hk; have:=ht5.lt k hf; omega) hc7' ho7
   have hS7:∀ i,(· = g) i → M.foot fb i ∨ w.heap.size ≤ i:=fun i hi=>.inr (by have hi:i = g:=hi; omega)
   have h7:=h6.chg hc7 fun k hk hi=>by have hi:k = g:=hi; have:=hB k hk; omega
   have hc07:=(hc05.then hc6.nil).then (hF hc7 hS7)
   have hz6:w6.heap[b1]? = some zeroAut:=hc6.heap hz5 fun h=>h
   have he6:=hc6.heap he5 fun h=>h
   have hgel:∃ cur,w6.heap[g]? = some (.cells cur 85 (0,0)):=ht6.own.elem ⟨_,rfl,rfl⟩
   obtain ⟨_,hgel⟩:=hgel
   have hz7:w7.heap[b1]? = some zeroAut:=hc7.heap hz6 fun he=>ne_of_elem hz6 hgel (by decide) he
   have he7:=hc7.heap he6 fun he=>ne_of_elem he6 hgel (by decide) he
   have hsls:(sls.set r ⟨some ⟨gs,0,none⟩,ns,cs⟩)[r]? = some ⟨some ⟨gs,0,none⟩,ns,cs⟩:=List.getElem?_set_self hsl
   refine ht7.own.rd.idx (t:=.sc .sl) r rfl hsls fun a26 ha26=>?_
   refine LoadT.mk (.sc .sl) ha26 ?_
   have htB7:∀ k,tfoot ⟨some ⟨g,0,none⟩,st.next.length,st.next.length⟩ (sls.set r ⟨some ⟨gs,0,none⟩,ns,cs⟩) k → w.heap.size ≤ k:=by
    rintro k (hk | ⟨s1,hs1,hk⟩)
    ·exact htB k (.inl hk)
    ·rcases List.mem_or_eq_of_mem_set hs1 with h1 | h1
     ·exact htB k (.inr ⟨s1,h1,hk⟩)
     ·subst h1; obtain ⟨a,ha,rfl⟩:=hk; cases ha; exact hgsB
   refine LoopT.mk (fun x w'=>∃ (y:Nat) (par3:List Nat) (doneR restR:Row),y ≤ row.length ∧ x = (some (at0 fb),(start:Int),at0 b1,at0 b3,⟨some ⟨g,0,none⟩,st.next.length,st.next.length⟩,(r:Int),((st.next.length:Nat):Int),(r:Int),⟨some ⟨gs,0,none⟩,ns,cs⟩,((ns:Nat):Int),(y:Int),()) ∧
     Rep w' fb { st with par:=par3 } M ∧ Tab w' ⟨some ⟨g,0,none⟩,st.next.length,st.next.length⟩ (sls.set r ⟨some ⟨gs,0,none⟩,ns,cs⟩) ((done ++ List.replicate (st.next.length - r) none).set r (some (doneR ++ row.drop y))) ∧
     Chg (fun k=>M.foot fb k ∨ w.heap.size ≤ k) w w' ∧ w'.heap[b1]? = some zeroAut ∧ w'.heap[b3]? = some (.cells #[.int .i64 0] 28 (0,0)) ∧ doneR.length = y ∧ repsF K par3 (row.drop y) = some (par4,restR) ∧ doneR ++ restR = row2) (fun x _=>row.length - x.2.2.2.2.2.2.2.2.2.2.1.toNat)
    ⟨0,par2,[],row2,Nat.zero_le _,rfl,h7,ht7,hc07,hz7,he7,rfl,hreps,rfl⟩ ?_
   clear h7 ht7 hc07 hz7 he7 hreps hz6 he6 ha26 hs' h6 ht6 hro h5 ht5 hc05 hz5 he5 h4 ht4 hc4 hz4 he4 ho7 hgel
   rintro x g8 w8 ⟨y,par3,doneR,restR,hy,rfl,h8,ht8,hc8,hz8,he8,hdr,hreps,hdrr⟩
   dsimp only
   have hidx:(doneR ++ row.drop y).length = row.length:=by rw [List.length_append,List.length_drop,hdr]; omega
   have hset:((done ++ List.replicate (st.next.length - r) none).set r (some (doneR ++ row.drop y)))[r]? = some (some (doneR ++ row.drop y)):=List.getElem?_set_self (by rw [List.length_append,List.length_replicate]; omega)
   refine Br.dec (fun hylt=>?_) (fun hyge=>?_)
   ·have hyl:y < row.length:=by omega
    have hyw:IntKind.wrap .i64 ((y:Int) + 1) = ((y + 1:Nat):Int):=by rw [wrap64 (by omega) (by omega)]; rfl
    have hymu:row.length - (y + 1) < row.length - y:=by omega
    have hdy:row.drop y = row[y] :: row.drop (y + 1):=List.drop_eq_getElem_cons hyl
    have hro8:=(ht8.row r _ _ hsls hset).1
    have hgy:(doneR ++ row.drop y)[y]? = some row[y]:=by rw [List.getElem?_append_right (by omega),hdr,Nat.sub_self,hdy]; rfl
    refine hro8.rd.get (t:=tI) y rfl (x:=ofO row[y]) (by rw [List.getElem?_map,hgy]; rfl) ?_
    rw [hdy] at hreps
    rw [hyw]
    cases hoy:row[y] with
    | none=>
     rw [hoy] at hreps hdy
     simp only [repsF] at hreps
     split at hreps
     ·cases hreps
     rename_i par6 r6 h6
     cases hreps
     refine Br.no (by decide) ⟨⟨y + 1,par3,doneR ++ [none],r6,hyl,rfl,h8,?_,hc8,hz8,he8,by simp [hdr],h6,by rw [List.append_assoc]; exact hdrr⟩,hymu⟩
     rw [List.append_assoc]
     rw [hdy] at ht8
     exact ht8
    | some t=>
     rw [hoy] at hreps hdy
     simp only [repsF] at hreps
     split at hreps
     ·cases hreps
     rename_i par6 rt hft
     split at hreps
     ·cases hreps
     rename_i par7 r7 h7
     cases hreps
     refine Br.yes (Int.natCast_nonneg t) ?_
     refine ⟨fun w'=>RdT w' (.sc .sl) ⟨some ⟨g,0,none⟩,st.next.length,st.next.length⟩ (sls.set r ⟨some ⟨gs,0,none⟩,ns,cs⟩),ht8.own.rd.chg (Chg.drew (S:=Nil) w8) (fun _ _ h=>h),?_⟩
     refine ht8.own.idx (t:=.sc .sl) r rfl (by rw [List.length_set]; exact hsl) fun g' hg'=>?_
     cases hg'
     refine LoadS.sc (s:=.sl) (x:=⟨some ⟨gs,0,none⟩,ns,cs⟩) (fun w' hw=>hw.cell1 rfl hsls) ?_
     have h8d:=h8.nil (Chg.drew w8)
     refine NilCk.mk (Ret.call (find_rep h8d hft) ?_)
     rintro _ w9 ⟨rfl,h9,hc9⟩
     have ht9:=(ht8.nil (Chg.drew w8)).chg hc9 fun k hk hp=>by have:=htB7 k hk; have:=hB k (hpaB k hp); omega
     have hz9:w9.heap[b1]? = some zeroAut:=hc9.heap (w:=w8.drew) hz8 fun hk=>by have:=hB _ (hpaB _ hk); omega
     have he9:=hc9.heap (w:=w8.drew) he8 fun hk=>by have:=hB _ (hpaB _ hk); omega
     have hc09:=(hc8.then (Chg.drew w8)).then (hF hc9 fun i hi=>.inl (hpaB i hi))
     refine ⟨ht9.own.rd,?_⟩
     have hro9:=(ht9.row r _ _ hsls hset).1
     refine hro9.idx (t:=tI) y rfl (by rw [List.length_map,hidx]; exact hyl) fun g' hg'=>?_
     cases hg'
     refine hro9.store (s:=.int .i64) rfl y (by rw [List.length_map,hidx]; exact hyl) (x:=(rt:Int)) fun w10 ho10 hc10 _=>?_
     have hlist:(doneR ++ row.drop y).set y (some rt) = (doneR ++ [some rt]) ++ row.drop (y + 1):=by
      rw [List.set_append_right _ _ (by omega),hdr,Nat.sub_self,hdy]; simp
     have ht10:=ht9.setRow (r':=(doneR ++ [some rt]) ++ row.drop (y + 1)) hset hsls hc10 (by rw [← hlist,List.map_set]; exact ho10) (by rw [← hlist,List.length_set])
     rw [List.set_set] at ht10
     have hS10:∀ i,(· = gs) i → M.foot fb i ∨ w.heap.size ≤ i:=fun i hi=>.inr (by have hi:i = gs:=hi; omega)
     have h10:=h9.chg hc10 fun k hk hi=>by have hi:k = gs:=hi; have:=hB k hk; omega
     obtain ⟨_,hgse⟩:=hro9.elem ⟨_,rfl,rfl⟩
     refine ⟨⟨y + 1,par6,doneR ++ [some rt],r7,hyl,rfl,h10,ht10,hc09.then (hF hc10 hS10),hc10.heap hz9 fun he=>ne_of_elem hz9 hgse (by decide) he,hc10.heap he9 fun he=>ne_of_elem he9 hgse (by decide) he,by simp [hdr],h7,by rw [List.append_assoc]; exact hdrr⟩,hymu⟩
   ·have hyr:y = row.length:=by omega
    rw [List.drop_eq_nil_of_le (by omega)] at hreps ht8
    simp only [repsF,Option.some.injEq,Prod.mk.injEq] at hreps
    obtain ⟨rfl,rfl⟩:=hreps
    rw [List.append_nil] at hdrr ht8
    subst hdrr
    rw [hw]
    have hsr:=set_rep done (some doneR) st.next.length (by omega)
    rw [hdl] at hsr
    rw [hsr] at ht8
    exact ⟨⟨r + 1,par3,_,done ++ [some doneR],rows5,hlt',rfl,h8,ht8,htB7,hc8,hz8,he8,by simp [hdl],hrows5,by rw [List.append_assoc]; exact hall⟩,hmu⟩
  ·rename_i hrs
   refine Br.t (by rw [bne_iff_ne]; exact fun he=>hrs (Int.ofNat.inj he)) ?_
   split at hrest
   ·cases hrest
   rename_i par3 rows3 hr3
   cases hrest
   refine ⟨⟨s + 1,par2,sls,done ++ [none],rows3,hlt',rfl,h5,?_,htB,hc05,hz5,he5,by simp [hdl],hr3,by rw [List.append_assoc]; exact hall⟩,hmu⟩
   have hnr:=none_rep done st.next.length (by omega)
   rw [hdl] at hnr
   rw [← hnr]; exact ht5
 ·have hsn:s = st.next.length:=by omega
  subst hsn
  rw [List.drop_eq_nil_of_le (Nat.le_refl _)] at hrest
  simp only [rowsF,Option.some.injEq,Prod.mk.injEq] at hrest
  obtain ⟨rfl,rfl⟩:=hrest
  rw [List.append_nil] at hall
  rw [Nat.sub_self,List.replicate_zero,List.append_nil] at ht4
  subst hall
  have hpaB:∀ k,M.pa.own k → M.foot fb k:=fun k hk=>.inr (.inl hk)
  have h4d:=h4.nil (Chg.drew w4)
  refine ⟨fun w'=>w'.cell? ((at0 fb).add 1) = some (.int .i64 (st.m:Int)),(cellHead h4d).2.1,?_⟩
  refine NilCk.mk (LoadS.sc (s:=.int .i64) (x:=(st.m:Int)) (fun w' hw=>hw) ?_)
  refine NilCk.mk (Ret.call (find_rep h4d hfz) ?_)
  rintro _ w5 ⟨rfl,h5,hc5⟩
  have ht5:=(ht4.nil (Chg.drew w4)).chg hc5 fun k hk hp=>by have:=htB k hk; have:=hB k (hpaB k hp); omega
  have hz5:w5.heap[b1]? = some zeroAut:=hc5.heap (w:=w4.drew) hz4 fun hk=>by have:=hB _ (hpaB _ hk); omega
  have he5:=hc5.heap (w:=w4.drew) he4 fun hk=>by have:=hB _ (hpaB _ hk); omega
  have hc05:=(hc4.then (Chg.drew w4)).then (hF hc5 fun i hi=>.inl (hpaB i hi))
  refine ⟨(cellHead h5).2.1,?_⟩
  refine Calls.mono (numbered_ret ht5 (by omega) hm hf) ?_
  rintro e w6 ⟨hc6,hres⟩
  have hc06:=hc05.then (hF hc6 fun i hi=>.inr (htB i hi))
  have hb1f:¬ tfoot ⟨some ⟨g,0,none⟩,st.next.length,st.next.length⟩ sls b1:=fun hk=>by rcases ht5.at27 hk hz5 with h | h <;> exact absurd h (by decide)
  have hb3f:¬ tfoot ⟨some ⟨g,0,none⟩,st.next.length,st.next.length⟩ sls b3:=fun hk=>by rcases ht5.at27 hk he5 with h | h <;> exact absurd h (by decide)
  have hz6:w6.heap[b1]? = some zeroAut:=hc6.heap hz5 hb1f
  have he6:=hc6.heap he5 hb3f
  have hfin:∀ {S:Nat → Prop} {wa:World},Chg S w6 wa → (∀ i,S i → w.heap.size ≤ i) → Chg (M.foot fb) w wa:=fun hc hs=>hc06.trans hc (fun i hi hk=>hk.elim id fun h=>by omega) fun i hi hk=>by have:=hs i hk; omega
  cases res with
  | some nexts=>
   obtain ⟨sa,sn,rfl,haut⟩:=hres
   refine ⟨((st.m:Int),(0:Int),sa,sn,()),rfl,?_⟩
   have h6c:w6.cell? ((at0 fb).add 1) = some (.int .i64 (st.m:Int)):=hc6.cell (cellHead h5).2.1 fun hk=>by have h1:=htB _ hk; rw [add_block] at h1; have h2:w.heap.size ≤ fb:=h1; have:=hB fb (.inl rfl); omega
   refine ⟨h6c,?_⟩
   refine StoreN.whole (vs:=[.int .i64 (st.m:Int),.int .i64 0,sa.v,sn.v]) hz6 rfl fun w7 hh7 hc7 _=>?_
   have hfb1:fb ≠ b1:=fun he=>by have:=hB fb (.inl rfl); omega
   refine ⟨hc7.cell h6c fun hk=>by rw [add_block] at hk; exact hfb1 hk,?_⟩
   have he7:=hc7.heap he6 fun he=>ne_of_elem he6 hz6 (by decide) he
   have:=Store1.at (b:=b3) he7 0 (by show 0 < 1; decide) (v:=.int .i64 0) (cs':=#[.int .i64 0]) rfl (K:=fun w8=>[dfr w.heap.size (w.heap.size + 1)] = [dfr w.heap.size (w.heap.size + 1)] ∧ endD (madePost w (M.foot fb) st.m (some nexts)) w.heap.size (w.heap.size + 1) .returning w8) fun w8 hh8 hc8 _=>⟨rfl,?_⟩
   ·rw [add0] at this
    have e1:w.heap.size = b1:=hb1.symm
    have e3:b1 + 1 = b3:=by omega
    rw [e1,e3] at this ⊢
    exact this
   ·have e1:w.heap.size = b1:=hb1.symm
    have e3:b1 + 1 = b3:=by omega
    rw [e1,e3]
    refine endD_ret (hc8.heap hh7 fun he=>ne_of_elem hh7 he7 (by decide) he) rfl hh8 ?_
    refine ⟨hfin ((hc7.mono (T:=fun i=>i = b1 ∨ i = b3) fun _ _ h=>.inl h).then (hc8.mono fun _ _ h=>.inr h)) fun i hi=>(by rcases hi with hi | hi <;> omega),sa,sn,rfl,?_⟩
    have s5:=hc05.size
    have hlt1:b1 < w5.heap.size:=lt_of_heap hz5
    have hlt3:b3 < w5.heap.size:=lt_of_heap he5
    exact (((haut.chg hc7 fun k hk he=>by have he:k = b1:=he; omega).chg hc8 fun k hk he=>by have he:k = b3:=he; omega)).mono s5
  | none=>
   have hres:e = .panicked tooBig:=hres
   subst hres
   have e1:w.heap.size = b1:=hb1.symm
   have e3:b1 + 1 = b3:=by omega
   rw [e1,e3]
   refine ⟨rfl,?_⟩
   refine endD_panic hz6 rfl he6 fun w7 hc7=>⟨hfin hc7 fun i hi=>(by rcases hi with hi | hi <;> omega),rfl⟩
end Go.Proofs.YtffdjfkekdoeaaaDoor.Fo
end
