/- Parts of a proof, laid one behind the other by our own merge.py: Sh8 LwStays. -/
import Derived.Test.YtffdjfkekdoeaaaDoorYs1
import Derived.Test.YtffdjfkekdoeaaaDoorProg
import Derived.KernelRfl
import Derived.Test.YtffdjfkekdoeaaaDoorYs5
import Derived.Test.YtffdjfkekdoeaaaDoorYs4
import Derived.Test.YtffdjfkekdoeaaaDoorYs3
set_option linter.unusedVariables false
set_option linter.unusedSimpArgs false
section
set_option maxRecDepth 10000
namespace Go.Proofs.YtffdjfkekdoeaaaDoor
open Fw
noncomputable def cayleylaw21_FoldStays.ann:Ann where
 loops:=fun | 19=>[(1,.sc .sl),(7,.sc .adr),(8,.sc .adr),(11,.sc .sl),(12,.sc .adr),(13,.sc .adr),(14,.sc (.int .i64))] | _=>[]
 joins:=fun | 3=>some [(0,.sc (.int .i64)),(1,.sc .sl),(4,.sc .str),(7,.sc .adr),(8,.sc .adr)] | _=>none
noncomputable def cayleylaw21_FoldStays.body:Code:=match Tryd.f10.body with | some c=>c | none=>.skip
def cayleylaw21_FoldStays.sh (p0:Int) (p1:Sl) (p2_0:Int) (p2_1:Int) (p2_2:Sl) (p2_3:Sl) (p3_0:Int) (p3_1:Int) (p3_2:Sl) (p3_3:Sl) (p4:ByteArray) (R:Ending → World → Prop) (w:World):Prop:=
 New w (.cells #[(.int .i64 p2_0),(.int .i64 p2_1),(.slice p2_2.a p2_2.n p2_2.c),(.slice p2_3.a p2_3.n p2_3.c)] 27) fun b1 w2=>
 New w2 (.cells #[(.int .i64 p3_0),(.int .i64 p3_1),(.slice p3_2.a p3_2.n p3_2.c),(.slice p3_3.a p3_3.n p3_3.c)] 27) fun b3 w4=>
 Join (σ:=Int × Sl × ByteArray × Addr × Addr × Unit) (fun j7 g6 w12=>
  New w12 (.cells #[] 9) fun b13 w14=>
  RunT Tryd.prog (.sc .sl) (Builtin.append_ #[22,22] 22 #[(.slice (some (Addr.mk b13 0 none)) 0 0),(.slice j7.2.1.a j7.2.1.n j7.2.1.c)]) w14 fun r15 w16=>
  ∃ S17:World → Prop,S17 w16.drew ∧
  (LoadS S17 (.agg [.int .i64,.int .i64,.sl,.sl]) j7.2.2.2.1 fun x18=>
  LoadS S17 (.agg [.int .i64,.int .i64,.sl,.sl]) j7.2.2.2.2.1 fun x19=>
  (CallT Tryd.prog 42 #[(.agg #[(.int .i64 x18.1),(.int .i64 x18.2.1),(.slice x18.2.2.1.a x18.2.2.1.n x18.2.2.1.c),(.slice x18.2.2.2.1.a x18.2.2.2.1.n x18.2.2.2.1.c)])] (.agg [.int .i64,.int .i64,.sl,.sl]) w16.drew (fun r20 w21=>
    S17 w21 ∧
    ((CallT Tryd.prog 42 #[(.agg #[(.int .i64 x19.1),(.int .i64 x19.2.1),(.slice x19.2.2.1.a x19.2.2.1.n x19.2.2.1.c),(.slice x19.2.2.2.1.a x19.2.2.2.1.n x19.2.2.2.1.c)])] (.agg [.int .i64,.int .i64,.sl,.sl]) w21 (fun r23 w24=>
      S17 w24 ∧
      ((New w24 (.cells #[(.int .i64 0),(.int .i64 0),(.slice none 0 0),(.slice none 0 0)] 27) fun b26 w27=>
       S17 w27 ∧
       (New w27 (.cells #[(.int .i64 0),(.int .i64 0),(.slice none 0 0),(.slice none 0 0)] 27) fun b28 w29=>
        S17 w29 ∧
        (StoreN w29 (Addr.mk b26 0 none) [(.int .i64 r20.1),(.int .i64 r20.2.1),(.slice r20.2.2.1.a r20.2.2.1.n r20.2.2.1.c),(.slice r20.2.2.2.1.a r20.2.2.2.1.n r20.2.2.2.1.c)] fun w30=>
         S17 w30 ∧
         (StoreN w30 (Addr.mk b28 0 none) [(.int .i64 r23.1),(.int .i64 r23.2.1),(.slice r23.2.2.1.a r23.2.2.1.n r23.2.2.1.c),(.slice r23.2.2.2.1.a r23.2.2.2.1.n r23.2.2.2.1.c)] fun w31=>
          CallN Tryd.prog 12 #[(.int .i64 j7.1),(.slice j7.2.1.a j7.2.1.n j7.2.1.c)] [.agg [.int .i64,.int .i64,.sl,.sl],.sc (.int .i64)] w31 (fun r32 w33=>
           LoadT (.agg [.int .i64,.int .i64,.sl,.sl]) w33 j7.2.2.2.1 fun x35=>
           CallT Tryd.prog 29 #[(.int .i64 j7.1),(.agg #[(.int .i64 x35.1),(.int .i64 x35.2.1),(.slice x35.2.2.1.a x35.2.2.1.n x35.2.2.1.c),(.slice x35.2.2.2.1.a x35.2.2.2.1.n x35.2.2.2.1.c)])] (.sc (.int .i64)) w33 (fun r36 w37=>
            LoadT (.agg [.int .i64,.int .i64,.sl,.sl]) w37 j7.2.2.2.1 fun x39=>
            CallN Tryd.prog 20 #[(.int .i64 j7.1),(.agg #[(.int .i64 x39.1),(.int .i64 x39.2.1),(.slice x39.2.2.1.a x39.2.2.1.n x39.2.2.1.c),(.slice x39.2.2.2.1.a x39.2.2.2.1.n x39.2.2.2.1.c)]),(.string j7.2.2.1)] [.sc .bool,.sc (.int .i64)] w37 (fun r40 w41=>
             LoadT (.agg [.int .i64,.int .i64,.sl,.sl]) w41 j7.2.2.2.1 fun x43=>
             CallN Tryd.prog 17 #[(.int .i64 j7.1),(.agg #[(.int .i64 x43.1),(.int .i64 x43.2.1),(.slice x43.2.2.1.a x43.2.2.1.n x43.2.2.1.c),(.slice x43.2.2.2.1.a x43.2.2.2.1.n x43.2.2.2.1.c)])] [.sc .sl,.sc (.int .i64)] w41 (fun r44 w45=>
              LoadT (.agg [.int .i64,.int .i64,.sl,.sl]) w45 j7.2.2.2.1 fun x47=>
              CallN Tryd.prog 21 #[(.int .i64 j7.1),(.agg #[(.int .i64 x47.1),(.int .i64 x47.2.1),(.slice x47.2.2.1.a x47.2.2.1.n x47.2.2.1.c),(.slice x47.2.2.2.1.a x47.2.2.2.1.n x47.2.2.2.1.c)]),(.string j7.2.2.1)] [.sc .sl,.sc (.int .i64)] w45 (fun r48 w49=>
               LoadT (.agg [.int .i64,.int .i64,.sl,.sl]) w49 j7.2.2.2.1 fun x51=>
               CallN Tryd.prog 26 #[(.int .i64 j7.1),(.agg #[(.int .i64 x51.1),(.int .i64 x51.2.1),(.slice x51.2.2.1.a x51.2.2.1.n x51.2.2.1.c),(.slice x51.2.2.2.1.a x51.2.2.2.1.n x51.2.2.2.1.c)])] [.sc (.int .i64),.sc (.int .i64)] w49 (fun r52 w53=>
                LoadT (.agg [.int .i64,.int .i64,.sl,.sl]) w53 j7.2.2.2.1 fun x55=>
                CallN Tryd.prog 28 #[(.int .i64 j7.1),(.agg #[(.int .i64 x55.1),(.int .i64 x55.2.1),(.slice x55.2.2.1.a x55.2.2.1.n x55.2.2.1.c),(.slice x55.2.2.2.1.a x55.2.2.2.1.n x55.2.2.2.1.c)]),(.string j7.2.2.1)] [.sc .str,.sc (.int .i64)] w53 (fun r56 w57=>
                 LoadT (.agg [.int .i64,.int .i64,.sl,.sl]) w57 j7.2.2.2.1 fun x59=>
                 LoadT (.agg [.int .i64,.int .i64,.sl,.sl]) w57 j7.2.2.2.2.1 fun x60=>
                 CallN Tryd.prog 33 #[(.int .i64 j7.1),(.agg #[(.int .i64 x59.1),(.int .i64 x59.2.1),(.slice x59.2.2.1.a x59.2.2.1.n x59.2.2.1.c),(.slice x59.2.2.2.1.a x59.2.2.2.1.n x59.2.2.2.1.c)]),(.agg #[(.int .i64 x60.1),(.int .i64 x60.2.1),(.slice x60.2.2.1.a x60.2.2.1.n x60.2.2.1.c),(.slice x60.2.2.2.1.a x60.2.2.2.1.n x60.2.2.2.1.c)])] [.agg [.int .i64,.int .i64,.sl,.sl],.sc (.int .i64)] w57 (fun r61 w62=>
                  LoadT (.agg [.int .i64,.int .i64,.sl,.sl]) w62 j7.2.2.2.1 fun x64=>
                  LoadT (.agg [.int .i64,.int .i64,.sl,.sl]) w62 j7.2.2.2.2.1 fun x65=>
                  CallN Tryd.prog 34 #[(.int .i64 j7.1),(.agg #[(.int .i64 x64.1),(.int .i64 x64.2.1),(.slice x64.2.2.1.a x64.2.2.1.n x64.2.2.1.c),(.slice x64.2.2.2.1.a x64.2.2.2.1.n x64.2.2.2.1.c)]),(.agg #[(.int .i64 x65.1),(.int .i64 x65.2.1),(.slice x65.2.2.1.a x65.2.2.1.n x65.2.2.1.c),(.slice x65.2.2.2.1.a x65.2.2.2.1.n x65.2.2.2.1.c)])] [.agg [.int .i64,.int .i64,.sl,.sl],.sc (.int .i64)] w62 (fun r66 w67=>
                   LoadT (.agg [.int .i64,.int .i64,.sl,.sl]) w67 j7.2.2.2.1 fun x69=>
                   CallN Tryd.prog 38 #[(.int .i64 j7.1),(.agg #[(.int .i64 x69.1),(.int .i64 x69.2.1),(.slice x69.2.2.1.a x69.2.2.1.n x69.2.2.1.c),(.slice x69.2.2.2.1.a x69.2.2.2.1.n x69.2.2.2.1.c)]),(.string j7.2.2.1)] [.agg [.int .i64,.int .i64,.sl,.sl],.sc (.int .i64)] w67 (fun r70 w71=>
                    LoadT (.agg [.int .i64,.int .i64,.sl,.sl]) w71 j7.2.2.2.1 fun x73=>
                    LoadT (.agg [.int .i64,.int .i64,.sl,.sl]) w71 j7.2.2.2.2.1 fun x74=>
                    CallN Tryd.prog 39 #[(.int .i64 j7.1),(.agg #[(.int .i64 x73.1),(.int .i64 x73.2.1),(.slice x73.2.2.1.a x73.2.2.1.n x73.2.2.1.c),(.slice x73.2.2.2.1.a x73.2.2.2.1.n x73.2.2.2.1.c)]),(.agg #[(.int .i64 x74.1),(.int .i64 x74.2.1),(.slice x74.2.2.1.a x74.2.2.1.n x74.2.2.1.c),(.slice x74.2.2.2.1.a x74.2.2.2.1.n x74.2.2.2.1.c)])] [.sc .str,.sc .bool,.sc (.int .i64)] w71 (fun r75 w76=>
                     Br ((((j7.2.1.n:Nat):Int):Int) != ((r15.n:Nat):Int))
                      (R (.returned (.bool false)) w76)
                      (LoopT (σ:=Sl × Addr × Addr × Sl × Addr × Addr × Int × Unit) (j7.2.1,j7.2.2.2.1,j7.2.2.2.2.1,r15,(Addr.mk b26 0 none),(Addr.mk b28 0 none),0,()) w76 fun l78 g79 w80 I81=>
                       Br (decide ((l78.2.2.2.2.2.2.1:Int) < ((l78.2.2.2.1.n:Nat):Int)))
                        (Idx l78.1.a l78.1.n 1 l78.2.2.2.2.2.2.1 fun a82=>
                        LoadT (.sc .str) w80.drew a82 fun x83=>
                        Idx l78.2.2.2.1.a l78.2.2.2.1.n 1 l78.2.2.2.2.2.2.1 fun a84=>
                        LoadT (.sc .str) w80.drew a84 fun x85=>
                        Br (!(x83.toList == x85.toList))
                         (R (.returned (.bool false)) w80.drew)
                         (I81 (l78.1,l78.2.1,l78.2.2.1,l78.2.2.2.1,l78.2.2.2.2.1,l78.2.2.2.2.2.1,(IntKind.wrap .i64 (l78.2.2.2.2.2.2.1 + 1)),()) w80.drew))
                        (CallT Tryd.prog 14 #[] (.sc .bool) w80 (fun r86 w87=>
                         Br r86
                          (LoadT (.agg [.int .i64,.int .i64,.sl,.sl]) w87 l78.2.1 fun x89=>
                          LoadT (.agg [.int .i64,.int .i64,.sl,.sl]) w87 l78.2.2.2.2.1 fun x90=>
                          CallT Tryd.prog 43 #[(.agg #[(.int .i64 x89.1),(.int .i64 x89.2.1),(.slice x89.2.2.1.a x89.2.2.1.n x89.2.2.1.c),(.slice x89.2.2.2.1.a x89.2.2.2.1.n x89.2.2.2.1.c)]),(.agg #[(.int .i64 x90.1),(.int .i64 x90.2.1),(.slice x90.2.2.1.a x90.2.2.1.n x90.2.2.1.c),(.slice x90.2.2.2.1.a x90.2.2.2.1.n x90.2.2.2.1.c)])] (.sc .bool) w87 (fun r91 w92=>
                           Br r91
                            (LoadT (.agg [.int .i64,.int .i64,.sl,.sl]) w92 l78.2.2.1 fun x94=>
                            LoadT (.agg [.int .i64,.int .i64,.sl,.sl]) w92 l78.2.2.2.2.2.1 fun x95=>
                            CallT Tryd.prog 43 #[(.agg #[(.int .i64 x94.1),(.int .i64 x94.2.1),(.slice x94.2.2.1.a x94.2.2.1.n x94.2.2.1.c),(.slice x94.2.2.2.1.a x94.2.2.2.1.n x94.2.2.2.1.c)]),(.agg #[(.int .i64 x95.1),(.int .i64 x95.2.1),(.slice x95.2.2.1.a x95.2.2.1.n x95.2.2.1.c),(.slice x95.2.2.2.1.a x95.2.2.2.1.n x95.2.2.2.1.c)])] (.sc .bool) w92 (fun r96 w97=>
                             R (.returned (.bool r96)) w97) (fun h98 w97=>R (.panicked h98) w97))
                            (R (.returned (.bool false)) w92)) (fun h93 w92=>R (.panicked h93) w92))
                          (R (.returned (.bool false)) w87)) (fun h88 w87=>R (.panicked h88) w87)))) (fun h77 w76=>R (.panicked h77) w76)) (fun h72 w71=>R (.panicked h72) w71)) (fun h68 w67=>R (.panicked h68) w67)) (fun h63 w62=>R (.panicked h63) w62)) (fun h58 w57=>R (.panicked h58) w57)) (fun h54 w53=>R (.panicked h54) w53)) (fun h50 w49=>R (.panicked h50) w49)) (fun h46 w45=>R (.panicked h46) w45)) (fun h42 w41=>R (.panicked h42) w41)) (fun h38 w37=>R (.panicked h38) w37)) (fun h34 w33=>R (.panicked h34) w33))))) ∧
      (New w24 (.cells #[(.int .i64 0),(.int .i64 0),(.slice none 0 0),(.slice none 0 0)] 27) fun b99 w100=>
       S17 w100 ∧
       (New w100 (.cells #[(.int .i64 0),(.int .i64 0),(.slice none 0 0),(.slice none 0 0)] 27) fun b101 w102=>
        S17 w102 ∧
        (StoreN w102 (Addr.mk b101 0 none) [(.int .i64 r20.1),(.int .i64 r20.2.1),(.slice r20.2.2.1.a r20.2.2.1.n r20.2.2.1.c),(.slice r20.2.2.2.1.a r20.2.2.2.1.n r20.2.2.2.1.c)] fun w103=>
         S17 w103 ∧
         (StoreN w103 (Addr.mk b99 0 none) [(.int .i64 r23.1),(.int .i64 r23.2.1),(.slice r23.2.2.1.a r23.2.2.1.n r23.2.2.1.c),(.slice r23.2.2.2.1.a r23.2.2.2.1.n r23.2.2.2.1.c)] fun w104=>
          CallN Tryd.prog 12 #[(.int .i64 j7.1),(.slice j7.2.1.a j7.2.1.n j7.2.1.c)] [.agg [.int .i64,.int .i64,.sl,.sl],.sc (.int .i64)] w104 (fun r105 w106=>
           LoadT (.agg [.int .i64,.int .i64,.sl,.sl]) w106 j7.2.2.2.1 fun x108=>
           CallT Tryd.prog 29 #[(.int .i64 j7.1),(.agg #[(.int .i64 x108.1),(.int .i64 x108.2.1),(.slice x108.2.2.1.a x108.2.2.1.n x108.2.2.1.c),(.slice x108.2.2.2.1.a x108.2.2.2.1.n x108.2.2.2.1.c)])] (.sc (.int .i64)) w106 (fun r109 w110=>
            LoadT (.agg [.int .i64,.int .i64,.sl,.sl]) w110 j7.2.2.2.1 fun x112=>
            CallN Tryd.prog 20 #[(.int .i64 j7.1),(.agg #[(.int .i64 x112.1),(.int .i64 x112.2.1),(.slice x112.2.2.1.a x112.2.2.1.n x112.2.2.1.c),(.slice x112.2.2.2.1.a x112.2.2.2.1.n x112.2.2.2.1.c)]),(.string j7.2.2.1)] [.sc .bool,.sc (.int .i64)] w110 (fun r113 w114=>
             LoadT (.agg [.int .i64,.int .i64,.sl,.sl]) w114 j7.2.2.2.1 fun x116=>
             CallN Tryd.prog 17 #[(.int .i64 j7.1),(.agg #[(.int .i64 x116.1),(.int .i64 x116.2.1),(.slice x116.2.2.1.a x116.2.2.1.n x116.2.2.1.c),(.slice x116.2.2.2.1.a x116.2.2.2.1.n x116.2.2.2.1.c)])] [.sc .sl,.sc (.int .i64)] w114 (fun r117 w118=>
              LoadT (.agg [.int .i64,.int .i64,.sl,.sl]) w118 j7.2.2.2.1 fun x120=>
              CallN Tryd.prog 21 #[(.int .i64 j7.1),(.agg #[(.int .i64 x120.1),(.int .i64 x120.2.1),(.slice x120.2.2.1.a x120.2.2.1.n x120.2.2.1.c),(.slice x120.2.2.2.1.a x120.2.2.2.1.n x120.2.2.2.1.c)]),(.string j7.2.2.1)] [.sc .sl,.sc (.int .i64)] w118 (fun r121 w122=>
               LoadT (.agg [.int .i64,.int .i64,.sl,.sl]) w122 j7.2.2.2.1 fun x124=>
               CallN Tryd.prog 26 #[(.int .i64 j7.1),(.agg #[(.int .i64 x124.1),(.int .i64 x124.2.1),(.slice x124.2.2.1.a x124.2.2.1.n x124.2.2.1.c),(.slice x124.2.2.2.1.a x124.2.2.2.1.n x124.2.2.2.1.c)])] [.sc (.int .i64),.sc (.int .i64)] w122 (fun r125 w126=>
                LoadT (.agg [.int .i64,.int .i64,.sl,.sl]) w126 j7.2.2.2.1 fun x128=>
                CallN Tryd.prog 28 #[(.int .i64 j7.1),(.agg #[(.int .i64 x128.1),(.int .i64 x128.2.1),(.slice x128.2.2.1.a x128.2.2.1.n x128.2.2.1.c),(.slice x128.2.2.2.1.a x128.2.2.2.1.n x128.2.2.2.1.c)]),(.string j7.2.2.1)] [.sc .str,.sc (.int .i64)] w126 (fun r129 w130=>
                 LoadT (.agg [.int .i64,.int .i64,.sl,.sl]) w130 j7.2.2.2.1 fun x132=>
                 LoadT (.agg [.int .i64,.int .i64,.sl,.sl]) w130 j7.2.2.2.2.1 fun x133=>
                 CallN Tryd.prog 33 #[(.int .i64 j7.1),(.agg #[(.int .i64 x132.1),(.int .i64 x132.2.1),(.slice x132.2.2.1.a x132.2.2.1.n x132.2.2.1.c),(.slice x132.2.2.2.1.a x132.2.2.2.1.n x132.2.2.2.1.c)]),(.agg #[(.int .i64 x133.1),(.int .i64 x133.2.1),(.slice x133.2.2.1.a x133.2.2.1.n x133.2.2.1.c),(.slice x133.2.2.2.1.a x133.2.2.2.1.n x133.2.2.2.1.c)])] [.agg [.int .i64,.int .i64,.sl,.sl],.sc (.int .i64)] w130 (fun r134 w135=>
                  LoadT (.agg [.int .i64,.int .i64,.sl,.sl]) w135 j7.2.2.2.1 fun x137=>
                  LoadT (.agg [.int .i64,.int .i64,.sl,.sl]) w135 j7.2.2.2.2.1 fun x138=>
                  CallN Tryd.prog 34 #[(.int .i64 j7.1),(.agg #[(.int .i64 x137.1),(.int .i64 x137.2.1),(.slice x137.2.2.1.a x137.2.2.1.n x137.2.2.1.c),(.slice x137.2.2.2.1.a x137.2.2.2.1.n x137.2.2.2.1.c)]),(.agg #[(.int .i64 x138.1),(.int .i64 x138.2.1),(.slice x138.2.2.1.a x138.2.2.1.n x138.2.2.1.c),(.slice x138.2.2.2.1.a x138.2.2.2.1.n x138.2.2.2.1.c)])] [.agg [.int .i64,.int .i64,.sl,.sl],.sc (.int .i64)] w135 (fun r139 w140=>
                   LoadT (.agg [.int .i64,.int .i64,.sl,.sl]) w140 j7.2.2.2.1 fun x142=>
                   CallN Tryd.prog 38 #[(.int .i64 j7.1),(.agg #[(.int .i64 x142.1),(.int .i64 x142.2.1),(.slice x142.2.2.1.a x142.2.2.1.n x142.2.2.1.c),(.slice x142.2.2.2.1.a x142.2.2.2.1.n x142.2.2.2.1.c)]),(.string j7.2.2.1)] [.agg [.int .i64,.int .i64,.sl,.sl],.sc (.int .i64)] w140 (fun r143 w144=>
                    LoadT (.agg [.int .i64,.int .i64,.sl,.sl]) w144 j7.2.2.2.1 fun x146=>
                    LoadT (.agg [.int .i64,.int .i64,.sl,.sl]) w144 j7.2.2.2.2.1 fun x147=>
                    CallN Tryd.prog 39 #[(.int .i64 j7.1),(.agg #[(.int .i64 x146.1),(.int .i64 x146.2.1),(.slice x146.2.2.1.a x146.2.2.1.n x146.2.2.1.c),(.slice x146.2.2.2.1.a x146.2.2.2.1.n x146.2.2.2.1.c)]),(.agg #[(.int .i64 x147.1),(.int .i64 x147.2.1),(.slice x147.2.2.1.a x147.2.2.1.n x147.2.2.1.c),(.slice x147.2.2.2.1.a x147.2.2.2.1.n x147.2.2.2.1.c)])] [.sc .str,.sc .bool,.sc (.int .i64)] w144 (fun r148 w149=>
                     Br ((((j7.2.1.n:Nat):Int):Int) != ((r15.n:Nat):Int))
                      (R (.returned (.bool false)) w149)
                      (LoopT (σ:=Sl × Addr × Addr × Sl × Addr × Addr × Int × Unit) (j7.2.1,j7.2.2.2.1,j7.2.2.2.2.1,r15,(Addr.mk b101 0 none),(Addr.mk b99 0 none),0,()) w149 fun l151 g152 w153 I154=>
                       Br (decide ((l151.2.2.2.2.2.2.1:Int) < ((l151.2.2.2.1.n:Nat):Int)))
                        (Idx l151.1.a l151.1.n 1 l151.2.2.2.2.2.2.1 fun a155=>
                        LoadT (.sc .str) w153.drew a155 fun x156=>
                        Idx l151.2.2.2.1.a l151.2.2.2.1.n 1 l151.2.2.2.2.2.2.1 fun a157=>
                        LoadT (.sc .str) w153.drew a157 fun x158=>
                        Br (!(x156.toList == x158.toList))
                         (R (.returned (.bool false)) w153.drew)
                         (I154 (l151.1,l151.2.1,l151.2.2.1,l151.2.2.2.1,l151.2.2.2.2.1,l151.2.2.2.2.2.1,(IntKind.wrap .i64 (l151.2.2.2.2.2.2.1 + 1)),()) w153.drew))
                        (CallT Tryd.prog 14 #[] (.sc .bool) w153 (fun r159 w160=>
                         Br r159
                          (LoadT (.agg [.int .i64,.int .i64,.sl,.sl]) w160 l151.2.1 fun x162=>
                          LoadT (.agg [.int .i64,.int .i64,.sl,.sl]) w160 l151.2.2.2.2.1 fun x163=>
                          CallT Tryd.prog 43 #[(.agg #[(.int .i64 x162.1),(.int .i64 x162.2.1),(.slice x162.2.2.1.a x162.2.2.1.n x162.2.2.1.c),(.slice x162.2.2.2.1.a x162.2.2.2.1.n x162.2.2.2.1.c)]),(.agg #[(.int .i64 x163.1),(.int .i64 x163.2.1),(.slice x163.2.2.1.a x163.2.2.1.n x163.2.2.1.c),(.slice x163.2.2.2.1.a x163.2.2.2.1.n x163.2.2.2.1.c)])] (.sc .bool) w160 (fun r164 w165=>
                           Br r164
                            (LoadT (.agg [.int .i64,.int .i64,.sl,.sl]) w165 l151.2.2.1 fun x167=>
                            LoadT (.agg [.int .i64,.int .i64,.sl,.sl]) w165 l151.2.2.2.2.2.1 fun x168=>
                            CallT Tryd.prog 43 #[(.agg #[(.int .i64 x167.1),(.int .i64 x167.2.1),(.slice x167.2.2.1.a x167.2.2.1.n x167.2.2.1.c),(.slice x167.2.2.2.1.a x167.2.2.2.1.n x167.2.2.2.1.c)]),(.agg #[(.int .i64 x168.1),(.int .i64 x168.2.1),(.slice x168.2.2.1.a x168.2.2.1.n x168.2.2.1.c),(.slice x168.2.2.2.1.a x168.2.2.2.1.n x168.2.2.2.1.c)])] (.sc .bool) w165 (fun r169 w170=>
                             R (.returned (.bool r169)) w170) (fun h171 w170=>R (.panicked h171) w170))
                            (R (.returned (.bool false)) w165)) (fun h166 w165=>R (.panicked h166) w165))
                          (R (.returned (.bool false)) w160)) (fun h161 w160=>R (.panicked h161) w160)))) (fun h150 w149=>R (.panicked h150) w149)) (fun h145 w144=>R (.panicked h145) w144)) (fun h141 w140=>R (.panicked h141) w140)) (fun h136 w135=>R (.panicked h136) w135)) (fun h131 w130=>R (.panicked h131) w130)) (fun h127 w126=>R (.panicked h127) w126)) (fun h123 w122=>R (.panicked h123) w122)) (fun h119 w118=>R (.panicked h119) w118)) (fun h115 w114=>R (.panicked h115) w114)) (fun h111 w110=>R (.panicked h111) w110)) (fun h107 w106=>R (.panicked h107) w106))))))) (fun h25 w24=>R (.panicked h25) w24)) ∧
    (New w21 (.cells #[(.int .i64 0),(.int .i64 0),(.slice none 0 0),(.slice none 0 0)] 27) fun b172 w173=>
     S17 w173 ∧
     ((CallT Tryd.prog 42 #[(.agg #[(.int .i64 x19.1),(.int .i64 x19.2.1),(.slice x19.2.2.1.a x19.2.2.1.n x19.2.2.1.c),(.slice x19.2.2.2.1.a x19.2.2.2.1.n x19.2.2.2.1.c)])] (.agg [.int .i64,.int .i64,.sl,.sl]) w173 (fun r174 w175=>
       S17 w175 ∧
       (New w175 (.cells #[(.int .i64 0),(.int .i64 0),(.slice none 0 0),(.slice none 0 0)] 27) fun b177 w178=>
        S17 w178 ∧
        (StoreN w178 (Addr.mk b172 0 none) [(.int .i64 r20.1),(.int .i64 r20.2.1),(.slice r20.2.2.1.a r20.2.2.1.n r20.2.2.1.c),(.slice r20.2.2.2.1.a r20.2.2.2.1.n r20.2.2.2.1.c)] fun w179=>
         S17 w179 ∧
         (StoreN w179 (Addr.mk b177 0 none) [(.int .i64 r174.1),(.int .i64 r174.2.1),(.slice r174.2.2.1.a r174.2.2.1.n r174.2.2.1.c),(.slice r174.2.2.2.1.a r174.2.2.2.1.n r174.2.2.2.1.c)] fun w180=>
          CallN Tryd.prog 12 #[(.int .i64 j7.1),(.slice j7.2.1.a j7.2.1.n j7.2.1.c)] [.agg [.int .i64,.int .i64,.sl,.sl],.sc (.int .i64)] w180 (fun r181 w182=>
           LoadT (.agg [.int .i64,.int .i64,.sl,.sl]) w182 j7.2.2.2.1 fun x184=>
           CallT Tryd.prog 29 #[(.int .i64 j7.1),(.agg #[(.int .i64 x184.1),(.int .i64 x184.2.1),(.slice x184.2.2.1.a x184.2.2.1.n x184.2.2.1.c),(.slice x184.2.2.2.1.a x184.2.2.2.1.n x184.2.2.2.1.c)])] (.sc (.int .i64)) w182 (fun r185 w186=>
            LoadT (.agg [.int .i64,.int .i64,.sl,.sl]) w186 j7.2.2.2.1 fun x188=>
            CallN Tryd.prog 20 #[(.int .i64 j7.1),(.agg #[(.int .i64 x188.1),(.int .i64 x188.2.1),(.slice x188.2.2.1.a x188.2.2.1.n x188.2.2.1.c),(.slice x188.2.2.2.1.a x188.2.2.2.1.n x188.2.2.2.1.c)]),(.string j7.2.2.1)] [.sc .bool,.sc (.int .i64)] w186 (fun r189 w190=>
             LoadT (.agg [.int .i64,.int .i64,.sl,.sl]) w190 j7.2.2.2.1 fun x192=>
             CallN Tryd.prog 17 #[(.int .i64 j7.1),(.agg #[(.int .i64 x192.1),(.int .i64 x192.2.1),(.slice x192.2.2.1.a x192.2.2.1.n x192.2.2.1.c),(.slice x192.2.2.2.1.a x192.2.2.2.1.n x192.2.2.2.1.c)])] [.sc .sl,.sc (.int .i64)] w190 (fun r193 w194=>
              LoadT (.agg [.int .i64,.int .i64,.sl,.sl]) w194 j7.2.2.2.1 fun x196=>
              CallN Tryd.prog 21 #[(.int .i64 j7.1),(.agg #[(.int .i64 x196.1),(.int .i64 x196.2.1),(.slice x196.2.2.1.a x196.2.2.1.n x196.2.2.1.c),(.slice x196.2.2.2.1.a x196.2.2.2.1.n x196.2.2.2.1.c)]),(.string j7.2.2.1)] [.sc .sl,.sc (.int .i64)] w194 (fun r197 w198=>
               LoadT (.agg [.int .i64,.int .i64,.sl,.sl]) w198 j7.2.2.2.1 fun x200=>
               CallN Tryd.prog 26 #[(.int .i64 j7.1),(.agg #[(.int .i64 x200.1),(.int .i64 x200.2.1),(.slice x200.2.2.1.a x200.2.2.1.n x200.2.2.1.c),(.slice x200.2.2.2.1.a x200.2.2.2.1.n x200.2.2.2.1.c)])] [.sc (.int .i64),.sc (.int .i64)] w198 (fun r201 w202=>
                LoadT (.agg [.int .i64,.int .i64,.sl,.sl]) w202 j7.2.2.2.1 fun x204=>
                CallN Tryd.prog 28 #[(.int .i64 j7.1),(.agg #[(.int .i64 x204.1),(.int .i64 x204.2.1),(.slice x204.2.2.1.a x204.2.2.1.n x204.2.2.1.c),(.slice x204.2.2.2.1.a x204.2.2.2.1.n x204.2.2.2.1.c)]),(.string j7.2.2.1)] [.sc .str,.sc (.int .i64)] w202 (fun r205 w206=>
                 LoadT (.agg [.int .i64,.int .i64,.sl,.sl]) w206 j7.2.2.2.1 fun x208=>
                 LoadT (.agg [.int .i64,.int .i64,.sl,.sl]) w206 j7.2.2.2.2.1 fun x209=>
                 CallN Tryd.prog 33 #[(.int .i64 j7.1),(.agg #[(.int .i64 x208.1),(.int .i64 x208.2.1),(.slice x208.2.2.1.a x208.2.2.1.n x208.2.2.1.c),(.slice x208.2.2.2.1.a x208.2.2.2.1.n x208.2.2.2.1.c)]),(.agg #[(.int .i64 x209.1),(.int .i64 x209.2.1),(.slice x209.2.2.1.a x209.2.2.1.n x209.2.2.1.c),(.slice x209.2.2.2.1.a x209.2.2.2.1.n x209.2.2.2.1.c)])] [.agg [.int .i64,.int .i64,.sl,.sl],.sc (.int .i64)] w206 (fun r210 w211=>
                  LoadT (.agg [.int .i64,.int .i64,.sl,.sl]) w211 j7.2.2.2.1 fun x213=>
                  LoadT (.agg [.int .i64,.int .i64,.sl,.sl]) w211 j7.2.2.2.2.1 fun x214=>
                  CallN Tryd.prog 34 #[(.int .i64 j7.1),(.agg #[(.int .i64 x213.1),(.int .i64 x213.2.1),(.slice x213.2.2.1.a x213.2.2.1.n x213.2.2.1.c),(.slice x213.2.2.2.1.a x213.2.2.2.1.n x213.2.2.2.1.c)]),(.agg #[(.int .i64 x214.1),(.int .i64 x214.2.1),(.slice x214.2.2.1.a x214.2.2.1.n x214.2.2.1.c),(.slice x214.2.2.2.1.a x214.2.2.2.1.n x214.2.2.2.1.c)])] [.agg [.int .i64,.int .i64,.sl,.sl],.sc (.int .i64)] w211 (fun r215 w216=>
                   LoadT (.agg [.int .i64,.int .i64,.sl,.sl]) w216 j7.2.2.2.1 fun x218=>
                   CallN Tryd.prog 38 #[(.int .i64 j7.1),(.agg #[(.int .i64 x218.1),(.int .i64 x218.2.1),(.slice x218.2.2.1.a x218.2.2.1.n x218.2.2.1.c),(.slice x218.2.2.2.1.a x218.2.2.2.1.n x218.2.2.2.1.c)]),(.string j7.2.2.1)] [.agg [.int .i64,.int .i64,.sl,.sl],.sc (.int .i64)] w216 (fun r219 w220=>
                    LoadT (.agg [.int .i64,.int .i64,.sl,.sl]) w220 j7.2.2.2.1 fun x222=>
                    LoadT (.agg [.int .i64,.int .i64,.sl,.sl]) w220 j7.2.2.2.2.1 fun x223=>
                    CallN Tryd.prog 39 #[(.int .i64 j7.1),(.agg #[(.int .i64 x222.1),(.int .i64 x222.2.1),(.slice x222.2.2.1.a x222.2.2.1.n x222.2.2.1.c),(.slice x222.2.2.2.1.a x222.2.2.2.1.n x222.2.2.2.1.c)]),(.agg #[(.int .i64 x223.1),(.int .i64 x223.2.1),(.slice x223.2.2.1.a x223.2.2.1.n x223.2.2.1.c),(.slice x223.2.2.2.1.a x223.2.2.2.1.n x223.2.2.2.1.c)])] [.sc .str,.sc .bool,.sc (.int .i64)] w220 (fun r224 w225=>
                     Br ((((j7.2.1.n:Nat):Int):Int) != ((r15.n:Nat):Int))
                      (R (.returned (.bool false)) w225)
                      (LoopT (σ:=Sl × Addr × Addr × Sl × Addr × Addr × Int × Unit) (j7.2.1,j7.2.2.2.1,j7.2.2.2.2.1,r15,(Addr.mk b172 0 none),(Addr.mk b177 0 none),0,()) w225 fun l227 g228 w229 I230=>
                       Br (decide ((l227.2.2.2.2.2.2.1:Int) < ((l227.2.2.2.1.n:Nat):Int)))
                        (Idx l227.1.a l227.1.n 1 l227.2.2.2.2.2.2.1 fun a231=>
                        LoadT (.sc .str) w229.drew a231 fun x232=>
                        Idx l227.2.2.2.1.a l227.2.2.2.1.n 1 l227.2.2.2.2.2.2.1 fun a233=>
                        LoadT (.sc .str) w229.drew a233 fun x234=>
                        Br (!(x232.toList == x234.toList))
                         (R (.returned (.bool false)) w229.drew)
                         (I230 (l227.1,l227.2.1,l227.2.2.1,l227.2.2.2.1,l227.2.2.2.2.1,l227.2.2.2.2.2.1,(IntKind.wrap .i64 (l227.2.2.2.2.2.2.1 + 1)),()) w229.drew))
                        (CallT Tryd.prog 14 #[] (.sc .bool) w229 (fun r235 w236=>
                         Br r235
                          (LoadT (.agg [.int .i64,.int .i64,.sl,.sl]) w236 l227.2.1 fun x238=>
                          LoadT (.agg [.int .i64,.int .i64,.sl,.sl]) w236 l227.2.2.2.2.1 fun x239=>
                          CallT Tryd.prog 43 #[(.agg #[(.int .i64 x238.1),(.int .i64 x238.2.1),(.slice x238.2.2.1.a x238.2.2.1.n x238.2.2.1.c),(.slice x238.2.2.2.1.a x238.2.2.2.1.n x238.2.2.2.1.c)]),(.agg #[(.int .i64 x239.1),(.int .i64 x239.2.1),(.slice x239.2.2.1.a x239.2.2.1.n x239.2.2.1.c),(.slice x239.2.2.2.1.a x239.2.2.2.1.n x239.2.2.2.1.c)])] (.sc .bool) w236 (fun r240 w241=>
                           Br r240
                            (LoadT (.agg [.int .i64,.int .i64,.sl,.sl]) w241 l227.2.2.1 fun x243=>
                            LoadT (.agg [.int .i64,.int .i64,.sl,.sl]) w241 l227.2.2.2.2.2.1 fun x244=>
                            CallT Tryd.prog 43 #[(.agg #[(.int .i64 x243.1),(.int .i64 x243.2.1),(.slice x243.2.2.1.a x243.2.2.1.n x243.2.2.1.c),(.slice x243.2.2.2.1.a x243.2.2.2.1.n x243.2.2.2.1.c)]),(.agg #[(.int .i64 x244.1),(.int .i64 x244.2.1),(.slice x244.2.2.1.a x244.2.2.1.n x244.2.2.1.c),(.slice x244.2.2.2.1.a x244.2.2.2.1.n x244.2.2.2.1.c)])] (.sc .bool) w241 (fun r245 w246=>
                             R (.returned (.bool r245)) w246) (fun h247 w246=>R (.panicked h247) w246))
                            (R (.returned (.bool false)) w241)) (fun h242 w241=>R (.panicked h242) w241))
                          (R (.returned (.bool false)) w236)) (fun h237 w236=>R (.panicked h237) w236)))) (fun h226 w225=>R (.panicked h226) w225)) (fun h221 w220=>R (.panicked h221) w220)) (fun h217 w216=>R (.panicked h217) w216)) (fun h212 w211=>R (.panicked h212) w211)) (fun h207 w206=>R (.panicked h207) w206)) (fun h203 w202=>R (.panicked h203) w202)) (fun h199 w198=>R (.panicked h199) w198)) (fun h195 w194=>R (.panicked h195) w194)) (fun h191 w190=>R (.panicked h191) w190)) (fun h187 w186=>R (.panicked h187) w186)) (fun h183 w182=>R (.panicked h183) w182))))) (fun h176 w175=>R (.panicked h176) w175)) ∧
     (New w173 (.cells #[(.int .i64 0),(.int .i64 0),(.slice none 0 0),(.slice none 0 0)] 27) fun b248 w249=>
      S17 w249 ∧
      (CallT Tryd.prog 42 #[(.agg #[(.int .i64 x19.1),(.int .i64 x19.2.1),(.slice x19.2.2.1.a x19.2.2.1.n x19.2.2.1.c),(.slice x19.2.2.2.1.a x19.2.2.2.1.n x19.2.2.2.1.c)])] (.agg [.int .i64,.int .i64,.sl,.sl]) w249 (fun r250 w251=>
        S17 w251 ∧
        (StoreN w251 (Addr.mk b172 0 none) [(.int .i64 r20.1),(.int .i64 r20.2.1),(.slice r20.2.2.1.a r20.2.2.1.n r20.2.2.1.c),(.slice r20.2.2.2.1.a r20.2.2.2.1.n r20.2.2.2.1.c)] fun w253=>
         S17 w253 ∧
         (StoreN w253 (Addr.mk b248 0 none) [(.int .i64 r250.1),(.int .i64 r250.2.1),(.slice r250.2.2.1.a r250.2.2.1.n r250.2.2.1.c),(.slice r250.2.2.2.1.a r250.2.2.2.1.n r250.2.2.2.1.c)] fun w254=>
          CallN Tryd.prog 12 #[(.int .i64 j7.1),(.slice j7.2.1.a j7.2.1.n j7.2.1.c)] [.agg [.int .i64,.int .i64,.sl,.sl],.sc (.int .i64)] w254 (fun r255 w256=>
           LoadT (.agg [.int .i64,.int .i64,.sl,.sl]) w256 j7.2.2.2.1 fun x258=>
           CallT Tryd.prog 29 #[(.int .i64 j7.1),(.agg #[(.int .i64 x258.1),(.int .i64 x258.2.1),(.slice x258.2.2.1.a x258.2.2.1.n x258.2.2.1.c),(.slice x258.2.2.2.1.a x258.2.2.2.1.n x258.2.2.2.1.c)])] (.sc (.int .i64)) w256 (fun r259 w260=>
            LoadT (.agg [.int .i64,.int .i64,.sl,.sl]) w260 j7.2.2.2.1 fun x262=>
            CallN Tryd.prog 20 #[(.int .i64 j7.1),(.agg #[(.int .i64 x262.1),(.int .i64 x262.2.1),(.slice x262.2.2.1.a x262.2.2.1.n x262.2.2.1.c),(.slice x262.2.2.2.1.a x262.2.2.2.1.n x262.2.2.2.1.c)]),(.string j7.2.2.1)] [.sc .bool,.sc (.int .i64)] w260 (fun r263 w264=>
             LoadT (.agg [.int .i64,.int .i64,.sl,.sl]) w264 j7.2.2.2.1 fun x266=>
             CallN Tryd.prog 17 #[(.int .i64 j7.1),(.agg #[(.int .i64 x266.1),(.int .i64 x266.2.1),(.slice x266.2.2.1.a x266.2.2.1.n x266.2.2.1.c),(.slice x266.2.2.2.1.a x266.2.2.2.1.n x266.2.2.2.1.c)])] [.sc .sl,.sc (.int .i64)] w264 (fun r267 w268=>
              LoadT (.agg [.int .i64,.int .i64,.sl,.sl]) w268 j7.2.2.2.1 fun x270=>
              CallN Tryd.prog 21 #[(.int .i64 j7.1),(.agg #[(.int .i64 x270.1),(.int .i64 x270.2.1),(.slice x270.2.2.1.a x270.2.2.1.n x270.2.2.1.c),(.slice x270.2.2.2.1.a x270.2.2.2.1.n x270.2.2.2.1.c)]),(.string j7.2.2.1)] [.sc .sl,.sc (.int .i64)] w268 (fun r271 w272=>
               LoadT (.agg [.int .i64,.int .i64,.sl,.sl]) w272 j7.2.2.2.1 fun x274=>
               CallN Tryd.prog 26 #[(.int .i64 j7.1),(.agg #[(.int .i64 x274.1),(.int .i64 x274.2.1),(.slice x274.2.2.1.a x274.2.2.1.n x274.2.2.1.c),(.slice x274.2.2.2.1.a x274.2.2.2.1.n x274.2.2.2.1.c)])] [.sc (.int .i64),.sc (.int .i64)] w272 (fun r275 w276=>
                LoadT (.agg [.int .i64,.int .i64,.sl,.sl]) w276 j7.2.2.2.1 fun x278=>
                CallN Tryd.prog 28 #[(.int .i64 j7.1),(.agg #[(.int .i64 x278.1),(.int .i64 x278.2.1),(.slice x278.2.2.1.a x278.2.2.1.n x278.2.2.1.c),(.slice x278.2.2.2.1.a x278.2.2.2.1.n x278.2.2.2.1.c)]),(.string j7.2.2.1)] [.sc .str,.sc (.int .i64)] w276 (fun r279 w280=>
                 LoadT (.agg [.int .i64,.int .i64,.sl,.sl]) w280 j7.2.2.2.1 fun x282=>
                 LoadT (.agg [.int .i64,.int .i64,.sl,.sl]) w280 j7.2.2.2.2.1 fun x283=>
                 CallN Tryd.prog 33 #[(.int .i64 j7.1),(.agg #[(.int .i64 x282.1),(.int .i64 x282.2.1),(.slice x282.2.2.1.a x282.2.2.1.n x282.2.2.1.c),(.slice x282.2.2.2.1.a x282.2.2.2.1.n x282.2.2.2.1.c)]),(.agg #[(.int .i64 x283.1),(.int .i64 x283.2.1),(.slice x283.2.2.1.a x283.2.2.1.n x283.2.2.1.c),(.slice x283.2.2.2.1.a x283.2.2.2.1.n x283.2.2.2.1.c)])] [.agg [.int .i64,.int .i64,.sl,.sl],.sc (.int .i64)] w280 (fun r284 w285=>
                  LoadT (.agg [.int .i64,.int .i64,.sl,.sl]) w285 j7.2.2.2.1 fun x287=>
                  LoadT (.agg [.int .i64,.int .i64,.sl,.sl]) w285 j7.2.2.2.2.1 fun x288=>
                  CallN Tryd.prog 34 #[(.int .i64 j7.1),(.agg #[(.int .i64 x287.1),(.int .i64 x287.2.1),(.slice x287.2.2.1.a x287.2.2.1.n x287.2.2.1.c),(.slice x287.2.2.2.1.a x287.2.2.2.1.n x287.2.2.2.1.c)]),(.agg #[(.int .i64 x288.1),(.int .i64 x288.2.1),(.slice x288.2.2.1.a x288.2.2.1.n x288.2.2.1.c),(.slice x288.2.2.2.1.a x288.2.2.2.1.n x288.2.2.2.1.c)])] [.agg [.int .i64,.int .i64,.sl,.sl],.sc (.int .i64)] w285 (fun r289 w290=>
                   LoadT (.agg [.int .i64,.int .i64,.sl,.sl]) w290 j7.2.2.2.1 fun x292=>
                   CallN Tryd.prog 38 #[(.int .i64 j7.1),(.agg #[(.int .i64 x292.1),(.int .i64 x292.2.1),(.slice x292.2.2.1.a x292.2.2.1.n x292.2.2.1.c),(.slice x292.2.2.2.1.a x292.2.2.2.1.n x292.2.2.2.1.c)]),(.string j7.2.2.1)] [.agg [.int .i64,.int .i64,.sl,.sl],.sc (.int .i64)] w290 (fun r293 w294=>
                    LoadT (.agg [.int .i64,.int .i64,.sl,.sl]) w294 j7.2.2.2.1 fun x296=>
                    LoadT (.agg [.int .i64,.int .i64,.sl,.sl]) w294 j7.2.2.2.2.1 fun x297=>
                    CallN Tryd.prog 39 #[(.int .i64 j7.1),(.agg #[(.int .i64 x296.1),(.int .i64 x296.2.1),(.slice x296.2.2.1.a x296.2.2.1.n x296.2.2.1.c),(.slice x296.2.2.2.1.a x296.2.2.2.1.n x296.2.2.2.1.c)]),(.agg #[(.int .i64 x297.1),(.int .i64 x297.2.1),(.slice x297.2.2.1.a x297.2.2.1.n x297.2.2.1.c),(.slice x297.2.2.2.1.a x297.2.2.2.1.n x297.2.2.2.1.c)])] [.sc .str,.sc .bool,.sc (.int .i64)] w294 (fun r298 w299=>
                     Br ((((j7.2.1.n:Nat):Int):Int) != ((r15.n:Nat):Int))
                      (R (.returned (.bool false)) w299)
                      (LoopT (σ:=Sl × Addr × Addr × Sl × Addr × Addr × Int × Unit) (j7.2.1,j7.2.2.2.1,j7.2.2.2.2.1,r15,(Addr.mk b172 0 none),(Addr.mk b248 0 none),0,()) w299 fun l301 g302 w303 I304=>
                       Br (decide ((l301.2.2.2.2.2.2.1:Int) < ((l301.2.2.2.1.n:Nat):Int)))
                        (Idx l301.1.a l301.1.n 1 l301.2.2.2.2.2.2.1 fun a305=>
                        LoadT (.sc .str) w303.drew a305 fun x306=>
                        Idx l301.2.2.2.1.a l301.2.2.2.1.n 1 l301.2.2.2.2.2.2.1 fun a307=>
                        LoadT (.sc .str) w303.drew a307 fun x308=>
                        Br (!(x306.toList == x308.toList))
                         (R (.returned (.bool false)) w303.drew)
                         (I304 (l301.1,l301.2.1,l301.2.2.1,l301.2.2.2.1,l301.2.2.2.2.1,l301.2.2.2.2.2.1,(IntKind.wrap .i64 (l301.2.2.2.2.2.2.1 + 1)),()) w303.drew))
                        (CallT Tryd.prog 14 #[] (.sc .bool) w303 (fun r309 w310=>
                         Br r309
                          (LoadT (.agg [.int .i64,.int .i64,.sl,.sl]) w310 l301.2.1 fun x312=>
                          LoadT (.agg [.int .i64,.int .i64,.sl,.sl]) w310 l301.2.2.2.2.1 fun x313=>
                          CallT Tryd.prog 43 #[(.agg #[(.int .i64 x312.1),(.int .i64 x312.2.1),(.slice x312.2.2.1.a x312.2.2.1.n x312.2.2.1.c),(.slice x312.2.2.2.1.a x312.2.2.2.1.n x312.2.2.2.1.c)]),(.agg #[(.int .i64 x313.1),(.int .i64 x313.2.1),(.slice x313.2.2.1.a x313.2.2.1.n x313.2.2.1.c),(.slice x313.2.2.2.1.a x313.2.2.2.1.n x313.2.2.2.1.c)])] (.sc .bool) w310 (fun r314 w315=>
                           Br r314
                            (LoadT (.agg [.int .i64,.int .i64,.sl,.sl]) w315 l301.2.2.1 fun x317=>
                            LoadT (.agg [.int .i64,.int .i64,.sl,.sl]) w315 l301.2.2.2.2.2.1 fun x318=>
                            CallT Tryd.prog 43 #[(.agg #[(.int .i64 x317.1),(.int .i64 x317.2.1),(.slice x317.2.2.1.a x317.2.2.1.n x317.2.2.1.c),(.slice x317.2.2.2.1.a x317.2.2.2.1.n x317.2.2.2.1.c)]),(.agg #[(.int .i64 x318.1),(.int .i64 x318.2.1),(.slice x318.2.2.1.a x318.2.2.1.n x318.2.2.1.c),(.slice x318.2.2.2.1.a x318.2.2.2.1.n x318.2.2.2.1.c)])] (.sc .bool) w315 (fun r319 w320=>
                             R (.returned (.bool r319)) w320) (fun h321 w320=>R (.panicked h321) w320))
                            (R (.returned (.bool false)) w315)) (fun h316 w315=>R (.panicked h316) w315))
                          (R (.returned (.bool false)) w310)) (fun h311 w310=>R (.panicked h311) w310)))) (fun h300 w299=>R (.panicked h300) w299)) (fun h295 w294=>R (.panicked h295) w294)) (fun h291 w290=>R (.panicked h291) w290)) (fun h286 w285=>R (.panicked h286) w285)) (fun h281 w280=>R (.panicked h281) w280)) (fun h277 w276=>R (.panicked h277) w276)) (fun h273 w272=>R (.panicked h273) w272)) (fun h269 w268=>R (.panicked h269) w268)) (fun h265 w264=>R (.panicked h265) w264)) (fun h261 w260=>R (.panicked h261) w260)) (fun h257 w256=>R (.panicked h257) w256)))) (fun h252 w251=>R (.panicked h252) w251))))) ∧
    (New w21 (.cells #[(.int .i64 0),(.int .i64 0),(.slice none 0 0),(.slice none 0 0)] 27) fun b322 w323=>
     S17 w323 ∧
     ((CallT Tryd.prog 42 #[(.agg #[(.int .i64 x19.1),(.int .i64 x19.2.1),(.slice x19.2.2.1.a x19.2.2.1.n x19.2.2.1.c),(.slice x19.2.2.2.1.a x19.2.2.2.1.n x19.2.2.2.1.c)])] (.agg [.int .i64,.int .i64,.sl,.sl]) w323 (fun r324 w325=>
       S17 w325 ∧
       (New w325 (.cells #[(.int .i64 0),(.int .i64 0),(.slice none 0 0),(.slice none 0 0)] 27) fun b327 w328=>
        S17 w328 ∧
        (StoreN w328 (Addr.mk b327 0 none) [(.int .i64 r20.1),(.int .i64 r20.2.1),(.slice r20.2.2.1.a r20.2.2.1.n r20.2.2.1.c),(.slice r20.2.2.2.1.a r20.2.2.2.1.n r20.2.2.2.1.c)] fun w329=>
         S17 w329 ∧
         (StoreN w329 (Addr.mk b322 0 none) [(.int .i64 r324.1),(.int .i64 r324.2.1),(.slice r324.2.2.1.a r324.2.2.1.n r324.2.2.1.c),(.slice r324.2.2.2.1.a r324.2.2.2.1.n r324.2.2.2.1.c)] fun w330=>
          CallN Tryd.prog 12 #[(.int .i64 j7.1),(.slice j7.2.1.a j7.2.1.n j7.2.1.c)] [.agg [.int .i64,.int .i64,.sl,.sl],.sc (.int .i64)] w330 (fun r331 w332=>
           LoadT (.agg [.int .i64,.int .i64,.sl,.sl]) w332 j7.2.2.2.1 fun x334=>
           CallT Tryd.prog 29 #[(.int .i64 j7.1),(.agg #[(.int .i64 x334.1),(.int .i64 x334.2.1),(.slice x334.2.2.1.a x334.2.2.1.n x334.2.2.1.c),(.slice x334.2.2.2.1.a x334.2.2.2.1.n x334.2.2.2.1.c)])] (.sc (.int .i64)) w332 (fun r335 w336=>
            LoadT (.agg [.int .i64,.int .i64,.sl,.sl]) w336 j7.2.2.2.1 fun x338=>
            CallN Tryd.prog 20 #[(.int .i64 j7.1),(.agg #[(.int .i64 x338.1),(.int .i64 x338.2.1),(.slice x338.2.2.1.a x338.2.2.1.n x338.2.2.1.c),(.slice x338.2.2.2.1.a x338.2.2.2.1.n x338.2.2.2.1.c)]),(.string j7.2.2.1)] [.sc .bool,.sc (.int .i64)] w336 (fun r339 w340=>
             LoadT (.agg [.int .i64,.int .i64,.sl,.sl]) w340 j7.2.2.2.1 fun x342=>
             CallN Tryd.prog 17 #[(.int .i64 j7.1),(.agg #[(.int .i64 x342.1),(.int .i64 x342.2.1),(.slice x342.2.2.1.a x342.2.2.1.n x342.2.2.1.c),(.slice x342.2.2.2.1.a x342.2.2.2.1.n x342.2.2.2.1.c)])] [.sc .sl,.sc (.int .i64)] w340 (fun r343 w344=>
              LoadT (.agg [.int .i64,.int .i64,.sl,.sl]) w344 j7.2.2.2.1 fun x346=>
              CallN Tryd.prog 21 #[(.int .i64 j7.1),(.agg #[(.int .i64 x346.1),(.int .i64 x346.2.1),(.slice x346.2.2.1.a x346.2.2.1.n x346.2.2.1.c),(.slice x346.2.2.2.1.a x346.2.2.2.1.n x346.2.2.2.1.c)]),(.string j7.2.2.1)] [.sc .sl,.sc (.int .i64)] w344 (fun r347 w348=>
               LoadT (.agg [.int .i64,.int .i64,.sl,.sl]) w348 j7.2.2.2.1 fun x350=>
               CallN Tryd.prog 26 #[(.int .i64 j7.1),(.agg #[(.int .i64 x350.1),(.int .i64 x350.2.1),(.slice x350.2.2.1.a x350.2.2.1.n x350.2.2.1.c),(.slice x350.2.2.2.1.a x350.2.2.2.1.n x350.2.2.2.1.c)])] [.sc (.int .i64),.sc (.int .i64)] w348 (fun r351 w352=>
                LoadT (.agg [.int .i64,.int .i64,.sl,.sl]) w352 j7.2.2.2.1 fun x354=>
                CallN Tryd.prog 28 #[(.int .i64 j7.1),(.agg #[(.int .i64 x354.1),(.int .i64 x354.2.1),(.slice x354.2.2.1.a x354.2.2.1.n x354.2.2.1.c),(.slice x354.2.2.2.1.a x354.2.2.2.1.n x354.2.2.2.1.c)]),(.string j7.2.2.1)] [.sc .str,.sc (.int .i64)] w352 (fun r355 w356=>
                 LoadT (.agg [.int .i64,.int .i64,.sl,.sl]) w356 j7.2.2.2.1 fun x358=>
                 LoadT (.agg [.int .i64,.int .i64,.sl,.sl]) w356 j7.2.2.2.2.1 fun x359=>
                 CallN Tryd.prog 33 #[(.int .i64 j7.1),(.agg #[(.int .i64 x358.1),(.int .i64 x358.2.1),(.slice x358.2.2.1.a x358.2.2.1.n x358.2.2.1.c),(.slice x358.2.2.2.1.a x358.2.2.2.1.n x358.2.2.2.1.c)]),(.agg #[(.int .i64 x359.1),(.int .i64 x359.2.1),(.slice x359.2.2.1.a x359.2.2.1.n x359.2.2.1.c),(.slice x359.2.2.2.1.a x359.2.2.2.1.n x359.2.2.2.1.c)])] [.agg [.int .i64,.int .i64,.sl,.sl],.sc (.int .i64)] w356 (fun r360 w361=>
                  LoadT (.agg [.int .i64,.int .i64,.sl,.sl]) w361 j7.2.2.2.1 fun x363=>
                  LoadT (.agg [.int .i64,.int .i64,.sl,.sl]) w361 j7.2.2.2.2.1 fun x364=>
                  CallN Tryd.prog 34 #[(.int .i64 j7.1),(.agg #[(.int .i64 x363.1),(.int .i64 x363.2.1),(.slice x363.2.2.1.a x363.2.2.1.n x363.2.2.1.c),(.slice x363.2.2.2.1.a x363.2.2.2.1.n x363.2.2.2.1.c)]),(.agg #[(.int .i64 x364.1),(.int .i64 x364.2.1),(.slice x364.2.2.1.a x364.2.2.1.n x364.2.2.1.c),(.slice x364.2.2.2.1.a x364.2.2.2.1.n x364.2.2.2.1.c)])] [.agg [.int .i64,.int .i64,.sl,.sl],.sc (.int .i64)] w361 (fun r365 w366=>
                   LoadT (.agg [.int .i64,.int .i64,.sl,.sl]) w366 j7.2.2.2.1 fun x368=>
                   CallN Tryd.prog 38 #[(.int .i64 j7.1),(.agg #[(.int .i64 x368.1),(.int .i64 x368.2.1),(.slice x368.2.2.1.a x368.2.2.1.n x368.2.2.1.c),(.slice x368.2.2.2.1.a x368.2.2.2.1.n x368.2.2.2.1.c)]),(.string j7.2.2.1)] [.agg [.int .i64,.int .i64,.sl,.sl],.sc (.int .i64)] w366 (fun r369 w370=>
                    LoadT (.agg [.int .i64,.int .i64,.sl,.sl]) w370 j7.2.2.2.1 fun x372=>
                    LoadT (.agg [.int .i64,.int .i64,.sl,.sl]) w370 j7.2.2.2.2.1 fun x373=>
                    CallN Tryd.prog 39 #[(.int .i64 j7.1),(.agg #[(.int .i64 x372.1),(.int .i64 x372.2.1),(.slice x372.2.2.1.a x372.2.2.1.n x372.2.2.1.c),(.slice x372.2.2.2.1.a x372.2.2.2.1.n x372.2.2.2.1.c)]),(.agg #[(.int .i64 x373.1),(.int .i64 x373.2.1),(.slice x373.2.2.1.a x373.2.2.1.n x373.2.2.1.c),(.slice x373.2.2.2.1.a x373.2.2.2.1.n x373.2.2.2.1.c)])] [.sc .str,.sc .bool,.sc (.int .i64)] w370 (fun r374 w375=>
                     Br ((((j7.2.1.n:Nat):Int):Int) != ((r15.n:Nat):Int))
                      (R (.returned (.bool false)) w375)
                      (LoopT (σ:=Sl × Addr × Addr × Sl × Addr × Addr × Int × Unit) (j7.2.1,j7.2.2.2.1,j7.2.2.2.2.1,r15,(Addr.mk b327 0 none),(Addr.mk b322 0 none),0,()) w375 fun l377 g378 w379 I380=>
                       Br (decide ((l377.2.2.2.2.2.2.1:Int) < ((l377.2.2.2.1.n:Nat):Int)))
                        (Idx l377.1.a l377.1.n 1 l377.2.2.2.2.2.2.1 fun a381=>
                        LoadT (.sc .str) w379.drew a381 fun x382=>
                        Idx l377.2.2.2.1.a l377.2.2.2.1.n 1 l377.2.2.2.2.2.2.1 fun a383=>
                        LoadT (.sc .str) w379.drew a383 fun x384=>
                        Br (!(x382.toList == x384.toList))
                         (R (.returned (.bool false)) w379.drew)
                         (I380 (l377.1,l377.2.1,l377.2.2.1,l377.2.2.2.1,l377.2.2.2.2.1,l377.2.2.2.2.2.1,(IntKind.wrap .i64 (l377.2.2.2.2.2.2.1 + 1)),()) w379.drew))
                        (CallT Tryd.prog 14 #[] (.sc .bool) w379 (fun r385 w386=>
                         Br r385
                          (LoadT (.agg [.int .i64,.int .i64,.sl,.sl]) w386 l377.2.1 fun x388=>
                          LoadT (.agg [.int .i64,.int .i64,.sl,.sl]) w386 l377.2.2.2.2.1 fun x389=>
                          CallT Tryd.prog 43 #[(.agg #[(.int .i64 x388.1),(.int .i64 x388.2.1),(.slice x388.2.2.1.a x388.2.2.1.n x388.2.2.1.c),(.slice x388.2.2.2.1.a x388.2.2.2.1.n x388.2.2.2.1.c)]),(.agg #[(.int .i64 x389.1),(.int .i64 x389.2.1),(.slice x389.2.2.1.a x389.2.2.1.n x389.2.2.1.c),(.slice x389.2.2.2.1.a x389.2.2.2.1.n x389.2.2.2.1.c)])] (.sc .bool) w386 (fun r390 w391=>
                           Br r390
                            (LoadT (.agg [.int .i64,.int .i64,.sl,.sl]) w391 l377.2.2.1 fun x393=>
                            LoadT (.agg [.int .i64,.int .i64,.sl,.sl]) w391 l377.2.2.2.2.2.1 fun x394=>
                            CallT Tryd.prog 43 #[(.agg #[(.int .i64 x393.1),(.int .i64 x393.2.1),(.slice x393.2.2.1.a x393.2.2.1.n x393.2.2.1.c),(.slice x393.2.2.2.1.a x393.2.2.2.1.n x393.2.2.2.1.c)]),(.agg #[(.int .i64 x394.1),(.int .i64 x394.2.1),(.slice x394.2.2.1.a x394.2.2.1.n x394.2.2.1.c),(.slice x394.2.2.2.1.a x394.2.2.2.1.n x394.2.2.2.1.c)])] (.sc .bool) w391 (fun r395 w396=>
                             R (.returned (.bool r395)) w396) (fun h397 w396=>R (.panicked h397) w396))
                            (R (.returned (.bool false)) w391)) (fun h392 w391=>R (.panicked h392) w391))
                          (R (.returned (.bool false)) w386)) (fun h387 w386=>R (.panicked h387) w386)))) (fun h376 w375=>R (.panicked h376) w375)) (fun h371 w370=>R (.panicked h371) w370)) (fun h367 w366=>R (.panicked h367) w366)) (fun h362 w361=>R (.panicked h362) w361)) (fun h357 w356=>R (.panicked h357) w356)) (fun h353 w352=>R (.panicked h353) w352)) (fun h349 w348=>R (.panicked h349) w348)) (fun h345 w344=>R (.panicked h345) w344)) (fun h341 w340=>R (.panicked h341) w340)) (fun h337 w336=>R (.panicked h337) w336)) (fun h333 w332=>R (.panicked h333) w332))))) (fun h326 w325=>R (.panicked h326) w325)) ∧
     (New w323 (.cells #[(.int .i64 0),(.int .i64 0),(.slice none 0 0),(.slice none 0 0)] 27) fun b398 w399=>
      S17 w399 ∧
      (CallT Tryd.prog 42 #[(.agg #[(.int .i64 x19.1),(.int .i64 x19.2.1),(.slice x19.2.2.1.a x19.2.2.1.n x19.2.2.1.c),(.slice x19.2.2.2.1.a x19.2.2.2.1.n x19.2.2.2.1.c)])] (.agg [.int .i64,.int .i64,.sl,.sl]) w399 (fun r400 w401=>
        S17 w401 ∧
        (StoreN w401 (Addr.mk b398 0 none) [(.int .i64 r20.1),(.int .i64 r20.2.1),(.slice r20.2.2.1.a r20.2.2.1.n r20.2.2.1.c),(.slice r20.2.2.2.1.a r20.2.2.2.1.n r20.2.2.2.1.c)] fun w403=>
         S17 w403 ∧
         (StoreN w403 (Addr.mk b322 0 none) [(.int .i64 r400.1),(.int .i64 r400.2.1),(.slice r400.2.2.1.a r400.2.2.1.n r400.2.2.1.c),(.slice r400.2.2.2.1.a r400.2.2.2.1.n r400.2.2.2.1.c)] fun w404=>
          CallN Tryd.prog 12 #[(.int .i64 j7.1),(.slice j7.2.1.a j7.2.1.n j7.2.1.c)] [.agg [.int .i64,.int .i64,.sl,.sl],.sc (.int .i64)] w404 (fun r405 w406=>
           LoadT (.agg [.int .i64,.int .i64,.sl,.sl]) w406 j7.2.2.2.1 fun x408=>
           CallT Tryd.prog 29 #[(.int .i64 j7.1),(.agg #[(.int .i64 x408.1),(.int .i64 x408.2.1),(.slice x408.2.2.1.a x408.2.2.1.n x408.2.2.1.c),(.slice x408.2.2.2.1.a x408.2.2.2.1.n x408.2.2.2.1.c)])] (.sc (.int .i64)) w406 (fun r409 w410=>
            LoadT (.agg [.int .i64,.int .i64,.sl,.sl]) w410 j7.2.2.2.1 fun x412=>
            CallN Tryd.prog 20 #[(.int .i64 j7.1),(.agg #[(.int .i64 x412.1),(.int .i64 x412.2.1),(.slice x412.2.2.1.a x412.2.2.1.n x412.2.2.1.c),(.slice x412.2.2.2.1.a x412.2.2.2.1.n x412.2.2.2.1.c)]),(.string j7.2.2.1)] [.sc .bool,.sc (.int .i64)] w410 (fun r413 w414=>
             LoadT (.agg [.int .i64,.int .i64,.sl,.sl]) w414 j7.2.2.2.1 fun x416=>
             CallN Tryd.prog 17 #[(.int .i64 j7.1),(.agg #[(.int .i64 x416.1),(.int .i64 x416.2.1),(.slice x416.2.2.1.a x416.2.2.1.n x416.2.2.1.c),(.slice x416.2.2.2.1.a x416.2.2.2.1.n x416.2.2.2.1.c)])] [.sc .sl,.sc (.int .i64)] w414 (fun r417 w418=>
              LoadT (.agg [.int .i64,.int .i64,.sl,.sl]) w418 j7.2.2.2.1 fun x420=>
              CallN Tryd.prog 21 #[(.int .i64 j7.1),(.agg #[(.int .i64 x420.1),(.int .i64 x420.2.1),(.slice x420.2.2.1.a x420.2.2.1.n x420.2.2.1.c),(.slice x420.2.2.2.1.a x420.2.2.2.1.n x420.2.2.2.1.c)]),(.string j7.2.2.1)] [.sc .sl,.sc (.int .i64)] w418 (fun r421 w422=>
               LoadT (.agg [.int .i64,.int .i64,.sl,.sl]) w422 j7.2.2.2.1 fun x424=>
               CallN Tryd.prog 26 #[(.int .i64 j7.1),(.agg #[(.int .i64 x424.1),(.int .i64 x424.2.1),(.slice x424.2.2.1.a x424.2.2.1.n x424.2.2.1.c),(.slice x424.2.2.2.1.a x424.2.2.2.1.n x424.2.2.2.1.c)])] [.sc (.int .i64),.sc (.int .i64)] w422 (fun r425 w426=>
                LoadT (.agg [.int .i64,.int .i64,.sl,.sl]) w426 j7.2.2.2.1 fun x428=>
                CallN Tryd.prog 28 #[(.int .i64 j7.1),(.agg #[(.int .i64 x428.1),(.int .i64 x428.2.1),(.slice x428.2.2.1.a x428.2.2.1.n x428.2.2.1.c),(.slice x428.2.2.2.1.a x428.2.2.2.1.n x428.2.2.2.1.c)]),(.string j7.2.2.1)] [.sc .str,.sc (.int .i64)] w426 (fun r429 w430=>
                 LoadT (.agg [.int .i64,.int .i64,.sl,.sl]) w430 j7.2.2.2.1 fun x432=>
                 LoadT (.agg [.int .i64,.int .i64,.sl,.sl]) w430 j7.2.2.2.2.1 fun x433=>
                 CallN Tryd.prog 33 #[(.int .i64 j7.1),(.agg #[(.int .i64 x432.1),(.int .i64 x432.2.1),(.slice x432.2.2.1.a x432.2.2.1.n x432.2.2.1.c),(.slice x432.2.2.2.1.a x432.2.2.2.1.n x432.2.2.2.1.c)]),(.agg #[(.int .i64 x433.1),(.int .i64 x433.2.1),(.slice x433.2.2.1.a x433.2.2.1.n x433.2.2.1.c),(.slice x433.2.2.2.1.a x433.2.2.2.1.n x433.2.2.2.1.c)])] [.agg [.int .i64,.int .i64,.sl,.sl],.sc (.int .i64)] w430 (fun r434 w435=>
                  LoadT (.agg [.int .i64,.int .i64,.sl,.sl]) w435 j7.2.2.2.1 fun x437=>
                  LoadT (.agg [.int .i64,.int .i64,.sl,.sl]) w435 j7.2.2.2.2.1 fun x438=>
                  CallN Tryd.prog 34 #[(.int .i64 j7.1),(.agg #[(.int .i64 x437.1),(.int .i64 x437.2.1),(.slice x437.2.2.1.a x437.2.2.1.n x437.2.2.1.c),(.slice x437.2.2.2.1.a x437.2.2.2.1.n x437.2.2.2.1.c)]),(.agg #[(.int .i64 x438.1),(.int .i64 x438.2.1),(.slice x438.2.2.1.a x438.2.2.1.n x438.2.2.1.c),(.slice x438.2.2.2.1.a x438.2.2.2.1.n x438.2.2.2.1.c)])] [.agg [.int .i64,.int .i64,.sl,.sl],.sc (.int .i64)] w435 (fun r439 w440=>
                   LoadT (.agg [.int .i64,.int .i64,.sl,.sl]) w440 j7.2.2.2.1 fun x442=>
                   CallN Tryd.prog 38 #[(.int .i64 j7.1),(.agg #[(.int .i64 x442.1),(.int .i64 x442.2.1),(.slice x442.2.2.1.a x442.2.2.1.n x442.2.2.1.c),(.slice x442.2.2.2.1.a x442.2.2.2.1.n x442.2.2.2.1.c)]),(.string j7.2.2.1)] [.agg [.int .i64,.int .i64,.sl,.sl],.sc (.int .i64)] w440 (fun r443 w444=>
                    LoadT (.agg [.int .i64,.int .i64,.sl,.sl]) w444 j7.2.2.2.1 fun x446=>
                    LoadT (.agg [.int .i64,.int .i64,.sl,.sl]) w444 j7.2.2.2.2.1 fun x447=>
                    CallN Tryd.prog 39 #[(.int .i64 j7.1),(.agg #[(.int .i64 x446.1),(.int .i64 x446.2.1),(.slice x446.2.2.1.a x446.2.2.1.n x446.2.2.1.c),(.slice x446.2.2.2.1.a x446.2.2.2.1.n x446.2.2.2.1.c)]),(.agg #[(.int .i64 x447.1),(.int .i64 x447.2.1),(.slice x447.2.2.1.a x447.2.2.1.n x447.2.2.1.c),(.slice x447.2.2.2.1.a x447.2.2.2.1.n x447.2.2.2.1.c)])] [.sc .str,.sc .bool,.sc (.int .i64)] w444 (fun r448 w449=>
                     Br ((((j7.2.1.n:Nat):Int):Int) != ((r15.n:Nat):Int))
                      (R (.returned (.bool false)) w449)
                      (LoopT (σ:=Sl × Addr × Addr × Sl × Addr × Addr × Int × Unit) (j7.2.1,j7.2.2.2.1,j7.2.2.2.2.1,r15,(Addr.mk b398 0 none),(Addr.mk b322 0 none),0,()) w449 fun l451 g452 w453 I454=>
                       Br (decide ((l451.2.2.2.2.2.2.1:Int) < ((l451.2.2.2.1.n:Nat):Int)))
                        (Idx l451.1.a l451.1.n 1 l451.2.2.2.2.2.2.1 fun a455=>
                        LoadT (.sc .str) w453.drew a455 fun x456=>
                        Idx l451.2.2.2.1.a l451.2.2.2.1.n 1 l451.2.2.2.2.2.2.1 fun a457=>
                        LoadT (.sc .str) w453.drew a457 fun x458=>
                        Br (!(x456.toList == x458.toList))
                         (R (.returned (.bool false)) w453.drew)
                         (I454 (l451.1,l451.2.1,l451.2.2.1,l451.2.2.2.1,l451.2.2.2.2.1,l451.2.2.2.2.2.1,(IntKind.wrap .i64 (l451.2.2.2.2.2.2.1 + 1)),()) w453.drew))
                        (CallT Tryd.prog 14 #[] (.sc .bool) w453 (fun r459 w460=>
                         Br r459
                          (LoadT (.agg [.int .i64,.int .i64,.sl,.sl]) w460 l451.2.1 fun x462=>
                          LoadT (.agg [.int .i64,.int .i64,.sl,.sl]) w460 l451.2.2.2.2.1 fun x463=>
                          CallT Tryd.prog 43 #[(.agg #[(.int .i64 x462.1),(.int .i64 x462.2.1),(.slice x462.2.2.1.a x462.2.2.1.n x462.2.2.1.c),(.slice x462.2.2.2.1.a x462.2.2.2.1.n x462.2.2.2.1.c)]),(.agg #[(.int .i64 x463.1),(.int .i64 x463.2.1),(.slice x463.2.2.1.a x463.2.2.1.n x463.2.2.1.c),(.slice x463.2.2.2.1.a x463.2.2.2.1.n x463.2.2.2.1.c)])] (.sc .bool) w460 (fun r464 w465=>
                           Br r464
                            (LoadT (.agg [.int .i64,.int .i64,.sl,.sl]) w465 l451.2.2.1 fun x467=>
                            LoadT (.agg [.int .i64,.int .i64,.sl,.sl]) w465 l451.2.2.2.2.2.1 fun x468=>
                            CallT Tryd.prog 43 #[(.agg #[(.int .i64 x467.1),(.int .i64 x467.2.1),(.slice x467.2.2.1.a x467.2.2.1.n x467.2.2.1.c),(.slice x467.2.2.2.1.a x467.2.2.2.1.n x467.2.2.2.1.c)]),(.agg #[(.int .i64 x468.1),(.int .i64 x468.2.1),(.slice x468.2.2.1.a x468.2.2.1.n x468.2.2.1.c),(.slice x468.2.2.2.1.a x468.2.2.2.1.n x468.2.2.2.1.c)])] (.sc .bool) w465 (fun r469 w470=>
                             R (.returned (.bool r469)) w470) (fun h471 w470=>R (.panicked h471) w470))
                            (R (.returned (.bool false)) w465)) (fun h466 w465=>R (.panicked h466) w465))
                          (R (.returned (.bool false)) w460)) (fun h461 w460=>R (.panicked h461) w460)))) (fun h450 w449=>R (.panicked h450) w449)) (fun h445 w444=>R (.panicked h445) w444)) (fun h441 w440=>R (.panicked h441) w440)) (fun h436 w435=>R (.panicked h436) w435)) (fun h431 w430=>R (.panicked h431) w430)) (fun h427 w426=>R (.panicked h427) w426)) (fun h423 w422=>R (.panicked h423) w422)) (fun h419 w418=>R (.panicked h419) w418)) (fun h415 w414=>R (.panicked h415) w414)) (fun h411 w410=>R (.panicked h411) w410)) (fun h407 w406=>R (.panicked h407) w406)))) (fun h402 w401=>R (.panicked h402) w401))))))) (fun h22 w21=>R (.panicked h22) w21)) ∧
  (New w16.drew (.cells #[(.int .i64 0),(.int .i64 0),(.slice none 0 0),(.slice none 0 0)] 27) fun b472 w473=>
   S17 w473 ∧
   ((CallT Tryd.prog 42 #[(.agg #[(.int .i64 x18.1),(.int .i64 x18.2.1),(.slice x18.2.2.1.a x18.2.2.1.n x18.2.2.1.c),(.slice x18.2.2.2.1.a x18.2.2.2.1.n x18.2.2.2.1.c)])] (.agg [.int .i64,.int .i64,.sl,.sl]) w473 (fun r474 w475=>
     S17 w475 ∧
     ((CallT Tryd.prog 42 #[(.agg #[(.int .i64 x19.1),(.int .i64 x19.2.1),(.slice x19.2.2.1.a x19.2.2.1.n x19.2.2.1.c),(.slice x19.2.2.2.1.a x19.2.2.2.1.n x19.2.2.2.1.c)])] (.agg [.int .i64,.int .i64,.sl,.sl]) w475 (fun r477 w478=>
       S17 w478 ∧
       (New w478 (.cells #[(.int .i64 0),(.int .i64 0),(.slice none 0 0),(.slice none 0 0)] 27) fun b480 w481=>
        S17 w481 ∧
        (StoreN w481 (Addr.mk b472 0 none) [(.int .i64 r474.1),(.int .i64 r474.2.1),(.slice r474.2.2.1.a r474.2.2.1.n r474.2.2.1.c),(.slice r474.2.2.2.1.a r474.2.2.2.1.n r474.2.2.2.1.c)] fun w482=>
         S17 w482 ∧
         (StoreN w482 (Addr.mk b480 0 none) [(.int .i64 r477.1),(.int .i64 r477.2.1),(.slice r477.2.2.1.a r477.2.2.1.n r477.2.2.1.c),(.slice r477.2.2.2.1.a r477.2.2.2.1.n r477.2.2.2.1.c)] fun w483=>
          CallN Tryd.prog 12 #[(.int .i64 j7.1),(.slice j7.2.1.a j7.2.1.n j7.2.1.c)] [.agg [.int .i64,.int .i64,.sl,.sl],.sc (.int .i64)] w483 (fun r484 w485=>
           LoadT (.agg [.int .i64,.int .i64,.sl,.sl]) w485 j7.2.2.2.1 fun x487=>
           CallT Tryd.prog 29 #[(.int .i64 j7.1),(.agg #[(.int .i64 x487.1),(.int .i64 x487.2.1),(.slice x487.2.2.1.a x487.2.2.1.n x487.2.2.1.c),(.slice x487.2.2.2.1.a x487.2.2.2.1.n x487.2.2.2.1.c)])] (.sc (.int .i64)) w485 (fun r488 w489=>
            LoadT (.agg [.int .i64,.int .i64,.sl,.sl]) w489 j7.2.2.2.1 fun x491=>
            CallN Tryd.prog 20 #[(.int .i64 j7.1),(.agg #[(.int .i64 x491.1),(.int .i64 x491.2.1),(.slice x491.2.2.1.a x491.2.2.1.n x491.2.2.1.c),(.slice x491.2.2.2.1.a x491.2.2.2.1.n x491.2.2.2.1.c)]),(.string j7.2.2.1)] [.sc .bool,.sc (.int .i64)] w489 (fun r492 w493=>
             LoadT (.agg [.int .i64,.int .i64,.sl,.sl]) w493 j7.2.2.2.1 fun x495=>
             CallN Tryd.prog 17 #[(.int .i64 j7.1),(.agg #[(.int .i64 x495.1),(.int .i64 x495.2.1),(.slice x495.2.2.1.a x495.2.2.1.n x495.2.2.1.c),(.slice x495.2.2.2.1.a x495.2.2.2.1.n x495.2.2.2.1.c)])] [.sc .sl,.sc (.int .i64)] w493 (fun r496 w497=>
              LoadT (.agg [.int .i64,.int .i64,.sl,.sl]) w497 j7.2.2.2.1 fun x499=>
              CallN Tryd.prog 21 #[(.int .i64 j7.1),(.agg #[(.int .i64 x499.1),(.int .i64 x499.2.1),(.slice x499.2.2.1.a x499.2.2.1.n x499.2.2.1.c),(.slice x499.2.2.2.1.a x499.2.2.2.1.n x499.2.2.2.1.c)]),(.string j7.2.2.1)] [.sc .sl,.sc (.int .i64)] w497 (fun r500 w501=>
               LoadT (.agg [.int .i64,.int .i64,.sl,.sl]) w501 j7.2.2.2.1 fun x503=>
               CallN Tryd.prog 26 #[(.int .i64 j7.1),(.agg #[(.int .i64 x503.1),(.int .i64 x503.2.1),(.slice x503.2.2.1.a x503.2.2.1.n x503.2.2.1.c),(.slice x503.2.2.2.1.a x503.2.2.2.1.n x503.2.2.2.1.c)])] [.sc (.int .i64),.sc (.int .i64)] w501 (fun r504 w505=>
                LoadT (.agg [.int .i64,.int .i64,.sl,.sl]) w505 j7.2.2.2.1 fun x507=>
                CallN Tryd.prog 28 #[(.int .i64 j7.1),(.agg #[(.int .i64 x507.1),(.int .i64 x507.2.1),(.slice x507.2.2.1.a x507.2.2.1.n x507.2.2.1.c),(.slice x507.2.2.2.1.a x507.2.2.2.1.n x507.2.2.2.1.c)]),(.string j7.2.2.1)] [.sc .str,.sc (.int .i64)] w505 (fun r508 w509=>
                 LoadT (.agg [.int .i64,.int .i64,.sl,.sl]) w509 j7.2.2.2.1 fun x511=>
                 LoadT (.agg [.int .i64,.int .i64,.sl,.sl]) w509 j7.2.2.2.2.1 fun x512=>
                 CallN Tryd.prog 33 #[(.int .i64 j7.1),(.agg #[(.int .i64 x511.1),(.int .i64 x511.2.1),(.slice x511.2.2.1.a x511.2.2.1.n x511.2.2.1.c),(.slice x511.2.2.2.1.a x511.2.2.2.1.n x511.2.2.2.1.c)]),(.agg #[(.int .i64 x512.1),(.int .i64 x512.2.1),(.slice x512.2.2.1.a x512.2.2.1.n x512.2.2.1.c),(.slice x512.2.2.2.1.a x512.2.2.2.1.n x512.2.2.2.1.c)])] [.agg [.int .i64,.int .i64,.sl,.sl],.sc (.int .i64)] w509 (fun r513 w514=>
                  LoadT (.agg [.int .i64,.int .i64,.sl,.sl]) w514 j7.2.2.2.1 fun x516=>
                  LoadT (.agg [.int .i64,.int .i64,.sl,.sl]) w514 j7.2.2.2.2.1 fun x517=>
                  CallN Tryd.prog 34 #[(.int .i64 j7.1),(.agg #[(.int .i64 x516.1),(.int .i64 x516.2.1),(.slice x516.2.2.1.a x516.2.2.1.n x516.2.2.1.c),(.slice x516.2.2.2.1.a x516.2.2.2.1.n x516.2.2.2.1.c)]),(.agg #[(.int .i64 x517.1),(.int .i64 x517.2.1),(.slice x517.2.2.1.a x517.2.2.1.n x517.2.2.1.c),(.slice x517.2.2.2.1.a x517.2.2.2.1.n x517.2.2.2.1.c)])] [.agg [.int .i64,.int .i64,.sl,.sl],.sc (.int .i64)] w514 (fun r518 w519=>
                   LoadT (.agg [.int .i64,.int .i64,.sl,.sl]) w519 j7.2.2.2.1 fun x521=>
                   CallN Tryd.prog 38 #[(.int .i64 j7.1),(.agg #[(.int .i64 x521.1),(.int .i64 x521.2.1),(.slice x521.2.2.1.a x521.2.2.1.n x521.2.2.1.c),(.slice x521.2.2.2.1.a x521.2.2.2.1.n x521.2.2.2.1.c)]),(.string j7.2.2.1)] [.agg [.int .i64,.int .i64,.sl,.sl],.sc (.int .i64)] w519 (fun r522 w523=>
                    LoadT (.agg [.int .i64,.int .i64,.sl,.sl]) w523 j7.2.2.2.1 fun x525=>
                    LoadT (.agg [.int .i64,.int .i64,.sl,.sl]) w523 j7.2.2.2.2.1 fun x526=>
                    CallN Tryd.prog 39 #[(.int .i64 j7.1),(.agg #[(.int .i64 x525.1),(.int .i64 x525.2.1),(.slice x525.2.2.1.a x525.2.2.1.n x525.2.2.1.c),(.slice x525.2.2.2.1.a x525.2.2.2.1.n x525.2.2.2.1.c)]),(.agg #[(.int .i64 x526.1),(.int .i64 x526.2.1),(.slice x526.2.2.1.a x526.2.2.1.n x526.2.2.1.c),(.slice x526.2.2.2.1.a x526.2.2.2.1.n x526.2.2.2.1.c)])] [.sc .str,.sc .bool,.sc (.int .i64)] w523 (fun r527 w528=>
                     Br ((((j7.2.1.n:Nat):Int):Int) != ((r15.n:Nat):Int))
                      (R (.returned (.bool false)) w528)
                      (LoopT (σ:=Sl × Addr × Addr × Sl × Addr × Addr × Int × Unit) (j7.2.1,j7.2.2.2.1,j7.2.2.2.2.1,r15,(Addr.mk b472 0 none),(Addr.mk b480 0 none),0,()) w528 fun l530 g531 w532 I533=>
                       Br (decide ((l530.2.2.2.2.2.2.1:Int) < ((l530.2.2.2.1.n:Nat):Int)))
                        (Idx l530.1.a l530.1.n 1 l530.2.2.2.2.2.2.1 fun a534=>
                        LoadT (.sc .str) w532.drew a534 fun x535=>
                        Idx l530.2.2.2.1.a l530.2.2.2.1.n 1 l530.2.2.2.2.2.2.1 fun a536=>
                        LoadT (.sc .str) w532.drew a536 fun x537=>
                        Br (!(x535.toList == x537.toList))
                         (R (.returned (.bool false)) w532.drew)
                         (I533 (l530.1,l530.2.1,l530.2.2.1,l530.2.2.2.1,l530.2.2.2.2.1,l530.2.2.2.2.2.1,(IntKind.wrap .i64 (l530.2.2.2.2.2.2.1 + 1)),()) w532.drew))
                        (CallT Tryd.prog 14 #[] (.sc .bool) w532 (fun r538 w539=>
                         Br r538
                          (LoadT (.agg [.int .i64,.int .i64,.sl,.sl]) w539 l530.2.1 fun x541=>
                          LoadT (.agg [.int .i64,.int .i64,.sl,.sl]) w539 l530.2.2.2.2.1 fun x542=>
                          CallT Tryd.prog 43 #[(.agg #[(.int .i64 x541.1),(.int .i64 x541.2.1),(.slice x541.2.2.1.a x541.2.2.1.n x541.2.2.1.c),(.slice x541.2.2.2.1.a x541.2.2.2.1.n x541.2.2.2.1.c)]),(.agg #[(.int .i64 x542.1),(.int .i64 x542.2.1),(.slice x542.2.2.1.a x542.2.2.1.n x542.2.2.1.c),(.slice x542.2.2.2.1.a x542.2.2.2.1.n x542.2.2.2.1.c)])] (.sc .bool) w539 (fun r543 w544=>
                           Br r543
                            (LoadT (.agg [.int .i64,.int .i64,.sl,.sl]) w544 l530.2.2.1 fun x546=>
                            LoadT (.agg [.int .i64,.int .i64,.sl,.sl]) w544 l530.2.2.2.2.2.1 fun x547=>
                            CallT Tryd.prog 43 #[(.agg #[(.int .i64 x546.1),(.int .i64 x546.2.1),(.slice x546.2.2.1.a x546.2.2.1.n x546.2.2.1.c),(.slice x546.2.2.2.1.a x546.2.2.2.1.n x546.2.2.2.1.c)]),(.agg #[(.int .i64 x547.1),(.int .i64 x547.2.1),(.slice x547.2.2.1.a x547.2.2.1.n x547.2.2.1.c),(.slice x547.2.2.2.1.a x547.2.2.2.1.n x547.2.2.2.1.c)])] (.sc .bool) w544 (fun r548 w549=>
                             R (.returned (.bool r548)) w549) (fun h550 w549=>R (.panicked h550) w549))
                            (R (.returned (.bool false)) w544)) (fun h545 w544=>R (.panicked h545) w544))
                          (R (.returned (.bool false)) w539)) (fun h540 w539=>R (.panicked h540) w539)))) (fun h529 w528=>R (.panicked h529) w528)) (fun h524 w523=>R (.panicked h524) w523)) (fun h520 w519=>R (.panicked h520) w519)) (fun h515 w514=>R (.panicked h515) w514)) (fun h510 w509=>R (.panicked h510) w509)) (fun h506 w505=>R (.panicked h506) w505)) (fun h502 w501=>R (.panicked h502) w501)) (fun h498 w497=>R (.panicked h498) w497)) (fun h494 w493=>R (.panicked h494) w493)) (fun h490 w489=>R (.panicked h490) w489)) (fun h486 w485=>R (.panicked h486) w485))))) (fun h479 w478=>R (.panicked h479) w478)) ∧
     (New w475 (.cells #[(.int .i64 0),(.int .i64 0),(.slice none 0 0),(.slice none 0 0)] 27) fun b551 w552=>
      S17 w552 ∧
      (CallT Tryd.prog 42 #[(.agg #[(.int .i64 x19.1),(.int .i64 x19.2.1),(.slice x19.2.2.1.a x19.2.2.1.n x19.2.2.1.c),(.slice x19.2.2.2.1.a x19.2.2.2.1.n x19.2.2.2.1.c)])] (.agg [.int .i64,.int .i64,.sl,.sl]) w552 (fun r553 w554=>
        S17 w554 ∧
        (StoreN w554 (Addr.mk b472 0 none) [(.int .i64 r474.1),(.int .i64 r474.2.1),(.slice r474.2.2.1.a r474.2.2.1.n r474.2.2.1.c),(.slice r474.2.2.2.1.a r474.2.2.2.1.n r474.2.2.2.1.c)] fun w556=>
         S17 w556 ∧
         (StoreN w556 (Addr.mk b551 0 none) [(.int .i64 r553.1),(.int .i64 r553.2.1),(.slice r553.2.2.1.a r553.2.2.1.n r553.2.2.1.c),(.slice r553.2.2.2.1.a r553.2.2.2.1.n r553.2.2.2.1.c)] fun w557=>
          CallN Tryd.prog 12 #[(.int .i64 j7.1),(.slice j7.2.1.a j7.2.1.n j7.2.1.c)] [.agg [.int .i64,.int .i64,.sl,.sl],.sc (.int .i64)] w557 (fun r558 w559=>
           LoadT (.agg [.int .i64,.int .i64,.sl,.sl]) w559 j7.2.2.2.1 fun x561=>
           CallT Tryd.prog 29 #[(.int .i64 j7.1),(.agg #[(.int .i64 x561.1),(.int .i64 x561.2.1),(.slice x561.2.2.1.a x561.2.2.1.n x561.2.2.1.c),(.slice x561.2.2.2.1.a x561.2.2.2.1.n x561.2.2.2.1.c)])] (.sc (.int .i64)) w559 (fun r562 w563=>
            LoadT (.agg [.int .i64,.int .i64,.sl,.sl]) w563 j7.2.2.2.1 fun x565=>
            CallN Tryd.prog 20 #[(.int .i64 j7.1),(.agg #[(.int .i64 x565.1),(.int .i64 x565.2.1),(.slice x565.2.2.1.a x565.2.2.1.n x565.2.2.1.c),(.slice x565.2.2.2.1.a x565.2.2.2.1.n x565.2.2.2.1.c)]),(.string j7.2.2.1)] [.sc .bool,.sc (.int .i64)] w563 (fun r566 w567=>
             LoadT (.agg [.int .i64,.int .i64,.sl,.sl]) w567 j7.2.2.2.1 fun x569=>
             CallN Tryd.prog 17 #[(.int .i64 j7.1),(.agg #[(.int .i64 x569.1),(.int .i64 x569.2.1),(.slice x569.2.2.1.a x569.2.2.1.n x569.2.2.1.c),(.slice x569.2.2.2.1.a x569.2.2.2.1.n x569.2.2.2.1.c)])] [.sc .sl,.sc (.int .i64)] w567 (fun r570 w571=>
              LoadT (.agg [.int .i64,.int .i64,.sl,.sl]) w571 j7.2.2.2.1 fun x573=>
              CallN Tryd.prog 21 #[(.int .i64 j7.1),(.agg #[(.int .i64 x573.1),(.int .i64 x573.2.1),(.slice x573.2.2.1.a x573.2.2.1.n x573.2.2.1.c),(.slice x573.2.2.2.1.a x573.2.2.2.1.n x573.2.2.2.1.c)]),(.string j7.2.2.1)] [.sc .sl,.sc (.int .i64)] w571 (fun r574 w575=>
               LoadT (.agg [.int .i64,.int .i64,.sl,.sl]) w575 j7.2.2.2.1 fun x577=>
               CallN Tryd.prog 26 #[(.int .i64 j7.1),(.agg #[(.int .i64 x577.1),(.int .i64 x577.2.1),(.slice x577.2.2.1.a x577.2.2.1.n x577.2.2.1.c),(.slice x577.2.2.2.1.a x577.2.2.2.1.n x577.2.2.2.1.c)])] [.sc (.int .i64),.sc (.int .i64)] w575 (fun r578 w579=>
                LoadT (.agg [.int .i64,.int .i64,.sl,.sl]) w579 j7.2.2.2.1 fun x581=>
                CallN Tryd.prog 28 #[(.int .i64 j7.1),(.agg #[(.int .i64 x581.1),(.int .i64 x581.2.1),(.slice x581.2.2.1.a x581.2.2.1.n x581.2.2.1.c),(.slice x581.2.2.2.1.a x581.2.2.2.1.n x581.2.2.2.1.c)]),(.string j7.2.2.1)] [.sc .str,.sc (.int .i64)] w579 (fun r582 w583=>
                 LoadT (.agg [.int .i64,.int .i64,.sl,.sl]) w583 j7.2.2.2.1 fun x585=>
                 LoadT (.agg [.int .i64,.int .i64,.sl,.sl]) w583 j7.2.2.2.2.1 fun x586=>
                 CallN Tryd.prog 33 #[(.int .i64 j7.1),(.agg #[(.int .i64 x585.1),(.int .i64 x585.2.1),(.slice x585.2.2.1.a x585.2.2.1.n x585.2.2.1.c),(.slice x585.2.2.2.1.a x585.2.2.2.1.n x585.2.2.2.1.c)]),(.agg #[(.int .i64 x586.1),(.int .i64 x586.2.1),(.slice x586.2.2.1.a x586.2.2.1.n x586.2.2.1.c),(.slice x586.2.2.2.1.a x586.2.2.2.1.n x586.2.2.2.1.c)])] [.agg [.int .i64,.int .i64,.sl,.sl],.sc (.int .i64)] w583 (fun r587 w588=>
                  LoadT (.agg [.int .i64,.int .i64,.sl,.sl]) w588 j7.2.2.2.1 fun x590=>
                  LoadT (.agg [.int .i64,.int .i64,.sl,.sl]) w588 j7.2.2.2.2.1 fun x591=>
                  CallN Tryd.prog 34 #[(.int .i64 j7.1),(.agg #[(.int .i64 x590.1),(.int .i64 x590.2.1),(.slice x590.2.2.1.a x590.2.2.1.n x590.2.2.1.c),(.slice x590.2.2.2.1.a x590.2.2.2.1.n x590.2.2.2.1.c)]),(.agg #[(.int .i64 x591.1),(.int .i64 x591.2.1),(.slice x591.2.2.1.a x591.2.2.1.n x591.2.2.1.c),(.slice x591.2.2.2.1.a x591.2.2.2.1.n x591.2.2.2.1.c)])] [.agg [.int .i64,.int .i64,.sl,.sl],.sc (.int .i64)] w588 (fun r592 w593=>
                   LoadT (.agg [.int .i64,.int .i64,.sl,.sl]) w593 j7.2.2.2.1 fun x595=>
                   CallN Tryd.prog 38 #[(.int .i64 j7.1),(.agg #[(.int .i64 x595.1),(.int .i64 x595.2.1),(.slice x595.2.2.1.a x595.2.2.1.n x595.2.2.1.c),(.slice x595.2.2.2.1.a x595.2.2.2.1.n x595.2.2.2.1.c)]),(.string j7.2.2.1)] [.agg [.int .i64,.int .i64,.sl,.sl],.sc (.int .i64)] w593 (fun r596 w597=>
                    LoadT (.agg [.int .i64,.int .i64,.sl,.sl]) w597 j7.2.2.2.1 fun x599=>
                    LoadT (.agg [.int .i64,.int .i64,.sl,.sl]) w597 j7.2.2.2.2.1 fun x600=>
                    CallN Tryd.prog 39 #[(.int .i64 j7.1),(.agg #[(.int .i64 x599.1),(.int .i64 x599.2.1),(.slice x599.2.2.1.a x599.2.2.1.n x599.2.2.1.c),(.slice x599.2.2.2.1.a x599.2.2.2.1.n x599.2.2.2.1.c)]),(.agg #[(.int .i64 x600.1),(.int .i64 x600.2.1),(.slice x600.2.2.1.a x600.2.2.1.n x600.2.2.1.c),(.slice x600.2.2.2.1.a x600.2.2.2.1.n x600.2.2.2.1.c)])] [.sc .str,.sc .bool,.sc (.int .i64)] w597 (fun r601 w602=>
                     Br ((((j7.2.1.n:Nat):Int):Int) != ((r15.n:Nat):Int))
                      (R (.returned (.bool false)) w602)
                      (LoopT (σ:=Sl × Addr × Addr × Sl × Addr × Addr × Int × Unit) (j7.2.1,j7.2.2.2.1,j7.2.2.2.2.1,r15,(Addr.mk b472 0 none),(Addr.mk b551 0 none),0,()) w602 fun l604 g605 w606 I607=>
                       Br (decide ((l604.2.2.2.2.2.2.1:Int) < ((l604.2.2.2.1.n:Nat):Int)))
                        (Idx l604.1.a l604.1.n 1 l604.2.2.2.2.2.2.1 fun a608=>
                        LoadT (.sc .str) w606.drew a608 fun x609=>
                        Idx l604.2.2.2.1.a l604.2.2.2.1.n 1 l604.2.2.2.2.2.2.1 fun a610=>
                        LoadT (.sc .str) w606.drew a610 fun x611=>
                        Br (!(x609.toList == x611.toList))
                         (R (.returned (.bool false)) w606.drew)
                         (I607 (l604.1,l604.2.1,l604.2.2.1,l604.2.2.2.1,l604.2.2.2.2.1,l604.2.2.2.2.2.1,(IntKind.wrap .i64 (l604.2.2.2.2.2.2.1 + 1)),()) w606.drew))
                        (CallT Tryd.prog 14 #[] (.sc .bool) w606 (fun r612 w613=>
                         Br r612
                          (LoadT (.agg [.int .i64,.int .i64,.sl,.sl]) w613 l604.2.1 fun x615=>
                          LoadT (.agg [.int .i64,.int .i64,.sl,.sl]) w613 l604.2.2.2.2.1 fun x616=>
                          CallT Tryd.prog 43 #[(.agg #[(.int .i64 x615.1),(.int .i64 x615.2.1),(.slice x615.2.2.1.a x615.2.2.1.n x615.2.2.1.c),(.slice x615.2.2.2.1.a x615.2.2.2.1.n x615.2.2.2.1.c)]),(.agg #[(.int .i64 x616.1),(.int .i64 x616.2.1),(.slice x616.2.2.1.a x616.2.2.1.n x616.2.2.1.c),(.slice x616.2.2.2.1.a x616.2.2.2.1.n x616.2.2.2.1.c)])] (.sc .bool) w613 (fun r617 w618=>
                           Br r617
                            (LoadT (.agg [.int .i64,.int .i64,.sl,.sl]) w618 l604.2.2.1 fun x620=>
                            LoadT (.agg [.int .i64,.int .i64,.sl,.sl]) w618 l604.2.2.2.2.2.1 fun x621=>
                            CallT Tryd.prog 43 #[(.agg #[(.int .i64 x620.1),(.int .i64 x620.2.1),(.slice x620.2.2.1.a x620.2.2.1.n x620.2.2.1.c),(.slice x620.2.2.2.1.a x620.2.2.2.1.n x620.2.2.2.1.c)]),(.agg #[(.int .i64 x621.1),(.int .i64 x621.2.1),(.slice x621.2.2.1.a x621.2.2.1.n x621.2.2.1.c),(.slice x621.2.2.2.1.a x621.2.2.2.1.n x621.2.2.2.1.c)])] (.sc .bool) w618 (fun r622 w623=>
                             R (.returned (.bool r622)) w623) (fun h624 w623=>R (.panicked h624) w623))
                            (R (.returned (.bool false)) w618)) (fun h619 w618=>R (.panicked h619) w618))
                          (R (.returned (.bool false)) w613)) (fun h614 w613=>R (.panicked h614) w613)))) (fun h603 w602=>R (.panicked h603) w602)) (fun h598 w597=>R (.panicked h598) w597)) (fun h594 w593=>R (.panicked h594) w593)) (fun h589 w588=>R (.panicked h589) w588)) (fun h584 w583=>R (.panicked h584) w583)) (fun h580 w579=>R (.panicked h580) w579)) (fun h576 w575=>R (.panicked h576) w575)) (fun h572 w571=>R (.panicked h572) w571)) (fun h568 w567=>R (.panicked h568) w567)) (fun h564 w563=>R (.panicked h564) w563)) (fun h560 w559=>R (.panicked h560) w559)))) (fun h555 w554=>R (.panicked h555) w554))))) (fun h476 w475=>R (.panicked h476) w475)) ∧
   (New w473 (.cells #[(.int .i64 0),(.int .i64 0),(.slice none 0 0),(.slice none 0 0)] 27) fun b625 w626=>
    S17 w626 ∧
    (CallT Tryd.prog 42 #[(.agg #[(.int .i64 x18.1),(.int .i64 x18.2.1),(.slice x18.2.2.1.a x18.2.2.1.n x18.2.2.1.c),(.slice x18.2.2.2.1.a x18.2.2.2.1.n x18.2.2.2.1.c)])] (.agg [.int .i64,.int .i64,.sl,.sl]) w626 (fun r627 w628=>
      S17 w628 ∧
      (CallT Tryd.prog 42 #[(.agg #[(.int .i64 x19.1),(.int .i64 x19.2.1),(.slice x19.2.2.1.a x19.2.2.1.n x19.2.2.1.c),(.slice x19.2.2.2.1.a x19.2.2.2.1.n x19.2.2.2.1.c)])] (.agg [.int .i64,.int .i64,.sl,.sl]) w628 (fun r630 w631=>
        S17 w631 ∧
        (StoreN w631 (Addr.mk b472 0 none) [(.int .i64 r627.1),(.int .i64 r627.2.1),(.slice r627.2.2.1.a r627.2.2.1.n r627.2.2.1.c),(.slice r627.2.2.2.1.a r627.2.2.2.1.n r627.2.2.2.1.c)] fun w633=>
         S17 w633 ∧
         (StoreN w633 (Addr.mk b625 0 none) [(.int .i64 r630.1),(.int .i64 r630.2.1),(.slice r630.2.2.1.a r630.2.2.1.n r630.2.2.1.c),(.slice r630.2.2.2.1.a r630.2.2.2.1.n r630.2.2.2.1.c)] fun w634=>
          CallN Tryd.prog 12 #[(.int .i64 j7.1),(.slice j7.2.1.a j7.2.1.n j7.2.1.c)] [.agg [.int .i64,.int .i64,.sl,.sl],.sc (.int .i64)] w634 (fun r635 w636=>
           LoadT (.agg [.int .i64,.int .i64,.sl,.sl]) w636 j7.2.2.2.1 fun x638=>
           CallT Tryd.prog 29 #[(.int .i64 j7.1),(.agg #[(.int .i64 x638.1),(.int .i64 x638.2.1),(.slice x638.2.2.1.a x638.2.2.1.n x638.2.2.1.c),(.slice x638.2.2.2.1.a x638.2.2.2.1.n x638.2.2.2.1.c)])] (.sc (.int .i64)) w636 (fun r639 w640=>
            LoadT (.agg [.int .i64,.int .i64,.sl,.sl]) w640 j7.2.2.2.1 fun x642=>
            CallN Tryd.prog 20 #[(.int .i64 j7.1),(.agg #[(.int .i64 x642.1),(.int .i64 x642.2.1),(.slice x642.2.2.1.a x642.2.2.1.n x642.2.2.1.c),(.slice x642.2.2.2.1.a x642.2.2.2.1.n x642.2.2.2.1.c)]),(.string j7.2.2.1)] [.sc .bool,.sc (.int .i64)] w640 (fun r643 w644=>
             LoadT (.agg [.int .i64,.int .i64,.sl,.sl]) w644 j7.2.2.2.1 fun x646=>
             CallN Tryd.prog 17 #[(.int .i64 j7.1),(.agg #[(.int .i64 x646.1),(.int .i64 x646.2.1),(.slice x646.2.2.1.a x646.2.2.1.n x646.2.2.1.c),(.slice x646.2.2.2.1.a x646.2.2.2.1.n x646.2.2.2.1.c)])] [.sc .sl,.sc (.int .i64)] w644 (fun r647 w648=>
              LoadT (.agg [.int .i64,.int .i64,.sl,.sl]) w648 j7.2.2.2.1 fun x650=>
              CallN Tryd.prog 21 #[(.int .i64 j7.1),(.agg #[(.int .i64 x650.1),(.int .i64 x650.2.1),(.slice x650.2.2.1.a x650.2.2.1.n x650.2.2.1.c),(.slice x650.2.2.2.1.a x650.2.2.2.1.n x650.2.2.2.1.c)]),(.string j7.2.2.1)] [.sc .sl,.sc (.int .i64)] w648 (fun r651 w652=>
               LoadT (.agg [.int .i64,.int .i64,.sl,.sl]) w652 j7.2.2.2.1 fun x654=>
               CallN Tryd.prog 26 #[(.int .i64 j7.1),(.agg #[(.int .i64 x654.1),(.int .i64 x654.2.1),(.slice x654.2.2.1.a x654.2.2.1.n x654.2.2.1.c),(.slice x654.2.2.2.1.a x654.2.2.2.1.n x654.2.2.2.1.c)])] [.sc (.int .i64),.sc (.int .i64)] w652 (fun r655 w656=>
                LoadT (.agg [.int .i64,.int .i64,.sl,.sl]) w656 j7.2.2.2.1 fun x658=>
                CallN Tryd.prog 28 #[(.int .i64 j7.1),(.agg #[(.int .i64 x658.1),(.int .i64 x658.2.1),(.slice x658.2.2.1.a x658.2.2.1.n x658.2.2.1.c),(.slice x658.2.2.2.1.a x658.2.2.2.1.n x658.2.2.2.1.c)]),(.string j7.2.2.1)] [.sc .str,.sc (.int .i64)] w656 (fun r659 w660=>
                 LoadT (.agg [.int .i64,.int .i64,.sl,.sl]) w660 j7.2.2.2.1 fun x662=>
                 LoadT (.agg [.int .i64,.int .i64,.sl,.sl]) w660 j7.2.2.2.2.1 fun x663=>
                 CallN Tryd.prog 33 #[(.int .i64 j7.1),(.agg #[(.int .i64 x662.1),(.int .i64 x662.2.1),(.slice x662.2.2.1.a x662.2.2.1.n x662.2.2.1.c),(.slice x662.2.2.2.1.a x662.2.2.2.1.n x662.2.2.2.1.c)]),(.agg #[(.int .i64 x663.1),(.int .i64 x663.2.1),(.slice x663.2.2.1.a x663.2.2.1.n x663.2.2.1.c),(.slice x663.2.2.2.1.a x663.2.2.2.1.n x663.2.2.2.1.c)])] [.agg [.int .i64,.int .i64,.sl,.sl],.sc (.int .i64)] w660 (fun r664 w665=>
                  LoadT (.agg [.int .i64,.int .i64,.sl,.sl]) w665 j7.2.2.2.1 fun x667=>
                  LoadT (.agg [.int .i64,.int .i64,.sl,.sl]) w665 j7.2.2.2.2.1 fun x668=>
                  CallN Tryd.prog 34 #[(.int .i64 j7.1),(.agg #[(.int .i64 x667.1),(.int .i64 x667.2.1),(.slice x667.2.2.1.a x667.2.2.1.n x667.2.2.1.c),(.slice x667.2.2.2.1.a x667.2.2.2.1.n x667.2.2.2.1.c)]),(.agg #[(.int .i64 x668.1),(.int .i64 x668.2.1),(.slice x668.2.2.1.a x668.2.2.1.n x668.2.2.1.c),(.slice x668.2.2.2.1.a x668.2.2.2.1.n x668.2.2.2.1.c)])] [.agg [.int .i64,.int .i64,.sl,.sl],.sc (.int .i64)] w665 (fun r669 w670=>
                   LoadT (.agg [.int .i64,.int .i64,.sl,.sl]) w670 j7.2.2.2.1 fun x672=>
                   CallN Tryd.prog 38 #[(.int .i64 j7.1),(.agg #[(.int .i64 x672.1),(.int .i64 x672.2.1),(.slice x672.2.2.1.a x672.2.2.1.n x672.2.2.1.c),(.slice x672.2.2.2.1.a x672.2.2.2.1.n x672.2.2.2.1.c)]),(.string j7.2.2.1)] [.agg [.int .i64,.int .i64,.sl,.sl],.sc (.int .i64)] w670 (fun r673 w674=>
                    LoadT (.agg [.int .i64,.int .i64,.sl,.sl]) w674 j7.2.2.2.1 fun x676=>
                    LoadT (.agg [.int .i64,.int .i64,.sl,.sl]) w674 j7.2.2.2.2.1 fun x677=>
                    CallN Tryd.prog 39 #[(.int .i64 j7.1),(.agg #[(.int .i64 x676.1),(.int .i64 x676.2.1),(.slice x676.2.2.1.a x676.2.2.1.n x676.2.2.1.c),(.slice x676.2.2.2.1.a x676.2.2.2.1.n x676.2.2.2.1.c)]),(.agg #[(.int .i64 x677.1),(.int .i64 x677.2.1),(.slice x677.2.2.1.a x677.2.2.1.n x677.2.2.1.c),(.slice x677.2.2.2.1.a x677.2.2.2.1.n x677.2.2.2.1.c)])] [.sc .str,.sc .bool,.sc (.int .i64)] w674 (fun r678 w679=>
                     Br ((((j7.2.1.n:Nat):Int):Int) != ((r15.n:Nat):Int))
                      (R (.returned (.bool false)) w679)
                      (LoopT (σ:=Sl × Addr × Addr × Sl × Addr × Addr × Int × Unit) (j7.2.1,j7.2.2.2.1,j7.2.2.2.2.1,r15,(Addr.mk b472 0 none),(Addr.mk b625 0 none),0,()) w679 fun l681 g682 w683 I684=>
                       Br (decide ((l681.2.2.2.2.2.2.1:Int) < ((l681.2.2.2.1.n:Nat):Int)))
                        (Idx l681.1.a l681.1.n 1 l681.2.2.2.2.2.2.1 fun a685=>
                        LoadT (.sc .str) w683.drew a685 fun x686=>
                        Idx l681.2.2.2.1.a l681.2.2.2.1.n 1 l681.2.2.2.2.2.2.1 fun a687=>
                        LoadT (.sc .str) w683.drew a687 fun x688=>
                        Br (!(x686.toList == x688.toList))
                         (R (.returned (.bool false)) w683.drew)
                         (I684 (l681.1,l681.2.1,l681.2.2.1,l681.2.2.2.1,l681.2.2.2.2.1,l681.2.2.2.2.2.1,(IntKind.wrap .i64 (l681.2.2.2.2.2.2.1 + 1)),()) w683.drew))
                        (CallT Tryd.prog 14 #[] (.sc .bool) w683 (fun r689 w690=>
                         Br r689
                          (LoadT (.agg [.int .i64,.int .i64,.sl,.sl]) w690 l681.2.1 fun x692=>
                          LoadT (.agg [.int .i64,.int .i64,.sl,.sl]) w690 l681.2.2.2.2.1 fun x693=>
                          CallT Tryd.prog 43 #[(.agg #[(.int .i64 x692.1),(.int .i64 x692.2.1),(.slice x692.2.2.1.a x692.2.2.1.n x692.2.2.1.c),(.slice x692.2.2.2.1.a x692.2.2.2.1.n x692.2.2.2.1.c)]),(.agg #[(.int .i64 x693.1),(.int .i64 x693.2.1),(.slice x693.2.2.1.a x693.2.2.1.n x693.2.2.1.c),(.slice x693.2.2.2.1.a x693.2.2.2.1.n x693.2.2.2.1.c)])] (.sc .bool) w690 (fun r694 w695=>
                           Br r694
                            (LoadT (.agg [.int .i64,.int .i64,.sl,.sl]) w695 l681.2.2.1 fun x697=>
                            LoadT (.agg [.int .i64,.int .i64,.sl,.sl]) w695 l681.2.2.2.2.2.1 fun x698=>
                            CallT Tryd.prog 43 #[(.agg #[(.int .i64 x697.1),(.int .i64 x697.2.1),(.slice x697.2.2.1.a x697.2.2.1.n x697.2.2.1.c),(.slice x697.2.2.2.1.a x697.2.2.2.1.n x697.2.2.2.1.c)]),(.agg #[(.int .i64 x698.1),(.int .i64 x698.2.1),(.slice x698.2.2.1.a x698.2.2.1.n x698.2.2.1.c),(.slice x698.2.2.2.1.a x698.2.2.2.1.n x698.2.2.2.1.c)])] (.sc .bool) w695 (fun r699 w700=>
                             R (.returned (.bool r699)) w700) (fun h701 w700=>R (.panicked h701) w700))
                            (R (.returned (.bool false)) w695)) (fun h696 w695=>R (.panicked h696) w695))
                          (R (.returned (.bool false)) w690)) (fun h691 w690=>R (.panicked h691) w690)))) (fun h680 w679=>R (.panicked h680) w679)) (fun h675 w674=>R (.panicked h675) w674)) (fun h671 w670=>R (.panicked h671) w670)) (fun h666 w665=>R (.panicked h666) w665)) (fun h661 w660=>R (.panicked h661) w660)) (fun h657 w656=>R (.panicked h657) w656)) (fun h653 w652=>R (.panicked h653) w652)) (fun h649 w648=>R (.panicked h649) w648)) (fun h645 w644=>R (.panicked h645) w644)) (fun h641 w640=>R (.panicked h641) w640)) (fun h637 w636=>R (.panicked h637) w636)))) (fun h632 w631=>R (.panicked h632) w631))) (fun h629 w628=>R (.panicked h629) w628))))) ∧
  (New w16.drew (.cells #[(.int .i64 0),(.int .i64 0),(.slice none 0 0),(.slice none 0 0)] 27) fun b702 w703=>
   S17 w703 ∧
   ((CallT Tryd.prog 42 #[(.agg #[(.int .i64 x18.1),(.int .i64 x18.2.1),(.slice x18.2.2.1.a x18.2.2.1.n x18.2.2.1.c),(.slice x18.2.2.2.1.a x18.2.2.2.1.n x18.2.2.2.1.c)])] (.agg [.int .i64,.int .i64,.sl,.sl]) w703 (fun r704 w705=>
     S17 w705 ∧
     ((CallT Tryd.prog 42 #[(.agg #[(.int .i64 x19.1),(.int .i64 x19.2.1),(.slice x19.2.2.1.a x19.2.2.1.n x19.2.2.1.c),(.slice x19.2.2.2.1.a x19.2.2.2.1.n x19.2.2.2.1.c)])] (.agg [.int .i64,.int .i64,.sl,.sl]) w705 (fun r707 w708=>
       S17 w708 ∧
       (New w708 (.cells #[(.int .i64 0),(.int .i64 0),(.slice none 0 0),(.slice none 0 0)] 27) fun b710 w711=>
        S17 w711 ∧
        (StoreN w711 (Addr.mk b710 0 none) [(.int .i64 r704.1),(.int .i64 r704.2.1),(.slice r704.2.2.1.a r704.2.2.1.n r704.2.2.1.c),(.slice r704.2.2.2.1.a r704.2.2.2.1.n r704.2.2.2.1.c)] fun w712=>
         S17 w712 ∧
         (StoreN w712 (Addr.mk b702 0 none) [(.int .i64 r707.1),(.int .i64 r707.2.1),(.slice r707.2.2.1.a r707.2.2.1.n r707.2.2.1.c),(.slice r707.2.2.2.1.a r707.2.2.2.1.n r707.2.2.2.1.c)] fun w713=>
          CallN Tryd.prog 12 #[(.int .i64 j7.1),(.slice j7.2.1.a j7.2.1.n j7.2.1.c)] [.agg [.int .i64,.int .i64,.sl,.sl],.sc (.int .i64)] w713 (fun r714 w715=>
           LoadT (.agg [.int .i64,.int .i64,.sl,.sl]) w715 j7.2.2.2.1 fun x717=>
           CallT Tryd.prog 29 #[(.int .i64 j7.1),(.agg #[(.int .i64 x717.1),(.int .i64 x717.2.1),(.slice x717.2.2.1.a x717.2.2.1.n x717.2.2.1.c),(.slice x717.2.2.2.1.a x717.2.2.2.1.n x717.2.2.2.1.c)])] (.sc (.int .i64)) w715 (fun r718 w719=>
            LoadT (.agg [.int .i64,.int .i64,.sl,.sl]) w719 j7.2.2.2.1 fun x721=>
            CallN Tryd.prog 20 #[(.int .i64 j7.1),(.agg #[(.int .i64 x721.1),(.int .i64 x721.2.1),(.slice x721.2.2.1.a x721.2.2.1.n x721.2.2.1.c),(.slice x721.2.2.2.1.a x721.2.2.2.1.n x721.2.2.2.1.c)]),(.string j7.2.2.1)] [.sc .bool,.sc (.int .i64)] w719 (fun r722 w723=>
             LoadT (.agg [.int .i64,.int .i64,.sl,.sl]) w723 j7.2.2.2.1 fun x725=>
             CallN Tryd.prog 17 #[(.int .i64 j7.1),(.agg #[(.int .i64 x725.1),(.int .i64 x725.2.1),(.slice x725.2.2.1.a x725.2.2.1.n x725.2.2.1.c),(.slice x725.2.2.2.1.a x725.2.2.2.1.n x725.2.2.2.1.c)])] [.sc .sl,.sc (.int .i64)] w723 (fun r726 w727=>
              LoadT (.agg [.int .i64,.int .i64,.sl,.sl]) w727 j7.2.2.2.1 fun x729=>
              CallN Tryd.prog 21 #[(.int .i64 j7.1),(.agg #[(.int .i64 x729.1),(.int .i64 x729.2.1),(.slice x729.2.2.1.a x729.2.2.1.n x729.2.2.1.c),(.slice x729.2.2.2.1.a x729.2.2.2.1.n x729.2.2.2.1.c)]),(.string j7.2.2.1)] [.sc .sl,.sc (.int .i64)] w727 (fun r730 w731=>
               LoadT (.agg [.int .i64,.int .i64,.sl,.sl]) w731 j7.2.2.2.1 fun x733=>
               CallN Tryd.prog 26 #[(.int .i64 j7.1),(.agg #[(.int .i64 x733.1),(.int .i64 x733.2.1),(.slice x733.2.2.1.a x733.2.2.1.n x733.2.2.1.c),(.slice x733.2.2.2.1.a x733.2.2.2.1.n x733.2.2.2.1.c)])] [.sc (.int .i64),.sc (.int .i64)] w731 (fun r734 w735=>
                LoadT (.agg [.int .i64,.int .i64,.sl,.sl]) w735 j7.2.2.2.1 fun x737=>
                CallN Tryd.prog 28 #[(.int .i64 j7.1),(.agg #[(.int .i64 x737.1),(.int .i64 x737.2.1),(.slice x737.2.2.1.a x737.2.2.1.n x737.2.2.1.c),(.slice x737.2.2.2.1.a x737.2.2.2.1.n x737.2.2.2.1.c)]),(.string j7.2.2.1)] [.sc .str,.sc (.int .i64)] w735 (fun r738 w739=>
                 LoadT (.agg [.int .i64,.int .i64,.sl,.sl]) w739 j7.2.2.2.1 fun x741=>
                 LoadT (.agg [.int .i64,.int .i64,.sl,.sl]) w739 j7.2.2.2.2.1 fun x742=>
                 CallN Tryd.prog 33 #[(.int .i64 j7.1),(.agg #[(.int .i64 x741.1),(.int .i64 x741.2.1),(.slice x741.2.2.1.a x741.2.2.1.n x741.2.2.1.c),(.slice x741.2.2.2.1.a x741.2.2.2.1.n x741.2.2.2.1.c)]),(.agg #[(.int .i64 x742.1),(.int .i64 x742.2.1),(.slice x742.2.2.1.a x742.2.2.1.n x742.2.2.1.c),(.slice x742.2.2.2.1.a x742.2.2.2.1.n x742.2.2.2.1.c)])] [.agg [.int .i64,.int .i64,.sl,.sl],.sc (.int .i64)] w739 (fun r743 w744=>
                  LoadT (.agg [.int .i64,.int .i64,.sl,.sl]) w744 j7.2.2.2.1 fun x746=>
                  LoadT (.agg [.int .i64,.int .i64,.sl,.sl]) w744 j7.2.2.2.2.1 fun x747=>
                  CallN Tryd.prog 34 #[(.int .i64 j7.1),(.agg #[(.int .i64 x746.1),(.int .i64 x746.2.1),(.slice x746.2.2.1.a x746.2.2.1.n x746.2.2.1.c),(.slice x746.2.2.2.1.a x746.2.2.2.1.n x746.2.2.2.1.c)]),(.agg #[(.int .i64 x747.1),(.int .i64 x747.2.1),(.slice x747.2.2.1.a x747.2.2.1.n x747.2.2.1.c),(.slice x747.2.2.2.1.a x747.2.2.2.1.n x747.2.2.2.1.c)])] [.agg [.int .i64,.int .i64,.sl,.sl],.sc (.int .i64)] w744 (fun r748 w749=>
                   LoadT (.agg [.int .i64,.int .i64,.sl,.sl]) w749 j7.2.2.2.1 fun x751=>
                   CallN Tryd.prog 38 #[(.int .i64 j7.1),(.agg #[(.int .i64 x751.1),(.int .i64 x751.2.1),(.slice x751.2.2.1.a x751.2.2.1.n x751.2.2.1.c),(.slice x751.2.2.2.1.a x751.2.2.2.1.n x751.2.2.2.1.c)]),(.string j7.2.2.1)] [.agg [.int .i64,.int .i64,.sl,.sl],.sc (.int .i64)] w749 (fun r752 w753=>
                    LoadT (.agg [.int .i64,.int .i64,.sl,.sl]) w753 j7.2.2.2.1 fun x755=>
                    LoadT (.agg [.int .i64,.int .i64,.sl,.sl]) w753 j7.2.2.2.2.1 fun x756=>
                    CallN Tryd.prog 39 #[(.int .i64 j7.1),(.agg #[(.int .i64 x755.1),(.int .i64 x755.2.1),(.slice x755.2.2.1.a x755.2.2.1.n x755.2.2.1.c),(.slice x755.2.2.2.1.a x755.2.2.2.1.n x755.2.2.2.1.c)]),(.agg #[(.int .i64 x756.1),(.int .i64 x756.2.1),(.slice x756.2.2.1.a x756.2.2.1.n x756.2.2.1.c),(.slice x756.2.2.2.1.a x756.2.2.2.1.n x756.2.2.2.1.c)])] [.sc .str,.sc .bool,.sc (.int .i64)] w753 (fun r757 w758=>
                     Br ((((j7.2.1.n:Nat):Int):Int) != ((r15.n:Nat):Int))
                      (R (.returned (.bool false)) w758)
                      (LoopT (σ:=Sl × Addr × Addr × Sl × Addr × Addr × Int × Unit) (j7.2.1,j7.2.2.2.1,j7.2.2.2.2.1,r15,(Addr.mk b710 0 none),(Addr.mk b702 0 none),0,()) w758 fun l760 g761 w762 I763=>
                       Br (decide ((l760.2.2.2.2.2.2.1:Int) < ((l760.2.2.2.1.n:Nat):Int)))
                        (Idx l760.1.a l760.1.n 1 l760.2.2.2.2.2.2.1 fun a764=>
                        LoadT (.sc .str) w762.drew a764 fun x765=>
                        Idx l760.2.2.2.1.a l760.2.2.2.1.n 1 l760.2.2.2.2.2.2.1 fun a766=>
                        LoadT (.sc .str) w762.drew a766 fun x767=>
                        Br (!(x765.toList == x767.toList))
                         (R (.returned (.bool false)) w762.drew)
                         (I763 (l760.1,l760.2.1,l760.2.2.1,l760.2.2.2.1,l760.2.2.2.2.1,l760.2.2.2.2.2.1,(IntKind.wrap .i64 (l760.2.2.2.2.2.2.1 + 1)),()) w762.drew))
                        (CallT Tryd.prog 14 #[] (.sc .bool) w762 (fun r768 w769=>
                         Br r768
                          (LoadT (.agg [.int .i64,.int .i64,.sl,.sl]) w769 l760.2.1 fun x771=>
                          LoadT (.agg [.int .i64,.int .i64,.sl,.sl]) w769 l760.2.2.2.2.1 fun x772=>
                          CallT Tryd.prog 43 #[(.agg #[(.int .i64 x771.1),(.int .i64 x771.2.1),(.slice x771.2.2.1.a x771.2.2.1.n x771.2.2.1.c),(.slice x771.2.2.2.1.a x771.2.2.2.1.n x771.2.2.2.1.c)]),(.agg #[(.int .i64 x772.1),(.int .i64 x772.2.1),(.slice x772.2.2.1.a x772.2.2.1.n x772.2.2.1.c),(.slice x772.2.2.2.1.a x772.2.2.2.1.n x772.2.2.2.1.c)])] (.sc .bool) w769 (fun r773 w774=>
                           Br r773
                            (LoadT (.agg [.int .i64,.int .i64,.sl,.sl]) w774 l760.2.2.1 fun x776=>
                            LoadT (.agg [.int .i64,.int .i64,.sl,.sl]) w774 l760.2.2.2.2.2.1 fun x777=>
                            CallT Tryd.prog 43 #[(.agg #[(.int .i64 x776.1),(.int .i64 x776.2.1),(.slice x776.2.2.1.a x776.2.2.1.n x776.2.2.1.c),(.slice x776.2.2.2.1.a x776.2.2.2.1.n x776.2.2.2.1.c)]),(.agg #[(.int .i64 x777.1),(.int .i64 x777.2.1),(.slice x777.2.2.1.a x777.2.2.1.n x777.2.2.1.c),(.slice x777.2.2.2.1.a x777.2.2.2.1.n x777.2.2.2.1.c)])] (.sc .bool) w774 (fun r778 w779=>
                             R (.returned (.bool r778)) w779) (fun h780 w779=>R (.panicked h780) w779))
                            (R (.returned (.bool false)) w774)) (fun h775 w774=>R (.panicked h775) w774))
                          (R (.returned (.bool false)) w769)) (fun h770 w769=>R (.panicked h770) w769)))) (fun h759 w758=>R (.panicked h759) w758)) (fun h754 w753=>R (.panicked h754) w753)) (fun h750 w749=>R (.panicked h750) w749)) (fun h745 w744=>R (.panicked h745) w744)) (fun h740 w739=>R (.panicked h740) w739)) (fun h736 w735=>R (.panicked h736) w735)) (fun h732 w731=>R (.panicked h732) w731)) (fun h728 w727=>R (.panicked h728) w727)) (fun h724 w723=>R (.panicked h724) w723)) (fun h720 w719=>R (.panicked h720) w719)) (fun h716 w715=>R (.panicked h716) w715))))) (fun h709 w708=>R (.panicked h709) w708)) ∧
     (New w705 (.cells #[(.int .i64 0),(.int .i64 0),(.slice none 0 0),(.slice none 0 0)] 27) fun b781 w782=>
      S17 w782 ∧
      (CallT Tryd.prog 42 #[(.agg #[(.int .i64 x19.1),(.int .i64 x19.2.1),(.slice x19.2.2.1.a x19.2.2.1.n x19.2.2.1.c),(.slice x19.2.2.2.1.a x19.2.2.2.1.n x19.2.2.2.1.c)])] (.agg [.int .i64,.int .i64,.sl,.sl]) w782 (fun r783 w784=>
        S17 w784 ∧
        (StoreN w784 (Addr.mk b781 0 none) [(.int .i64 r704.1),(.int .i64 r704.2.1),(.slice r704.2.2.1.a r704.2.2.1.n r704.2.2.1.c),(.slice r704.2.2.2.1.a r704.2.2.2.1.n r704.2.2.2.1.c)] fun w786=>
         S17 w786 ∧
         (StoreN w786 (Addr.mk b702 0 none) [(.int .i64 r783.1),(.int .i64 r783.2.1),(.slice r783.2.2.1.a r783.2.2.1.n r783.2.2.1.c),(.slice r783.2.2.2.1.a r783.2.2.2.1.n r783.2.2.2.1.c)] fun w787=>
          CallN Tryd.prog 12 #[(.int .i64 j7.1),(.slice j7.2.1.a j7.2.1.n j7.2.1.c)] [.agg [.int .i64,.int .i64,.sl,.sl],.sc (.int .i64)] w787 (fun r788 w789=>
           LoadT (.agg [.int .i64,.int .i64,.sl,.sl]) w789 j7.2.2.2.1 fun x791=>
           CallT Tryd.prog 29 #[(.int .i64 j7.1),(.agg #[(.int .i64 x791.1),(.int .i64 x791.2.1),(.slice x791.2.2.1.a x791.2.2.1.n x791.2.2.1.c),(.slice x791.2.2.2.1.a x791.2.2.2.1.n x791.2.2.2.1.c)])] (.sc (.int .i64)) w789 (fun r792 w793=>
            LoadT (.agg [.int .i64,.int .i64,.sl,.sl]) w793 j7.2.2.2.1 fun x795=>
            CallN Tryd.prog 20 #[(.int .i64 j7.1),(.agg #[(.int .i64 x795.1),(.int .i64 x795.2.1),(.slice x795.2.2.1.a x795.2.2.1.n x795.2.2.1.c),(.slice x795.2.2.2.1.a x795.2.2.2.1.n x795.2.2.2.1.c)]),(.string j7.2.2.1)] [.sc .bool,.sc (.int .i64)] w793 (fun r796 w797=>
             LoadT (.agg [.int .i64,.int .i64,.sl,.sl]) w797 j7.2.2.2.1 fun x799=>
             CallN Tryd.prog 17 #[(.int .i64 j7.1),(.agg #[(.int .i64 x799.1),(.int .i64 x799.2.1),(.slice x799.2.2.1.a x799.2.2.1.n x799.2.2.1.c),(.slice x799.2.2.2.1.a x799.2.2.2.1.n x799.2.2.2.1.c)])] [.sc .sl,.sc (.int .i64)] w797 (fun r800 w801=>
              LoadT (.agg [.int .i64,.int .i64,.sl,.sl]) w801 j7.2.2.2.1 fun x803=>
              CallN Tryd.prog 21 #[(.int .i64 j7.1),(.agg #[(.int .i64 x803.1),(.int .i64 x803.2.1),(.slice x803.2.2.1.a x803.2.2.1.n x803.2.2.1.c),(.slice x803.2.2.2.1.a x803.2.2.2.1.n x803.2.2.2.1.c)]),(.string j7.2.2.1)] [.sc .sl,.sc (.int .i64)] w801 (fun r804 w805=>
               LoadT (.agg [.int .i64,.int .i64,.sl,.sl]) w805 j7.2.2.2.1 fun x807=>
               CallN Tryd.prog 26 #[(.int .i64 j7.1),(.agg #[(.int .i64 x807.1),(.int .i64 x807.2.1),(.slice x807.2.2.1.a x807.2.2.1.n x807.2.2.1.c),(.slice x807.2.2.2.1.a x807.2.2.2.1.n x807.2.2.2.1.c)])] [.sc (.int .i64),.sc (.int .i64)] w805 (fun r808 w809=>
                LoadT (.agg [.int .i64,.int .i64,.sl,.sl]) w809 j7.2.2.2.1 fun x811=>
                CallN Tryd.prog 28 #[(.int .i64 j7.1),(.agg #[(.int .i64 x811.1),(.int .i64 x811.2.1),(.slice x811.2.2.1.a x811.2.2.1.n x811.2.2.1.c),(.slice x811.2.2.2.1.a x811.2.2.2.1.n x811.2.2.2.1.c)]),(.string j7.2.2.1)] [.sc .str,.sc (.int .i64)] w809 (fun r812 w813=>
                 LoadT (.agg [.int .i64,.int .i64,.sl,.sl]) w813 j7.2.2.2.1 fun x815=>
                 LoadT (.agg [.int .i64,.int .i64,.sl,.sl]) w813 j7.2.2.2.2.1 fun x816=>
                 CallN Tryd.prog 33 #[(.int .i64 j7.1),(.agg #[(.int .i64 x815.1),(.int .i64 x815.2.1),(.slice x815.2.2.1.a x815.2.2.1.n x815.2.2.1.c),(.slice x815.2.2.2.1.a x815.2.2.2.1.n x815.2.2.2.1.c)]),(.agg #[(.int .i64 x816.1),(.int .i64 x816.2.1),(.slice x816.2.2.1.a x816.2.2.1.n x816.2.2.1.c),(.slice x816.2.2.2.1.a x816.2.2.2.1.n x816.2.2.2.1.c)])] [.agg [.int .i64,.int .i64,.sl,.sl],.sc (.int .i64)] w813 (fun r817 w818=>
                  LoadT (.agg [.int .i64,.int .i64,.sl,.sl]) w818 j7.2.2.2.1 fun x820=>
                  LoadT (.agg [.int .i64,.int .i64,.sl,.sl]) w818 j7.2.2.2.2.1 fun x821=>
                  CallN Tryd.prog 34 #[(.int .i64 j7.1),(.agg #[(.int .i64 x820.1),(.int .i64 x820.2.1),(.slice x820.2.2.1.a x820.2.2.1.n x820.2.2.1.c),(.slice x820.2.2.2.1.a x820.2.2.2.1.n x820.2.2.2.1.c)]),(.agg #[(.int .i64 x821.1),(.int .i64 x821.2.1),(.slice x821.2.2.1.a x821.2.2.1.n x821.2.2.1.c),(.slice x821.2.2.2.1.a x821.2.2.2.1.n x821.2.2.2.1.c)])] [.agg [.int .i64,.int .i64,.sl,.sl],.sc (.int .i64)] w818 (fun r822 w823=>
                   LoadT (.agg [.int .i64,.int .i64,.sl,.sl]) w823 j7.2.2.2.1 fun x825=>
                   CallN Tryd.prog 38 #[(.int .i64 j7.1),(.agg #[(.int .i64 x825.1),(.int .i64 x825.2.1),(.slice x825.2.2.1.a x825.2.2.1.n x825.2.2.1.c),(.slice x825.2.2.2.1.a x825.2.2.2.1.n x825.2.2.2.1.c)]),(.string j7.2.2.1)] [.agg [.int .i64,.int .i64,.sl,.sl],.sc (.int .i64)] w823 (fun r826 w827=>
                    LoadT (.agg [.int .i64,.int .i64,.sl,.sl]) w827 j7.2.2.2.1 fun x829=>
                    LoadT (.agg [.int .i64,.int .i64,.sl,.sl]) w827 j7.2.2.2.2.1 fun x830=>
                    CallN Tryd.prog 39 #[(.int .i64 j7.1),(.agg #[(.int .i64 x829.1),(.int .i64 x829.2.1),(.slice x829.2.2.1.a x829.2.2.1.n x829.2.2.1.c),(.slice x829.2.2.2.1.a x829.2.2.2.1.n x829.2.2.2.1.c)]),(.agg #[(.int .i64 x830.1),(.int .i64 x830.2.1),(.slice x830.2.2.1.a x830.2.2.1.n x830.2.2.1.c),(.slice x830.2.2.2.1.a x830.2.2.2.1.n x830.2.2.2.1.c)])] [.sc .str,.sc .bool,.sc (.int .i64)] w827 (fun r831 w832=>
                     Br ((((j7.2.1.n:Nat):Int):Int) != ((r15.n:Nat):Int))
                      (R (.returned (.bool false)) w832)
                      (LoopT (σ:=Sl × Addr × Addr × Sl × Addr × Addr × Int × Unit) (j7.2.1,j7.2.2.2.1,j7.2.2.2.2.1,r15,(Addr.mk b781 0 none),(Addr.mk b702 0 none),0,()) w832 fun l834 g835 w836 I837=>
                       Br (decide ((l834.2.2.2.2.2.2.1:Int) < ((l834.2.2.2.1.n:Nat):Int)))
                        (Idx l834.1.a l834.1.n 1 l834.2.2.2.2.2.2.1 fun a838=>
                        LoadT (.sc .str) w836.drew a838 fun x839=>
                        Idx l834.2.2.2.1.a l834.2.2.2.1.n 1 l834.2.2.2.2.2.2.1 fun a840=>
                        LoadT (.sc .str) w836.drew a840 fun x841=>
                        Br (!(x839.toList == x841.toList))
                         (R (.returned (.bool false)) w836.drew)
                         (I837 (l834.1,l834.2.1,l834.2.2.1,l834.2.2.2.1,l834.2.2.2.2.1,l834.2.2.2.2.2.1,(IntKind.wrap .i64 (l834.2.2.2.2.2.2.1 + 1)),()) w836.drew))
                        (CallT Tryd.prog 14 #[] (.sc .bool) w836 (fun r842 w843=>
                         Br r842
                          (LoadT (.agg [.int .i64,.int .i64,.sl,.sl]) w843 l834.2.1 fun x845=>
                          LoadT (.agg [.int .i64,.int .i64,.sl,.sl]) w843 l834.2.2.2.2.1 fun x846=>
                          CallT Tryd.prog 43 #[(.agg #[(.int .i64 x845.1),(.int .i64 x845.2.1),(.slice x845.2.2.1.a x845.2.2.1.n x845.2.2.1.c),(.slice x845.2.2.2.1.a x845.2.2.2.1.n x845.2.2.2.1.c)]),(.agg #[(.int .i64 x846.1),(.int .i64 x846.2.1),(.slice x846.2.2.1.a x846.2.2.1.n x846.2.2.1.c),(.slice x846.2.2.2.1.a x846.2.2.2.1.n x846.2.2.2.1.c)])] (.sc .bool) w843 (fun r847 w848=>
                           Br r847
                            (LoadT (.agg [.int .i64,.int .i64,.sl,.sl]) w848 l834.2.2.1 fun x850=>
                            LoadT (.agg [.int .i64,.int .i64,.sl,.sl]) w848 l834.2.2.2.2.2.1 fun x851=>
                            CallT Tryd.prog 43 #[(.agg #[(.int .i64 x850.1),(.int .i64 x850.2.1),(.slice x850.2.2.1.a x850.2.2.1.n x850.2.2.1.c),(.slice x850.2.2.2.1.a x850.2.2.2.1.n x850.2.2.2.1.c)]),(.agg #[(.int .i64 x851.1),(.int .i64 x851.2.1),(.slice x851.2.2.1.a x851.2.2.1.n x851.2.2.1.c),(.slice x851.2.2.2.1.a x851.2.2.2.1.n x851.2.2.2.1.c)])] (.sc .bool) w848 (fun r852 w853=>
                             R (.returned (.bool r852)) w853) (fun h854 w853=>R (.panicked h854) w853))
                            (R (.returned (.bool false)) w848)) (fun h849 w848=>R (.panicked h849) w848))
                          (R (.returned (.bool false)) w843)) (fun h844 w843=>R (.panicked h844) w843)))) (fun h833 w832=>R (.panicked h833) w832)) (fun h828 w827=>R (.panicked h828) w827)) (fun h824 w823=>R (.panicked h824) w823)) (fun h819 w818=>R (.panicked h819) w818)) (fun h814 w813=>R (.panicked h814) w813)) (fun h810 w809=>R (.panicked h810) w809)) (fun h806 w805=>R (.panicked h806) w805)) (fun h802 w801=>R (.panicked h802) w801)) (fun h798 w797=>R (.panicked h798) w797)) (fun h794 w793=>R (.panicked h794) w793)) (fun h790 w789=>R (.panicked h790) w789)))) (fun h785 w784=>R (.panicked h785) w784))))) (fun h706 w705=>R (.panicked h706) w705)) ∧
   (New w703 (.cells #[(.int .i64 0),(.int .i64 0),(.slice none 0 0),(.slice none 0 0)] 27) fun b855 w856=>
    S17 w856 ∧
    (CallT Tryd.prog 42 #[(.agg #[(.int .i64 x18.1),(.int .i64 x18.2.1),(.slice x18.2.2.1.a x18.2.2.1.n x18.2.2.1.c),(.slice x18.2.2.2.1.a x18.2.2.2.1.n x18.2.2.2.1.c)])] (.agg [.int .i64,.int .i64,.sl,.sl]) w856 (fun r857 w858=>
      S17 w858 ∧
      (CallT Tryd.prog 42 #[(.agg #[(.int .i64 x19.1),(.int .i64 x19.2.1),(.slice x19.2.2.1.a x19.2.2.1.n x19.2.2.1.c),(.slice x19.2.2.2.1.a x19.2.2.2.1.n x19.2.2.2.1.c)])] (.agg [.int .i64,.int .i64,.sl,.sl]) w858 (fun r860 w861=>
        S17 w861 ∧
        (StoreN w861 (Addr.mk b855 0 none) [(.int .i64 r857.1),(.int .i64 r857.2.1),(.slice r857.2.2.1.a r857.2.2.1.n r857.2.2.1.c),(.slice r857.2.2.2.1.a r857.2.2.2.1.n r857.2.2.2.1.c)] fun w863=>
         S17 w863 ∧
         (StoreN w863 (Addr.mk b702 0 none) [(.int .i64 r860.1),(.int .i64 r860.2.1),(.slice r860.2.2.1.a r860.2.2.1.n r860.2.2.1.c),(.slice r860.2.2.2.1.a r860.2.2.2.1.n r860.2.2.2.1.c)] fun w864=>
          CallN Tryd.prog 12 #[(.int .i64 j7.1),(.slice j7.2.1.a j7.2.1.n j7.2.1.c)] [.agg [.int .i64,.int .i64,.sl,.sl],.sc (.int .i64)] w864 (fun r865 w866=>
           LoadT (.agg [.int .i64,.int .i64,.sl,.sl]) w866 j7.2.2.2.1 fun x868=>
           CallT Tryd.prog 29 #[(.int .i64 j7.1),(.agg #[(.int .i64 x868.1),(.int .i64 x868.2.1),(.slice x868.2.2.1.a x868.2.2.1.n x868.2.2.1.c),(.slice x868.2.2.2.1.a x868.2.2.2.1.n x868.2.2.2.1.c)])] (.sc (.int .i64)) w866 (fun r869 w870=>
            LoadT (.agg [.int .i64,.int .i64,.sl,.sl]) w870 j7.2.2.2.1 fun x872=>
            CallN Tryd.prog 20 #[(.int .i64 j7.1),(.agg #[(.int .i64 x872.1),(.int .i64 x872.2.1),(.slice x872.2.2.1.a x872.2.2.1.n x872.2.2.1.c),(.slice x872.2.2.2.1.a x872.2.2.2.1.n x872.2.2.2.1.c)]),(.string j7.2.2.1)] [.sc .bool,.sc (.int .i64)] w870 (fun r873 w874=>
             LoadT (.agg [.int .i64,.int .i64,.sl,.sl]) w874 j7.2.2.2.1 fun x876=>
             CallN Tryd.prog 17 #[(.int .i64 j7.1),(.agg #[(.int .i64 x876.1),(.int .i64 x876.2.1),(.slice x876.2.2.1.a x876.2.2.1.n x876.2.2.1.c),(.slice x876.2.2.2.1.a x876.2.2.2.1.n x876.2.2.2.1.c)])] [.sc .sl,.sc (.int .i64)] w874 (fun r877 w878=>
              LoadT (.agg [.int .i64,.int .i64,.sl,.sl]) w878 j7.2.2.2.1 fun x880=>
              CallN Tryd.prog 21 #[(.int .i64 j7.1),(.agg #[(.int .i64 x880.1),(.int .i64 x880.2.1),(.slice x880.2.2.1.a x880.2.2.1.n x880.2.2.1.c),(.slice x880.2.2.2.1.a x880.2.2.2.1.n x880.2.2.2.1.c)]),(.string j7.2.2.1)] [.sc .sl,.sc (.int .i64)] w878 (fun r881 w882=>
               LoadT (.agg [.int .i64,.int .i64,.sl,.sl]) w882 j7.2.2.2.1 fun x884=>
               CallN Tryd.prog 26 #[(.int .i64 j7.1),(.agg #[(.int .i64 x884.1),(.int .i64 x884.2.1),(.slice x884.2.2.1.a x884.2.2.1.n x884.2.2.1.c),(.slice x884.2.2.2.1.a x884.2.2.2.1.n x884.2.2.2.1.c)])] [.sc (.int .i64),.sc (.int .i64)] w882 (fun r885 w886=>
                LoadT (.agg [.int .i64,.int .i64,.sl,.sl]) w886 j7.2.2.2.1 fun x888=>
                CallN Tryd.prog 28 #[(.int .i64 j7.1),(.agg #[(.int .i64 x888.1),(.int .i64 x888.2.1),(.slice x888.2.2.1.a x888.2.2.1.n x888.2.2.1.c),(.slice x888.2.2.2.1.a x888.2.2.2.1.n x888.2.2.2.1.c)]),(.string j7.2.2.1)] [.sc .str,.sc (.int .i64)] w886 (fun r889 w890=>
                 LoadT (.agg [.int .i64,.int .i64,.sl,.sl]) w890 j7.2.2.2.1 fun x892=>
                 LoadT (.agg [.int .i64,.int .i64,.sl,.sl]) w890 j7.2.2.2.2.1 fun x893=>
                 CallN Tryd.prog 33 #[(.int .i64 j7.1),(.agg #[(.int .i64 x892.1),(.int .i64 x892.2.1),(.slice x892.2.2.1.a x892.2.2.1.n x892.2.2.1.c),(.slice x892.2.2.2.1.a x892.2.2.2.1.n x892.2.2.2.1.c)]),(.agg #[(.int .i64 x893.1),(.int .i64 x893.2.1),(.slice x893.2.2.1.a x893.2.2.1.n x893.2.2.1.c),(.slice x893.2.2.2.1.a x893.2.2.2.1.n x893.2.2.2.1.c)])] [.agg [.int .i64,.int .i64,.sl,.sl],.sc (.int .i64)] w890 (fun r894 w895=>
                  LoadT (.agg [.int .i64,.int .i64,.sl,.sl]) w895 j7.2.2.2.1 fun x897=>
                  LoadT (.agg [.int .i64,.int .i64,.sl,.sl]) w895 j7.2.2.2.2.1 fun x898=>
                  CallN Tryd.prog 34 #[(.int .i64 j7.1),(.agg #[(.int .i64 x897.1),(.int .i64 x897.2.1),(.slice x897.2.2.1.a x897.2.2.1.n x897.2.2.1.c),(.slice x897.2.2.2.1.a x897.2.2.2.1.n x897.2.2.2.1.c)]),(.agg #[(.int .i64 x898.1),(.int .i64 x898.2.1),(.slice x898.2.2.1.a x898.2.2.1.n x898.2.2.1.c),(.slice x898.2.2.2.1.a x898.2.2.2.1.n x898.2.2.2.1.c)])] [.agg [.int .i64,.int .i64,.sl,.sl],.sc (.int .i64)] w895 (fun r899 w900=>
                   LoadT (.agg [.int .i64,.int .i64,.sl,.sl]) w900 j7.2.2.2.1 fun x902=>
                   CallN Tryd.prog 38 #[(.int .i64 j7.1),(.agg #[(.int .i64 x902.1),(.int .i64 x902.2.1),(.slice x902.2.2.1.a x902.2.2.1.n x902.2.2.1.c),(.slice x902.2.2.2.1.a x902.2.2.2.1.n x902.2.2.2.1.c)]),(.string j7.2.2.1)] [.agg [.int .i64,.int .i64,.sl,.sl],.sc (.int .i64)] w900 (fun r903 w904=>
                    LoadT (.agg [.int .i64,.int .i64,.sl,.sl]) w904 j7.2.2.2.1 fun x906=>
                    LoadT (.agg [.int .i64,.int .i64,.sl,.sl]) w904 j7.2.2.2.2.1 fun x907=>
                    CallN Tryd.prog 39 #[(.int .i64 j7.1),(.agg #[(.int .i64 x906.1),(.int .i64 x906.2.1),(.slice x906.2.2.1.a x906.2.2.1.n x906.2.2.1.c),(.slice x906.2.2.2.1.a x906.2.2.2.1.n x906.2.2.2.1.c)]),(.agg #[(.int .i64 x907.1),(.int .i64 x907.2.1),(.slice x907.2.2.1.a x907.2.2.1.n x907.2.2.1.c),(.slice x907.2.2.2.1.a x907.2.2.2.1.n x907.2.2.2.1.c)])] [.sc .str,.sc .bool,.sc (.int .i64)] w904 (fun r908 w909=>
                     Br ((((j7.2.1.n:Nat):Int):Int) != ((r15.n:Nat):Int))
                      (R (.returned (.bool false)) w909)
                      (LoopT (σ:=Sl × Addr × Addr × Sl × Addr × Addr × Int × Unit) (j7.2.1,j7.2.2.2.1,j7.2.2.2.2.1,r15,(Addr.mk b855 0 none),(Addr.mk b702 0 none),0,()) w909 fun l911 g912 w913 I914=>
                       Br (decide ((l911.2.2.2.2.2.2.1:Int) < ((l911.2.2.2.1.n:Nat):Int)))
                        (Idx l911.1.a l911.1.n 1 l911.2.2.2.2.2.2.1 fun a915=>
                        LoadT (.sc .str) w913.drew a915 fun x916=>
                        Idx l911.2.2.2.1.a l911.2.2.2.1.n 1 l911.2.2.2.2.2.2.1 fun a917=>
                        LoadT (.sc .str) w913.drew a917 fun x918=>
                        Br (!(x916.toList == x918.toList))
                         (R (.returned (.bool false)) w913.drew)
                         (I914 (l911.1,l911.2.1,l911.2.2.1,l911.2.2.2.1,l911.2.2.2.2.1,l911.2.2.2.2.2.1,(IntKind.wrap .i64 (l911.2.2.2.2.2.2.1 + 1)),()) w913.drew))
                        (CallT Tryd.prog 14 #[] (.sc .bool) w913 (fun r919 w920=>
                         Br r919
                          (LoadT (.agg [.int .i64,.int .i64,.sl,.sl]) w920 l911.2.1 fun x922=>
                          LoadT (.agg [.int .i64,.int .i64,.sl,.sl]) w920 l911.2.2.2.2.1 fun x923=>
                          CallT Tryd.prog 43 #[(.agg #[(.int .i64 x922.1),(.int .i64 x922.2.1),(.slice x922.2.2.1.a x922.2.2.1.n x922.2.2.1.c),(.slice x922.2.2.2.1.a x922.2.2.2.1.n x922.2.2.2.1.c)]),(.agg #[(.int .i64 x923.1),(.int .i64 x923.2.1),(.slice x923.2.2.1.a x923.2.2.1.n x923.2.2.1.c),(.slice x923.2.2.2.1.a x923.2.2.2.1.n x923.2.2.2.1.c)])] (.sc .bool) w920 (fun r924 w925=>
                           Br r924
                            (LoadT (.agg [.int .i64,.int .i64,.sl,.sl]) w925 l911.2.2.1 fun x927=>
                            LoadT (.agg [.int .i64,.int .i64,.sl,.sl]) w925 l911.2.2.2.2.2.1 fun x928=>
                            CallT Tryd.prog 43 #[(.agg #[(.int .i64 x927.1),(.int .i64 x927.2.1),(.slice x927.2.2.1.a x927.2.2.1.n x927.2.2.1.c),(.slice x927.2.2.2.1.a x927.2.2.2.1.n x927.2.2.2.1.c)]),(.agg #[(.int .i64 x928.1),(.int .i64 x928.2.1),(.slice x928.2.2.1.a x928.2.2.1.n x928.2.2.1.c),(.slice x928.2.2.2.1.a x928.2.2.2.1.n x928.2.2.2.1.c)])] (.sc .bool) w925 (fun r929 w930=>
                             R (.returned (.bool r929)) w930) (fun h931 w930=>R (.panicked h931) w930))
                            (R (.returned (.bool false)) w925)) (fun h926 w925=>R (.panicked h926) w925))
                          (R (.returned (.bool false)) w920)) (fun h921 w920=>R (.panicked h921) w920)))) (fun h910 w909=>R (.panicked h910) w909)) (fun h905 w904=>R (.panicked h905) w904)) (fun h901 w900=>R (.panicked h901) w900)) (fun h896 w895=>R (.panicked h896) w895)) (fun h891 w890=>R (.panicked h891) w890)) (fun h887 w886=>R (.panicked h887) w886)) (fun h883 w882=>R (.panicked h883) w882)) (fun h879 w878=>R (.panicked h879) w878)) (fun h875 w874=>R (.panicked h875) w874)) (fun h871 w870=>R (.panicked h871) w870)) (fun h867 w866=>R (.panicked h867) w866)))) (fun h862 w861=>R (.panicked h862) w861))) (fun h859 w858=>R (.panicked h859) w858))))))) fun J5=>
  LoadT (.sc .sl) w4 ((Addr.mk b1 0 none).add 2) fun x8=>
  Br (decide ((((x8.n:Nat):Int):Int) > 20))
   (Br true
    (R (.returned (.bool true)) w4)
    (J5 (p0,p1,p4,(Addr.mk b1 0 none),(Addr.mk b3 0 none),()) w4))
   (LoadT (.sc .sl) w4 ((Addr.mk b1 0 none).add 3) fun x9=>
   Br (decide ((((x9.n:Nat):Int):Int) > 20))
    (Br true
     (R (.returned (.bool true)) w4)
     (J5 (p0,p1,p4,(Addr.mk b1 0 none),(Addr.mk b3 0 none),()) w4))
    (LoadT (.sc .sl) w4 ((Addr.mk b3 0 none).add 2) fun x10=>
    Br (decide ((((x10.n:Nat):Int):Int) > 20))
     (Br true
      (R (.returned (.bool true)) w4)
      (J5 (p0,p1,p4,(Addr.mk b1 0 none),(Addr.mk b3 0 none),()) w4))
     (LoadT (.sc .sl) w4 ((Addr.mk b3 0 none).add 3) fun x11=>
     Br (decide ((((x11.n:Nat):Int):Int) > 20))
      (Br true
       (R (.returned (.bool true)) w4)
       (J5 (p0,p1,p4,(Addr.mk b1 0 none),(Addr.mk b3 0 none),()) w4))
      (Br (decide ((((p1.n:Nat):Int):Int) > 20))
       (Br true
        (R (.returned (.bool true)) w4)
        (J5 (p0,p1,p4,(Addr.mk b1 0 none),(Addr.mk b3 0 none),()) w4))
       (Br (decide ((((p4.size:Nat):Int):Int) > 200))
        (R (.returned (.bool true)) w4)
        (J5 (p0,p1,p4,(Addr.mk b1 0 none),(Addr.mk b3 0 none),()) w4))))))
theorem cayleylaw21_FoldStays.calls (p0:Int) (p1:Sl) (p2_0:Int) (p2_1:Int) (p2_2:Sl) (p2_3:Sl) (p3_0:Int) (p3_1:Int) (p3_2:Sl) (p3_3:Sl) (p4:ByteArray) {R:Ending → World → Prop} {w:World} (h:cayleylaw21_FoldStays.sh p0 p1 p2_0 p2_1 p2_2 p2_3 p3_0 p3_1 p3_2 p3_3 p4 R w):Calls Tryd.prog 10 #[(.int .i64 p0),(.slice p1.a p1.n p1.c),(.agg #[(.int .i64 p2_0),(.int .i64 p2_1),(.slice p2_2.a p2_2.n p2_2.c),(.slice p2_3.a p2_3.n p2_3.c)]),(.agg #[(.int .i64 p3_0),(.int .i64 p3_1),(.slice p3_2.a p3_2.n p3_2.c),(.slice p3_3.a p3_3.n p3_3.c)]),(.string p4)] w R:=calls_of_wpc mixed Tryd.func10 (by kernel_rfl) (by kernel_rfl) ((show _ = wpc Tryd.prog cayleylaw21_FoldStays.ann cayleylaw21_FoldStays.body (fnKs Tryd.prog Tryd.f10 R) [] (env0 #[(.int .i64 p0),(.slice p1.a p1.n p1.c),(.agg #[(.int .i64 p2_0),(.int .i64 p2_1),(.slice p2_2.a p2_2.n p2_2.c),(.slice p2_3.a p2_3.n p2_3.c)]),(.agg #[(.int .i64 p3_0),(.int .i64 p3_1),(.slice p3_2.a p3_2.n p3_2.c),(.slice p3_3.a p3_3.n p3_3.c)]),(.string p4)]) w by kernel_rfl).mp h)
end Go.Proofs.YtffdjfkekdoeaaaDoor
end
section
set_option maxRecDepth 8000
set_option maxHeartbeats 4000000
namespace Go.Proofs.YtffdjfkekdoeaaaDoor.Fo
open Fw Wd Rf Pl
def stTail (j7:Int × Sl × ByteArray × Addr × Addr × Unit) (r15:Sl) (b26 b28:Nat) (R:Ending → World → Prop) (w31:World):Prop:=
 CallN Tryd.prog 12 #[(.int .i64 j7.1),(.slice j7.2.1.a j7.2.1.n j7.2.1.c)] [.agg [.int .i64,.int .i64,.sl,.sl],.sc (.int .i64)] w31 (fun r32 w33=>
  LoadT (.agg [.int .i64,.int .i64,.sl,.sl]) w33 j7.2.2.2.1 fun x35=>
  CallT Tryd.prog 29 #[(.int .i64 j7.1),(.agg #[(.int .i64 x35.1),(.int .i64 x35.2.1),(.slice x35.2.2.1.a x35.2.2.1.n x35.2.2.1.c),(.slice x35.2.2.2.1.a x35.2.2.2.1.n x35.2.2.2.1.c)])] (.sc (.int .i64)) w33 (fun r36 w37=>
   LoadT (.agg [.int .i64,.int .i64,.sl,.sl]) w37 j7.2.2.2.1 fun x39=>
   CallN Tryd.prog 20 #[(.int .i64 j7.1),(.agg #[(.int .i64 x39.1),(.int .i64 x39.2.1),(.slice x39.2.2.1.a x39.2.2.1.n x39.2.2.1.c),(.slice x39.2.2.2.1.a x39.2.2.2.1.n x39.2.2.2.1.c)]),(.string j7.2.2.1)] [.sc .bool,.sc (.int .i64)] w37 (fun r40 w41=>
    LoadT (.agg [.int .i64,.int .i64,.sl,.sl]) w41 j7.2.2.2.1 fun x43=>
    CallN Tryd.prog 17 #[(.int .i64 j7.1),(.agg #[(.int .i64 x43.1),(.int .i64 x43.2.1),(.slice x43.2.2.1.a x43.2.2.1.n x43.2.2.1.c),(.slice x43.2.2.2.1.a x43.2.2.2.1.n x43.2.2.2.1.c)])] [.sc .sl,.sc (.int .i64)] w41 (fun r44 w45=>
     LoadT (.agg [.int .i64,.int .i64,.sl,.sl]) w45 j7.2.2.2.1 fun x47=>
     CallN Tryd.prog 21 #[(.int .i64 j7.1),(.agg #[(.int .i64 x47.1),(.int .i64 x47.2.1),(.slice x47.2.2.1.a x47.2.2.1.n x47.2.2.1.c),(.slice x47.2.2.2.1.a x47.2.2.2.1.n x47.2.2.2.1.c)]),(.string j7.2.2.1)] [.sc .sl,.sc (.int .i64)] w45 (fun r48 w49=>
      LoadT (.agg [.int .i64,.int .i64,.sl,.sl]) w49 j7.2.2.2.1 fun x51=>
      CallN Tryd.prog 26 #[(.int .i64 j7.1),(.agg #[(.int .i64 x51.1),(.int .i64 x51.2.1),(.slice x51.2.2.1.a x51.2.2.1.n x51.2.2.1.c),(.slice x51.2.2.2.1.a x51.2.2.2.1.n x51.2.2.2.1.c)])] [.sc (.int .i64),.sc (.int .i64)] w49 (fun r52 w53=>
       LoadT (.agg [.int .i64,.int .i64,.sl,.sl]) w53 j7.2.2.2.1 fun x55=>
       CallN Tryd.prog 28 #[(.int .i64 j7.1),(.agg #[(.int .i64 x55.1),(.int .i64 x55.2.1),(.slice x55.2.2.1.a x55.2.2.1.n x55.2.2.1.c),(.slice x55.2.2.2.1.a x55.2.2.2.1.n x55.2.2.2.1.c)]),(.string j7.2.2.1)] [.sc .str,.sc (.int .i64)] w53 (fun r56 w57=>
        LoadT (.agg [.int .i64,.int .i64,.sl,.sl]) w57 j7.2.2.2.1 fun x59=>
        LoadT (.agg [.int .i64,.int .i64,.sl,.sl]) w57 j7.2.2.2.2.1 fun x60=>
        CallN Tryd.prog 33 #[(.int .i64 j7.1),(.agg #[(.int .i64 x59.1),(.int .i64 x59.2.1),(.slice x59.2.2.1.a x59.2.2.1.n x59.2.2.1.c),(.slice x59.2.2.2.1.a x59.2.2.2.1.n x59.2.2.2.1.c)]),(.agg #[(.int .i64 x60.1),(.int .i64 x60.2.1),(.slice x60.2.2.1.a x60.2.2.1.n x60.2.2.1.c),(.slice x60.2.2.2.1.a x60.2.2.2.1.n x60.2.2.2.1.c)])] [.agg [.int .i64,.int .i64,.sl,.sl],.sc (.int .i64)] w57 (fun r61 w62=>
         LoadT (.agg [.int .i64,.int .i64,.sl,.sl]) w62 j7.2.2.2.1 fun x64=>
         LoadT (.agg [.int .i64,.int .i64,.sl,.sl]) w62 j7.2.2.2.2.1 fun x65=>
         CallN Tryd.prog 34 #[(.int .i64 j7.1),(.agg #[(.int .i64 x64.1),(.int .i64 x64.2.1),(.slice x64.2.2.1.a x64.2.2.1.n x64.2.2.1.c),(.slice x64.2.2.2.1.a x64.2.2.2.1.n x64.2.2.2.1.c)]),(.agg #[(.int .i64 x65.1),(.int .i64 x65.2.1),(.slice x65.2.2.1.a x65.2.2.1.n x65.2.2.1.c),(.slice x65.2.2.2.1.a x65.2.2.2.1.n x65.2.2.2.1.c)])] [.agg [.int .i64,.int .i64,.sl,.sl],.sc (.int .i64)] w62 (fun r66 w67=>
          LoadT (.agg [.int .i64,.int .i64,.sl,.sl]) w67 j7.2.2.2.1 fun x69=>
          CallN Tryd.prog 38 #[(.int .i64 j7.1),(.agg #[(.int .i64 x69.1),(.int .i64 x69.2.1),(.slice x69.2.2.1.a x69.2.2.1.n x69.2.2.1.c),(.slice x69.2.2.2.1.a x69.2.2.2.1.n x69.2.2.2.1.c)]),(.string j7.2.2.1)] [.agg [.int .i64,.int .i64,.sl,.sl],.sc (.int .i64)] w67 (fun r70 w71=>
           LoadT (.agg [.int .i64,.int .i64,.sl,.sl]) w71 j7.2.2.2.1 fun x73=>
           LoadT (.agg [.int .i64,.int .i64,.sl,.sl]) w71 j7.2.2.2.2.1 fun x74=>
           CallN Tryd.prog 39 #[(.int .i64 j7.1),(.agg #[(.int .i64 x73.1),(.int .i64 x73.2.1),(.slice x73.2.2.1.a x73.2.2.1.n x73.2.2.1.c),(.slice x73.2.2.2.1.a x73.2.2.2.1.n x73.2.2.2.1.c)]),(.agg #[(.int .i64 x74.1),(.int .i64 x74.2.1),(.slice x74.2.2.1.a x74.2.2.1.n x74.2.2.1.c),(.slice x74.2.2.2.1.a x74.2.2.2.1.n x74.2.2.2.1.c)])] [.sc .str,.sc .bool,.sc (.int .i64)] w71 (fun r75 w76=>
            Br ((((j7.2.1.n:Nat):Int):Int) != ((r15.n:Nat):Int))
             (R (.returned (.bool false)) w76)
             (LoopT (σ:=Sl × Addr × Addr × Sl × Addr × Addr × Int × Unit) (j7.2.1,j7.2.2.2.1,j7.2.2.2.2.1,r15,(Addr.mk b26 0 none),(Addr.mk b28 0 none),0,()) w76 fun l78 g79 w80 I81=>
              Br (decide ((l78.2.2.2.2.2.2.1:Int) < ((l78.2.2.2.1.n:Nat):Int)))
               (Idx l78.1.a l78.1.n 1 l78.2.2.2.2.2.2.1 fun a82=>
               LoadT (.sc .str) w80.drew a82 fun x83=>
               Idx l78.2.2.2.1.a l78.2.2.2.1.n 1 l78.2.2.2.2.2.2.1 fun a84=>
               LoadT (.sc .str) w80.drew a84 fun x85=>
               Br (!(x83.toList == x85.toList))
                (R (.returned (.bool false)) w80.drew)
                (I81 (l78.1,l78.2.1,l78.2.2.1,l78.2.2.2.1,l78.2.2.2.2.1,l78.2.2.2.2.2.1,(IntKind.wrap .i64 (l78.2.2.2.2.2.2.1 + 1)),()) w80.drew))
               (CallT Tryd.prog 14 #[] (.sc .bool) w80 (fun r86 w87=>
                Br r86
                 (LoadT (.agg [.int .i64,.int .i64,.sl,.sl]) w87 l78.2.1 fun x89=>
                 LoadT (.agg [.int .i64,.int .i64,.sl,.sl]) w87 l78.2.2.2.2.1 fun x90=>
                 CallT Tryd.prog 43 #[(.agg #[(.int .i64 x89.1),(.int .i64 x89.2.1),(.slice x89.2.2.1.a x89.2.2.1.n x89.2.2.1.c),(.slice x89.2.2.2.1.a x89.2.2.2.1.n x89.2.2.2.1.c)]),(.agg #[(.int .i64 x90.1),(.int .i64 x90.2.1),(.slice x90.2.2.1.a x90.2.2.1.n x90.2.2.1.c),(.slice x90.2.2.2.1.a x90.2.2.2.1.n x90.2.2.2.1.c)])] (.sc .bool) w87 (fun r91 w92=>
                  Br r91
                   (LoadT (.agg [.int .i64,.int .i64,.sl,.sl]) w92 l78.2.2.1 fun x94=>
                   LoadT (.agg [.int .i64,.int .i64,.sl,.sl]) w92 l78.2.2.2.2.2.1 fun x95=>
                   CallT Tryd.prog 43 #[(.agg #[(.int .i64 x94.1),(.int .i64 x94.2.1),(.slice x94.2.2.1.a x94.2.2.1.n x94.2.2.1.c),(.slice x94.2.2.2.1.a x94.2.2.2.1.n x94.2.2.2.1.c)]),(.agg #[(.int .i64 x95.1),(.int .i64 x95.2.1),(.slice x95.2.2.1.a x95.2.2.1.n x95.2.2.1.c),(.slice x95.2.2.2.1.a x95.2.2.2.1.n x95.2.2.2.1.c)])] (.sc .bool) w92 (fun r96 w97=>
                    R (.returned (.bool r96)) w97) (fun h98 w97=>R (.panicked h98) w97))
                   (R (.returned (.bool false)) w92)) (fun h93 w92=>R (.panicked h93) w92))
                 (R (.returned (.bool false)) w87)) (fun h88 w87=>R (.panicked h88) w87)))) (fun h77 w76=>R (.panicked h77) w76)) (fun h72 w71=>R (.panicked h72) w71)) (fun h68 w67=>R (.panicked h68) w67)) (fun h63 w62=>R (.panicked h63) w62)) (fun h58 w57=>R (.panicked h58) w57)) (fun h54 w53=>R (.panicked h54) w53)) (fun h50 w49=>R (.panicked h50) w49)) (fun h46 w45=>R (.panicked h46) w45)) (fun h42 w41=>R (.panicked h42) w41)) (fun h38 w37=>R (.panicked h38) w37)) (fun h34 w33=>R (.panicked h34) w33)
theorem stTail_ok {w W:World} (hl:Laid w) {k:Int} {gs:Sl} {gens:List ByteArray} (hg:StrsIn w gs gens) {x1 x2 y1 y2:Int} {sa sn ta tn:Sl} {a b:Aut} (ha:AutIn w (x1,x2,sa,sn,()) a) (hb:AutIn w (y1,y2,ta,tn,()) b) (ha20:a.next.length ≤ 20) (hb20:b.next.length ≤ 20) (s:ByteArray)
  {b1 b3 bA bB:Nat} (hW:Chg Nil w W) (h1:W.heap[b1]? = some (.cells #[.int .i64 x1,.int .i64 x2,sa.v,sn.v] 27 (0,0))) (h3:W.heap[b3]? = some (.cells #[.int .i64 y1,.int .i64 y2,ta.v,tn.v] 27 (0,0)))
  {rA rB:Int × Int × Sl × Sl × Unit} (hA:W.heap[bA]? = some (.cells #[.int .i64 rA.1,.int .i64 rA.2.1,rA.2.2.1.v,rA.2.2.2.1.v] 27 (0,0))) (hB:W.heap[bB]? = some (.cells #[.int .i64 rB.1,.int .i64 rB.2.1,rB.2.2.1.v,rB.2.2.2.1.v] 27 (0,0)))
  (ia:AutIn W rA a) (ib:AutIn W rB b) {r15:Sl} (hr:RdT W tS r15 gens) (hgl:gens.length ≤ 20)
  {R:Ending → World → Prop} (hR:∀ W',Chg Nil w W' → R (.returned (.bool true)) W'):stTail (k,gs,s,at0 b1,at0 b3,()) r15 bA bB R W:=by
 unfold stTail
 dsimp only
 have lay:∀ {V:World},Chg Nil W V → Laid V:=fun hV=>hl.nil (hW.then hV)
 have ldA:∀ {V:World},Chg Nil W V → ∀ {K:tA.den → Prop},K (x1,x2,sa,sn,()) → LoadT tA V (at0 b1) K:=fun hV K kk=>LoadT.mk tA (fun j v hv=>by rw [show at0 b1 = Addr.mk b1 0 none from rfl,cellOf (hV.heap h1 fun h=>h)]; simpa [Ty.cells] using hv) kk
 have ldB:∀ {V:World},Chg Nil W V → ∀ {K:tA.den → Prop},K (y1,y2,ta,tn,()) → LoadT tA V (at0 b3) K:=fun hV K kk=>LoadT.mk tA (fun j v hv=>by rw [show at0 b3 = Addr.mk b3 0 none from rfl,cellOf (hV.heap h3 fun h=>h)]; simpa [Ty.cells] using hv) kk
 have aA:∀ {V:World},Chg Nil W V → AutIn V (x1,x2,sa,sn,()) a:=fun hV=>ha.nil (hW.then hV)
 have aB:∀ {V:World},Chg Nil W V → AutIn V (y1,y2,ta,tn,()) b:=fun hV=>hb.nil (hW.then hV)
 obtain ⟨res,hf,hi⟩:=fold_total k gens
 refine RetN.call (Fold_any (hl.nil hW) (hg.nil hW) hi hf) ?_
 rintro r32 V1 ⟨c1,_,_⟩
 refine ldA c1 ?_
 refine Ret.call (AutIn.check (x:=(x1,x2,sa,sn,())) (aA c1) k) ?_
 rintro r36 V2 ⟨_,c2⟩
 have c2:=c1.then c2
 refine ldA c2 ?_
 refine RetN.call (Member_ret (x:=(x1,x2,sa,sn,())) (k:=k) (lay c2) (aA c2) s) ?_
 rintro r40 V3 ⟨_,c3⟩
 have c3:=c2.then c3
 refine ldA c3 ?_
 refine RetN.call (Basis_ret (x:=(x1,x2,sa,sn,())) (k:=k) (lay c3) (aA c3)) ?_
 rintro r44 V4 ⟨_,_,c4,_⟩
 have c4:=c3.then c4
 refine ldA c4 ?_
 refine RetN.call (Express_ret (x:=(x1,x2,sa,sn,())) (k:=k) (lay c4) (aA c4) s) ?_
 rintro r48 V5 ⟨_,_,c5,_⟩
 have c5:=c4.then c5
 refine ldA c5 ?_
 refine RetN.call (Index_ret (x:=(x1,x2,sa,sn,())) (k:=k) (lay c5) (aA c5)) ?_
 rintro r52 V6 ⟨_,c6⟩
 have c6:=c5.then c6
 refine ldA c6 ?_
 refine RetN.call (Coset_ret (x:=(x1,x2,sa,sn,())) (k:=k) (lay c6) (aA c6) s) ?_
 rintro r56 V7 ⟨_,c7⟩
 have c7:=c6.then c7
 refine ldA c7 (ldB c7 ?_)
 refine RetN.call (Intersect_ret (x:=(x1,x2,sa,sn,())) (y:=(y1,y2,ta,tn,())) (k:=k) (lay c7) (aA c7) (aB c7) ha20 hb20) ?_
 rintro r61 V8 ⟨_,_,c8,_⟩
 have c8:=c7.then c8
 refine ldA c8 (ldB c8 ?_)
 refine RetN.call (Join_ret (x:=(x1,x2,sa,sn,())) (y:=(y1,y2,ta,tn,())) (k:=k) (lay c8) (aA c8) (aB c8)) ?_
 rintro r66 V9 ⟨_,_,c9,_⟩
 have c9:=c8.then c9
 refine ldA c9 ?_
 refine RetN.call (Conjugate_ret (x:=(x1,x2,sa,sn,())) (k:=k) (lay c9) (aA c9) s) ?_
 rintro r70 V10 ⟨_,_,c10,_⟩
 have c10:=c9.then c10
 refine ldA c10 (ldB c10 ?_)
 refine RetN.call (Conjugator_ret (x:=(x1,x2,sa,sn,())) (y:=(y1,y2,ta,tn,())) (k:=k) (lay c10) (aA c10) (aB c10)) ?_
 rintro r75 V11 ⟨_,c11⟩
 have c11:=c10.then c11
 have gn:gs.n = gens.length:=hg.rd.len
 have rn:r15.n = gens.length:=hr.len
 refine Br.f (by rw [gn,rn]; simp) ?_
 refine LoopT.mk (fun z V=>∃ i:Nat,i ≤ gens.length ∧ z = (gs,at0 b1,at0 b3,r15,at0 bA,at0 bB,(i:Int),()) ∧ Chg Nil W V) (fun z _=>gens.length - z.2.2.2.2.2.2.1.toNat) ⟨0,Nat.zero_le _,rfl,c11⟩ ?_
 rintro z g V ⟨i,hi,rfl,hV⟩
 dsimp only
 refine Br.dec (fun hlt=>?_) (fun hge=>?_)
 ·have hlt:(i:Int) < ((r15.n:Nat):Int):=hlt
  have hd:Chg Nil W V.drew:=hV.then (Chg.drew V)
  obtain ⟨q,hq⟩:∃ q,gens[i]? = some q:=⟨_,List.getElem?_eq_getElem (by omega)⟩
  refine RdT.get (t:=tS) (hg.rd.chg (hW.then hd) fun _ _ h=>h) i rfl hq ?_
  refine RdT.get (t:=tS) (hr.chg hd fun _ _ h=>h) i rfl hq ?_
  refine Br.f (by simp) ⟨⟨i + 1,by omega,by rw [wrap64 (by omega) (by omega)]; rfl,hd⟩,?_⟩
  show gens.length - (IntKind.wrap .i64 ((i:Int) + 1)).toNat < gens.length - ((i:Int)).toNat
  rw [wrap64 (by omega) (by omega)]; omega
 refine Ret.call (sane_ret (lay hV)) ?_
 rintro _ U1 ⟨rfl,d1⟩
 have d1:=hV.then d1
 refine Br.t rfl ?_
 refine ldA d1 ?_
 refine LoadT.mk tA (x:=rA) (fun j v hv=>by rw [show at0 bA = Addr.mk bA 0 none from rfl,cellOf (d1.heap hA fun h=>h)]; simpa [Ty.cells] using hv) ?_
 refine Ret.call (equal_ret (x:=(x1,x2,sa,sn,())) (y:=rA) (aA d1) (ia.nil d1)) ?_
 rintro _ U2 ⟨rfl,d2⟩
 have d2:=d1.then d2
 refine Br.t rfl ?_
 refine ldB d2 ?_
 refine LoadT.mk tA (x:=rB) (fun j v hv=>by rw [show at0 bB = Addr.mk bB 0 none from rfl,cellOf (d2.heap hB fun h=>h)]; simpa [Ty.cells] using hv) ?_
 refine Ret.call (equal_ret (x:=(y1,y2,ta,tn,())) (y:=rB) (aB d2) (ib.nil d2)) ?_
 rintro _ U3 ⟨rfl,d3⟩
 exact hR _ (hW.then (d2.then d3))
theorem FoldStays_ret {w:World} (hl:Laid w) {k:Int} {gs:Sl} {gens:List ByteArray} (hg:StrsIn w gs gens) {x y:Int × Int × Sl × Sl × Unit} {a b:Aut} (ha:AutIn w x a) (hb:AutIn w y b) (la:∀ r ∈ a.next,r.length * 8 ≤ 140737488351232) (lb:∀ r ∈ b.next,r.length * 8 ≤ 140737488351232) (s:ByteArray) :
  Ret Tryd.prog 10 #[.int .i64 k,gs.v,.agg #[.int .i64 x.1,.int .i64 x.2.1,x.2.2.1.v,x.2.2.2.1.v],.agg #[.int .i64 y.1,.int .i64 y.2.1,y.2.2.1.v,y.2.2.2.1.v],.string s] (.sc .bool) w fun z w'=>z = true ∧ Chg Nil w w':=by
 obtain ⟨x1,x2,sa,sn,_⟩:=x
 obtain ⟨y1,y2,ta,tn,_⟩:=y
 refine cayleylaw21_FoldStays.calls k gs x1 x2 sa sn y1 y2 ta tn s ?_
 unfold cayleylaw21_FoldStays.sh
 refine New.mk fun b1 w1 hb1 hh1 hs1 hc1=>?_
 refine New.mk fun b3 w2 hb3 hh3 hs3 hc3=>?_
 have h12:w2.heap[b1]? = some _:=hc3.heap hh1 fun h=>h
 have hc02:=hc1.then hc3
 have ea1:sa.n = a.acc.length:=ha.rd.acc.len
 have eb1:ta.n = b.acc.length:=hb.rd.acc.len
 have ea2:sn.n = a.next.length:=by obtain ⟨_,_,_,sls,h4,h5,_⟩:=ha.rd; rw [h4.len,h5]
 have eb2:tn.n = b.next.length:=by obtain ⟨_,_,_,sls,h4,h5,_⟩:=hb.rd; rw [h4.len,h5]
 have eg:gs.n = gens.length:=hg.rd.len
 refine Join.by' (fun z W=>z = (k,gs,s,at0 b1,at0 b3,()) ∧ W = w2 ∧ a.acc.length ≤ 20 ∧ b.acc.length ≤ 20 ∧ a.next.length ≤ 20 ∧ b.next.length ≤ 20 ∧ gens.length ≤ 20) ?_ ?_
 rotate_left
 ·intro J hJ
  have out:∃ z:Bool,Ending.returned (.bool true) = .returned ((Ty.sc .bool).val z) ∧ z = true ∧ Chg Nil w w2:=⟨true,rfl,rfl,hc02⟩
  refine LoadT.sc (s:=.sl) (x:=sa) (by rw [cellOf h12]; rfl) ?_
  refine Br.dec (fun _=>Br.t rfl out) (fun h1=>?_)
  refine LoadT.sc (s:=.sl) (x:=sn) (by rw [cellOf h12]; rfl) ?_
  refine Br.dec (fun _=>Br.t rfl out) (fun h2=>?_)
  refine LoadT.sc (s:=.sl) (x:=ta) (by rw [cellOf hh3]; rfl) ?_
  refine Br.dec (fun _=>Br.t rfl out) (fun h3=>?_)
  refine LoadT.sc (s:=.sl) (x:=tn) (by rw [cellOf hh3]; rfl) ?_
  refine Br.dec (fun _=>Br.t rfl out) (fun h4=>?_)
  refine Br.dec (fun _=>Br.t rfl out) (fun h5=>?_)
  refine Br.dec (fun _=>out) (fun h6=>?_)
  have h1:¬ ((sa.n:Nat):Int) > 20:=h1
  have h2:¬ ((sn.n:Nat):Int) > 20:=h2
  have h3:¬ ((ta.n:Nat):Int) > 20:=h3
  have h4:¬ ((tn.n:Nat):Int) > 20:=h4
  have h5:¬ ((gs.n:Nat):Int) > 20:=h5
  exact hJ _ _ ⟨rfl,rfl,by omega,by omega,by omega,by omega,by omega⟩
 rintro z W g ⟨rfl,hW,la20,lb20,na20,nb20,g20⟩
 rw [hW]; clear hW
 dsimp only
 refine New.mk fun b13 w3 hb13 hn13 hz13 hc13=>?_
 have hc03:=hc02.then hc13
 have zz3:=hc02.size
 refine OwnT.appendOpt (t:=tS) ok22 rfl (by decide) (own_empty (t:=tS) hn13 (by decide)) (hg.nil hc03).rd (by simp; omega) (by simp only [maxLen]; simp; omega) fun r15 w4 ho hc4 hown=>?_
 rw [List.nil_append] at ho
 have hN4:Chg Nil w2 w4:=hc13.trans hc4 (fun _ _ h=>h) fun q hq ⟨ad,had,he⟩=>by cases had; dsimp only at he; omega
 have hc04:=hc02.then hN4
 have q1:∀ {W:World},Chg Nil w4 W → W.heap[b1]? = some _:=fun hW=>(hN4.then hW).heap h12 fun h=>h
 have q3:∀ {W:World},Chg Nil w4 W → W.heap[b3]? = some _:=fun hW=>(hN4.then hW).heap hh3 fun h=>h
 have cA:∀ {W:World},Chg Nil w4 W → ∀ {K:tA.den → World → Prop} {Kp:List PanicEntry → World → Prop},(∀ r W',AutO W' r a → Chg Nil W W' → K r W') → CallT Tryd.prog 42 #[.agg #[.int .i64 x1,.int .i64 x2,sa.v,sn.v]] tA W K Kp:=fun hW K Kp kk=>
  Ret.call (copied_ret (x:=(x1,x2,sa,sn,())) (ha.nil (hc04.then hW)) la (by omega) (by omega)) fun r W' ⟨e1,e2⟩=>kk r W' e1 e2
 have cB:∀ {W:World},Chg Nil w4 W → ∀ {K:tA.den → World → Prop} {Kp:List PanicEntry → World → Prop},(∀ r W',AutO W' r b → Chg Nil W W' → K r W') → CallT Tryd.prog 42 #[.agg #[.int .i64 y1,.int .i64 y2,ta.v,tn.v]] tA W K Kp:=fun hW K Kp kk=>
  Ret.call (copied_ret (x:=(y1,y2,ta,tn,())) (hb.nil (hc04.then hW)) lb (by omega) (by omega)) fun r W' ⟨e1,e2⟩=>kk r W' e1 e2
 have keep:∀ {W W':World} {b:Nat} {r:Int × Int × Sl × Sl × Unit} {c:Aut} {cs:Array Value},AutO W r c → W.heap[b]? = some (.cells cs 27 (0,0)) → Chg (· = b) W W' → AutO W' r c:=fun {W W' b r c cs} h hb hc=>h.chg hc fun q hq=>by
  have hq:q = b:=hq
  subst hq; exact ⟨_,_,hb⟩
 have ch:∀ {W W':World} {b:Nat},Chg Nil w4 W → Chg (· = b) W W' → w4.heap.size ≤ b → Chg Nil w4 W':=fun hW hc hb=>hW.trans hc (fun _ _ h=>h) fun q hq hk=>by have hk:q = _:=hk; omega
 have fin:∀ {W:World} {bA bB:Nat} {rA rB:Int × Int × Sl × Sl × Unit},Chg Nil w4 W → W.heap[bA]? = some (.cells #[.int .i64 0,.int .i64 0,.slice none 0 0,.slice none 0 0] 27 (0,0)) → W.heap[bB]? = some (.cells #[.int .i64 0,.int .i64 0,.slice none 0 0,.slice none 0 0] 27 (0,0)) →
   bA ≠ bB → w4.heap.size ≤ bA → w4.heap.size ≤ bB → AutO W rA a → AutO W rB b →
   StoreN W (Addr.mk bA 0 none) [.int .i64 rA.1,.int .i64 rA.2.1,.slice rA.2.2.1.a rA.2.2.1.n rA.2.2.1.c,.slice rA.2.2.2.1.a rA.2.2.2.1.n rA.2.2.2.1.c] fun W2=>Chg Nil w4 W2 ∧ StoreN W2 (Addr.mk bB 0 none) [.int .i64 rB.1,.int .i64 rB.2.1,.slice rB.2.2.1.a rB.2.2.1.n rB.2.2.1.c,.slice rB.2.2.2.1.a rB.2.2.2.1.n rB.2.2.2.1.c] fun W3=>
    stTail (k,gs,s,at0 b1,at0 b3,()) r15 bA bB (fun e w'=>∃ z,e = .returned ((Ty.sc .bool).val z) ∧ z = true ∧ Chg Nil w w') W3:=fun {W bA bB rA rB} dW hA hB hne gA gB rA' rB'=>by
  refine StoreN.whole (vs:=[.int .i64 rA.1,.int .i64 rA.2.1,.slice rA.2.2.1.a rA.2.2.1.n rA.2.2.1.c,.slice rA.2.2.2.1.a rA.2.2.2.1.n rA.2.2.2.1.c]) hA rfl fun W2 f2 c2 _=>?_
  have d2:=ch dW c2 gA
  refine ⟨d2,?_⟩
  have hB2:=c2.heap hB fun h=>hne h.symm
  refine StoreN.whole (vs:=[.int .i64 rB.1,.int .i64 rB.2.1,.slice rB.2.2.1.a rB.2.2.1.n rB.2.2.1.c,.slice rB.2.2.2.1.a rB.2.2.2.1.n rB.2.2.2.1.c]) hB2 rfl fun W3 f3 c3 _=>?_
  have d3:=ch d2 c3 gB
  exact stTail_ok (rA:=rA) (rB:=rB) hl hg ha hb na20 nb20 s (hc04.then d3) (q1 d3) (q3 d3) (c3.heap f2 fun h=>hne h) f3 (keep (keep rA' hA c2) hB2 c3).aut (keep (keep rB' hA c2) hB2 c3).aut (ho.rd.chg d3 fun _ _ h=>h) g20 fun W' e2=>⟨true,rfl,rfl,e2⟩
 have d0:Chg Nil w4 w4.drew:=Chg.drew w4
 have s0:w4.drew.heap.size = w4.heap.size:=rfl
 refine ⟨fun X=>Chg Nil w4 X,d0,?_⟩
 refine LoadS.mk tA (x:=(x1,x2,sa,sn,())) (fun X hX j v hv=>by rw [show at0 b1 = Addr.mk b1 0 none from rfl,cellOf (q1 hX)]; simpa [Ty.cells] using hv) ?_
 refine LoadS.mk tA (x:=(y1,y2,ta,tn,())) (fun X hX j v hv=>by rw [show at0 b3 = Addr.mk b3 0 none from rfl,cellOf (q3 hX)]; simpa [Ty.cells] using hv) ?_
 refine ⟨?_,?_,?_⟩
 ·refine cA d0 fun rA W1 rA_1 c1=>?_
  have d1:=Chg.then d0 c1
  have s1:=c1.size
  refine ⟨d1,?_⟩
  refine ⟨?_,?_,?_⟩
  ·refine cB d1 fun rB W2 rB_2 c2=>?_
   have d2:=Chg.then d1 c2
   have s2:=c2.size
   have rA_2:=rA_1.nil c2
   refine ⟨d2,?_⟩
   refine ⟨?_,?_⟩
   ·refine New.mk fun b3 W3 e3 hb3_3 z3 c3=>?_
    have d3:=Chg.then d2 c3
    have s3:=c3.size
    have rA_3:=rA_2.nil c3
    have rB_3:=rB_2.nil c3
    refine ⟨d3,?_⟩
    refine New.mk fun b4 W4 e4 hb4_4 z4 c4=>?_
    have d4:=Chg.then d3 c4
    have s4:=c4.size
    have hb3_4:=c4.heap hb3_3 fun h=>h
    have rA_4:=rA_3.nil c4
    have rB_4:=rB_3.nil c4
    refine ⟨d4,?_⟩
    exact fin d4 hb3_4 hb4_4 (by omega) (by omega) (by omega) rA_4 rB_4
   ·refine New.mk fun b5 W5 e5 hb5_5 z5 c5=>?_
    have d5:=Chg.then d2 c5
    have s5:=c5.size
    have rA_5:=rA_2.nil c5
    have rB_5:=rB_2.nil c5
    refine ⟨d5,?_⟩
    refine New.mk fun b6 W6 e6 hb6_6 z6 c6=>?_
    have d6:=Chg.then d5 c6
    have s6:=c6.size
    have hb5_6:=c6.heap hb5_5 fun h=>h
    have rA_6:=rA_5.nil c6
    have rB_6:=rB_5.nil c6
    refine ⟨d6,?_⟩
    exact fin d6 hb6_6 hb5_6 (by omega) (by omega) (by omega) rA_6 rB_6
  ·refine New.mk fun b7 W7 e7 hb7_7 z7 c7=>?_
   have d7:=Chg.then d1 c7
   have s7:=c7.size
   have rA_7:=rA_1.nil c7
   refine ⟨d7,?_⟩
   refine ⟨?_,?_⟩
   ·refine cB d7 fun rB W8 rB_8 c8=>?_
    have d8:=Chg.then d7 c8
    have s8:=c8.size
    have hb7_8:=c8.heap hb7_7 fun h=>h
    have rA_8:=rA_7.nil c8
    refine ⟨d8,?_⟩
    refine New.mk fun b9 W9 e9 hb9_9 z9 c9=>?_
    have d9:=Chg.then d8 c9
    have s9:=c9.size
    have hb7_9:=c9.heap hb7_8 fun h=>h
    have rA_9:=rA_8.nil c9
    have rB_9:=rB_8.nil c9
    refine ⟨d9,?_⟩
    exact fin d9 hb7_9 hb9_9 (by omega) (by omega) (by omega) rA_9 rB_9
   ·refine New.mk fun b10 W10 e10 hb10_10 z10 c10=>?_
    have d10:=Chg.then d7 c10
    have s10:=c10.size
    have hb7_10:=c10.heap hb7_7 fun h=>h
    have rA_10:=rA_7.nil c10
    refine ⟨d10,?_⟩
    refine cB d10 fun rB W11 rB_11 c11=>?_
    have d11:=Chg.then d10 c11
    have s11:=c11.size
    have hb7_11:=c11.heap hb7_10 fun h=>h
    have hb10_11:=c11.heap hb10_10 fun h=>h
    have rA_11:=rA_10.nil c11
    refine ⟨d11,?_⟩
    exact fin d11 hb7_11 hb10_11 (by omega) (by omega) (by omega) rA_11 rB_11
  ·refine New.mk fun b12 W12 e12 hb12_12 z12 c12=>?_
   have d12:=Chg.then d1 c12
   have s12:=c12.size
   have rA_12:=rA_1.nil c12
   refine ⟨d12,?_⟩
   refine ⟨?_,?_⟩
   ·refine cB d12 fun rB W13 rB_13 c13=>?_
    have d13:=Chg.then d12 c13
    have s13:=c13.size
    have hb12_13:=c13.heap hb12_12 fun h=>h
    have rA_13:=rA_12.nil c13
    refine ⟨d13,?_⟩
    refine New.mk fun b14 W14 e14 hb14_14 z14 c14=>?_
    have d14:=Chg.then d13 c14
    have s14:=c14.size
    have hb12_14:=c14.heap hb12_13 fun h=>h
    have rA_14:=rA_13.nil c14
    have rB_14:=rB_13.nil c14
    refine ⟨d14,?_⟩
    exact fin d14 hb14_14 hb12_14 (by omega) (by omega) (by omega) rA_14 rB_14
   ·refine New.mk fun b15 W15 e15 hb15_15 z15 c15=>?_
    have d15:=Chg.then d12 c15
    have s15:=c15.size
    have hb12_15:=c15.heap hb12_12 fun h=>h
    have rA_15:=rA_12.nil c15
    refine ⟨d15,?_⟩
    refine cB d15 fun rB W16 rB_16 c16=>?_
    have d16:=Chg.then d15 c16
    have s16:=c16.size
    have hb12_16:=c16.heap hb12_15 fun h=>h
    have hb15_16:=c16.heap hb15_15 fun h=>h
    have rA_16:=rA_15.nil c16
    refine ⟨d16,?_⟩
    exact fin d16 hb15_16 hb12_16 (by omega) (by omega) (by omega) rA_16 rB_16
 ·refine New.mk fun b17 W17 e17 hb17_17 z17 c17=>?_
  have d17:=Chg.then d0 c17
  have s17:=c17.size
  refine ⟨d17,?_⟩
  refine ⟨?_,?_⟩
  ·refine cA d17 fun rA W18 rA_18 c18=>?_
   have d18:=Chg.then d17 c18
   have s18:=c18.size
   have hb17_18:=c18.heap hb17_17 fun h=>h
   refine ⟨d18,?_⟩
   refine ⟨?_,?_⟩
   ·refine cB d18 fun rB W19 rB_19 c19=>?_
    have d19:=Chg.then d18 c19
    have s19:=c19.size
    have hb17_19:=c19.heap hb17_18 fun h=>h
    have rA_19:=rA_18.nil c19
    refine ⟨d19,?_⟩
    refine New.mk fun b20 W20 e20 hb20_20 z20 c20=>?_
    have d20:=Chg.then d19 c20
    have s20:=c20.size
    have hb17_20:=c20.heap hb17_19 fun h=>h
    have rA_20:=rA_19.nil c20
    have rB_20:=rB_19.nil c20
    refine ⟨d20,?_⟩
    exact fin d20 hb17_20 hb20_20 (by omega) (by omega) (by omega) rA_20 rB_20
   ·refine New.mk fun b21 W21 e21 hb21_21 z21 c21=>?_
    have d21:=Chg.then d18 c21
    have s21:=c21.size
    have hb17_21:=c21.heap hb17_18 fun h=>h
    have rA_21:=rA_18.nil c21
    refine ⟨d21,?_⟩
    refine cB d21 fun rB W22 rB_22 c22=>?_
    have d22:=Chg.then d21 c22
    have s22:=c22.size
    have hb17_22:=c22.heap hb17_21 fun h=>h
    have hb21_22:=c22.heap hb21_21 fun h=>h
    have rA_22:=rA_21.nil c22
    refine ⟨d22,?_⟩
    exact fin d22 hb17_22 hb21_22 (by omega) (by omega) (by omega) rA_22 rB_22
  ·refine New.mk fun b23 W23 e23 hb23_23 z23 c23=>?_
   have d23:=Chg.then d17 c23
   have s23:=c23.size
   have hb17_23:=c23.heap hb17_17 fun h=>h
   refine ⟨d23,?_⟩
   refine cA d23 fun rA W24 rA_24 c24=>?_
   have d24:=Chg.then d23 c24
   have s24:=c24.size
   have hb17_24:=c24.heap hb17_23 fun h=>h
   have hb23_24:=c24.heap hb23_23 fun h=>h
   refine ⟨d24,?_⟩
   refine cB d24 fun rB W25 rB_25 c25=>?_
   have d25:=Chg.then d24 c25
   have s25:=c25.size
   have hb17_25:=c25.heap hb17_24 fun h=>h
   have hb23_25:=c25.heap hb23_24 fun h=>h
   have rA_25:=rA_24.nil c25
   refine ⟨d25,?_⟩
   exact fin d25 hb17_25 hb23_25 (by omega) (by omega) (by omega) rA_25 rB_25
 ·refine New.mk fun b26 W26 e26 hb26_26 z26 c26=>?_
  have d26:=Chg.then d0 c26
  have s26:=c26.size
  refine ⟨d26,?_⟩
  refine ⟨?_,?_⟩
  ·refine cA d26 fun rA W27 rA_27 c27=>?_
   have d27:=Chg.then d26 c27
   have s27:=c27.size
   have hb26_27:=c27.heap hb26_26 fun h=>h
   refine ⟨d27,?_⟩
   refine ⟨?_,?_⟩
   ·refine cB d27 fun rB W28 rB_28 c28=>?_
    have d28:=Chg.then d27 c28
    have s28:=c28.size
    have hb26_28:=c28.heap hb26_27 fun h=>h
    have rA_28:=rA_27.nil c28
    refine ⟨d28,?_⟩
    refine New.mk fun b29 W29 e29 hb29_29 z29 c29=>?_
    have d29:=Chg.then d28 c29
    have s29:=c29.size
    have hb26_29:=c29.heap hb26_28 fun h=>h
    have rA_29:=rA_28.nil c29
    have rB_29:=rB_28.nil c29
    refine ⟨d29,?_⟩
    exact fin d29 hb29_29 hb26_29 (by omega) (by omega) (by omega) rA_29 rB_29
   ·refine New.mk fun b30 W30 e30 hb30_30 z30 c30=>?_
    have d30:=Chg.then d27 c30
    have s30:=c30.size
    have hb26_30:=c30.heap hb26_27 fun h=>h
    have rA_30:=rA_27.nil c30
    refine ⟨d30,?_⟩
    refine cB d30 fun rB W31 rB_31 c31=>?_
    have d31:=Chg.then d30 c31
    have s31:=c31.size
    have hb26_31:=c31.heap hb26_30 fun h=>h
    have hb30_31:=c31.heap hb30_30 fun h=>h
    have rA_31:=rA_30.nil c31
    refine ⟨d31,?_⟩
    exact fin d31 hb30_31 hb26_31 (by omega) (by omega) (by omega) rA_31 rB_31
  ·refine New.mk fun b32 W32 e32 hb32_32 z32 c32=>?_
   have d32:=Chg.then d26 c32
   have s32:=c32.size
   have hb26_32:=c32.heap hb26_26 fun h=>h
   refine ⟨d32,?_⟩
   refine cA d32 fun rA W33 rA_33 c33=>?_
   have d33:=Chg.then d32 c33
   have s33:=c33.size
   have hb26_33:=c33.heap hb26_32 fun h=>h
   have hb32_33:=c33.heap hb32_32 fun h=>h
   refine ⟨d33,?_⟩
   refine cB d33 fun rB W34 rB_34 c34=>?_
   have d34:=Chg.then d33 c34
   have s34:=c34.size
   have hb26_34:=c34.heap hb26_33 fun h=>h
   have hb32_34:=c34.heap hb32_33 fun h=>h
   have rA_34:=rA_33.nil c34
   refine ⟨d34,?_⟩
   exact fin d34 hb32_34 hb26_34 (by omega) (by omega) (by omega) rA_34 rB_34
end Go.Proofs.YtffdjfkekdoeaaaDoor.Fo
end
