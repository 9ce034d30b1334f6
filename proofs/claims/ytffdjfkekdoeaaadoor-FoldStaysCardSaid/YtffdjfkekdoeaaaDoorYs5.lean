/- Parts of a proof, laid one behind the other by our own merge.py: ShK LwCored LwMapI ShA PlIndex LwAlike LwCoreTot ShT LwConjr LwEqual PlConj RfPaths LwConj LwInter LwInter2 LwLight. -/
import Derived.Test.YtffdjfkekdoeaaaDoorYs1
import Derived.Test.YtffdjfkekdoeaaaDoorProg
import Derived.KernelRfl
import Derived.Test.YtffdjfkekdoeaaaDoorYs4
import Derived.Laws.StructEq
import Derived.Test.YtffdjfkekdoeaaaDoorYs3
set_option linter.unusedVariables false
set_option linter.unusedSimpArgs false
section
set_option maxRecDepth 10000
namespace Go.Proofs.YtffdjfkekdoeaaaDoor
open Fw
noncomputable def fold_cored.ann:Ann where
 loops:=fun | 3=>[(1,.sc .adr),(2,.sc .adr),(3,.sc .adr),(18,.sc (.int .i64)),(19,.sc (.int .i64))] | 7=>[(1,.sc .adr),(2,.sc .adr),(3,.sc .adr)] | _=>[]
 joins:=fun | _=>none
noncomputable def fold_cored.body:Code:=match Tryd.f73.body with | some c=>c | none=>.skip
def fold_cored.sh (p0_0:Int) (p0_1:Int) (p0_2:Sl) (p0_3:Sl) (R:Ending → World → Prop) (w:World):Prop:=
 New w (.cells #[(.int .i64 p0_0),(.int .i64 p0_1),(.slice p0_2.a p0_2.n p0_2.c),(.slice p0_3.a p0_3.n p0_3.c)] 27) fun b1 w2=>
 New w2 (.cells #[(.slice none 0 0),(.int .i64 0),(.int .i64 0),(.string (ByteArray.mk #[]))] 115) fun b3 w4=>
 ∃ S5:World → Prop,S5 w4.drew ∧
 (LoadS S5 (.sc .sl) ((Addr.mk b1 0 none).add 3) fun x6=>
 LoadS S5 (.sc .sl) ((Addr.mk b1 0 none).add 3) fun x7=>
 (RunT Tryd.prog (.sc .sl) (Instr.makeSlice 24 (.int .i64 ((x6.n:Nat):Int)) (.int .i64 ((x6.n:Nat):Int))) w4.drew fun r8 w9=>
  S5 w9 ∧
  (New w9 (.cells #[(.slice none 0 0),(.int .i64 0),(.int .i64 0),(.string (ByteArray.mk #[]))] 115) fun b10 w11=>
   S5 w11 ∧
   (StoreN w11 (Addr.mk b10 0 none) [(.slice r8.a r8.n r8.c),(.int .i64 ((x7.n:Nat):Int)),(.int .i64 0),(.string (ByteArray.mk #[]))] fun w12=>
    LoadT (.sc .sl) w12 ((Addr.mk b10 0 none).add 0) fun x13=>
    LoopT (σ:=Addr × Addr × Addr × Int × Int × Unit) ((Addr.mk b1 0 none),(Addr.mk b3 0 none),(Addr.mk b10 0 none),((x13.n:Nat):Int),0,()) w12 fun l14 g15 w16 I17=>
     Br (decide ((l14.2.2.2.2.1:Int) < l14.2.2.2.1))
      (LoadT (.sc .sl) w16 (l14.2.2.1.add 0) fun x18=>
      Idx x18.a x18.n 1 l14.2.2.2.2.1 fun a19=>
      Store1 w16 a19 (.bool true) fun w20=>
      I17 (l14.1,l14.2.1,l14.2.2.1,l14.2.2.2.1,(IntKind.wrap .i64 (l14.2.2.2.2.1 + 1)),()) w20)
      (LoopD (σ:=Addr × Addr × Addr × Unit) (l14.1,l14.2.1,l14.2.2.1,()) ([]) w16 fun l21 d25 g22 w23 I24=>
       New w23 (.cells #[(.slice none 0 0)] 85) fun b26 w27=>
       LoadT (.agg [.int .i64,.int .i64,.sl,.sl]) w27 l21.1 fun x28=>
       LoadT (.sc (.int .i64)) w27 (l21.2.2.1.add 2) fun x29=>
       CallT Tryd.prog 64 #[(.agg #[(.int .i64 x28.1),(.int .i64 x28.2.1),(.slice x28.2.2.1.a x28.2.2.1.n x28.2.2.1.c),(.slice x28.2.2.2.1.a x28.2.2.2.1.n x28.2.2.2.1.c)]),(.int .i64 x29)] (.sc (.clo 88 2)) w27 (fun r30 w31=>
        RangeF Tryd.prog 88 #[] #[(.pointer (some r30.1)),(.pointer (some r30.2.1))] [.sc (.int .i64),.sc (.int .i64)] w31 (fun x34 w35 Kc36 Kx37=>
         LoadT (.sc .sl) w35 (l21.2.2.1.add 0) fun x41=>
          Idx x41.a x41.n 1 x34.2.1 fun a42=>
          LoadT (.sc .bool) w35 a42 fun x43=>
          Br x43
           (LoadT (.sc .sl) w35 (Addr.mk b26 0 none) fun x44=>
           New w35 (.cells #[(.int .i64 x34.1)] 3) fun b45 w46=>
           RunT Tryd.prog (.sc .sl) (Builtin.append_ #[85,85] 85 #[(.slice x44.a x44.n x44.c),(.slice (some (Addr.mk b45 0 none)) 1 1)]) w46 fun r47 w48=>
           Store1 w48 (Addr.mk b26 0 none) (.slice r47.a r47.n r47.c) fun w49=>
           Kc36 w49)
           (Kc36 w35))
         (fun j38 d39 w40=>match j38 with
         | none=>
           LoadT (.sc .sl) w40 (Addr.mk b26 0 none) fun x50=>
           Br ((((x50.n:Nat):Int):Int) != 1)
            (LoadT (.agg [.sl,.int .i64,.int .i64,.str]) w40 l21.2.2.1 fun x51=>
            StoreN w40 l21.2.1 [(.slice x51.1.a x51.1.n x51.1.c),(.int .i64 x51.2.1),(.int .i64 x51.2.2.1),(.string x51.2.2.2.1)] fun w52=>
            RetM (Fw.mark d39 :: d25) w52 fun z53=>
            LoadT (.agg [.sl,.int .i64,.int .i64,.str]) z53 l21.2.1 fun x54=>
            R (.returned (.agg #[(.slice x54.1.a x54.1.n x54.1.c),(.int .i64 x54.2.1),(.int .i64 x54.2.2.1),(.string x54.2.2.2.1)])) z53)
            (LoadT (.sc .sl) w40 (l21.2.2.1.add 0) fun x55=>
            LoadT (.sc (.int .i64)) w40 (l21.2.2.1.add 2) fun x56=>
            Idx x55.a x55.n 1 x56 fun a57=>
            Store1 w40 a57 (.bool false) fun w58=>
            LoadT (.sc (.int .i64)) w58 (l21.2.2.1.add 1) fun x59=>
            Store1 w58 (l21.2.2.1.add 1) (.int .i64 (IntKind.wrap .i64 (x59 - 1))) fun w60=>
            LoadT (.sc .sl) w60.drew (l21.1.add 3) fun x61=>
            LoadT (.sc (.int .i64)) w60.drew (l21.2.2.1.add 2) fun x62=>
            Idx x61.a x61.n 1 x62 fun a63=>
            LoadT (.sc .sl) w60.drew a63 fun x64=>
            LoadT (.sc .sl) w60.drew (Addr.mk b26 0 none) fun x65=>
            Idx x65.a x65.n 1 0 fun a66=>
            LoadT (.sc (.int .i64)) w60.drew a66 fun x67=>
            Idx x64.a x64.n 1 x67 fun a68=>
            LoadT (.sc (.int .i64)) w60.drew a68 fun x69=>
            Store1 w60.drew (l21.2.2.1.add 2) (.int .i64 x69) fun w70=>
            ∃ S71:World → Prop,S71 w70.drew ∧
            (LoadS S71 (.sc .str) (l21.2.2.1.add 3) fun x72=>
            LoadS S71 (.sc .sl) (Addr.mk b26 0 none) fun x73=>
            Idx x73.a x73.n 1 0 fun a74=>
            LoadS S71 (.sc (.int .i64)) a74 fun x75=>
            CallT Tryd.prog 86 #[(.int .i64 x75)] (.sc (.int .u8)) w70.drew (fun r76 w77=>
              S71 w77 ∧
              (New w77 (.cells #[(.int .u8 r76)] 5) fun b80 w81=>
               S71 w81 ∧
               (RunT Tryd.prog (.sc .str) (convert 87 9 (.slice (some (Addr.mk b80 0 none)) 1 1)) w81 fun r82 w83=>
                S71 w83 ∧
                ((((x72.size + r82.size:Nat):Int) ≤ 9223372036854775807) ∧
                Store1 w83 (l21.2.2.1.add 3) (.string (x72 ++ r82)) fun w84=>
                 I24 (l21.1,l21.2.1,l21.2.2.1,()) (Fw.mark d39 :: d25) w84)))) (fun h78 w77=>RetM (Fw.mark d39 :: d25) w77 fun z79=>R (.panicked h78) z79)))
         | some (.exit i)=>
          False
         | some .ret=>
           RetM (Fw.mark d39 :: d25) w40 fun z85=>
           LoadT (.agg [.sl,.int .i64,.int .i64,.str]) z85 l21.2.1 fun x86=>
           R (.returned (.agg #[(.slice x86.1.a x86.1.n x86.1.c),(.int .i64 x86.2.1),(.int .i64 x86.2.2.1),(.string x86.2.2.2.1)])) z85
         | some _=>False)) (fun h32 w31=>RetM (d25) w31 fun z33=>R (.panicked h32) z33))))) ∧
 (New w4.drew (.cells #[(.slice none 0 0),(.int .i64 0),(.int .i64 0),(.string (ByteArray.mk #[]))] 115) fun b87 w88=>
  S5 w88 ∧
  (RunT Tryd.prog (.sc .sl) (Instr.makeSlice 24 (.int .i64 ((x6.n:Nat):Int)) (.int .i64 ((x6.n:Nat):Int))) w88 fun r89 w90=>
   S5 w90 ∧
   (StoreN w90 (Addr.mk b87 0 none) [(.slice r89.a r89.n r89.c),(.int .i64 ((x7.n:Nat):Int)),(.int .i64 0),(.string (ByteArray.mk #[]))] fun w91=>
    LoadT (.sc .sl) w91 ((Addr.mk b87 0 none).add 0) fun x92=>
    LoopT (σ:=Addr × Addr × Addr × Int × Int × Unit) ((Addr.mk b1 0 none),(Addr.mk b3 0 none),(Addr.mk b87 0 none),((x92.n:Nat):Int),0,()) w91 fun l93 g94 w95 I96=>
     Br (decide ((l93.2.2.2.2.1:Int) < l93.2.2.2.1))
      (LoadT (.sc .sl) w95 (l93.2.2.1.add 0) fun x97=>
      Idx x97.a x97.n 1 l93.2.2.2.2.1 fun a98=>
      Store1 w95 a98 (.bool true) fun w99=>
      I96 (l93.1,l93.2.1,l93.2.2.1,l93.2.2.2.1,(IntKind.wrap .i64 (l93.2.2.2.2.1 + 1)),()) w99)
      (LoopD (σ:=Addr × Addr × Addr × Unit) (l93.1,l93.2.1,l93.2.2.1,()) ([]) w95 fun l100 d104 g101 w102 I103=>
       New w102 (.cells #[(.slice none 0 0)] 85) fun b105 w106=>
       LoadT (.agg [.int .i64,.int .i64,.sl,.sl]) w106 l100.1 fun x107=>
       LoadT (.sc (.int .i64)) w106 (l100.2.2.1.add 2) fun x108=>
       CallT Tryd.prog 64 #[(.agg #[(.int .i64 x107.1),(.int .i64 x107.2.1),(.slice x107.2.2.1.a x107.2.2.1.n x107.2.2.1.c),(.slice x107.2.2.2.1.a x107.2.2.2.1.n x107.2.2.2.1.c)]),(.int .i64 x108)] (.sc (.clo 88 2)) w106 (fun r109 w110=>
        RangeF Tryd.prog 88 #[] #[(.pointer (some r109.1)),(.pointer (some r109.2.1))] [.sc (.int .i64),.sc (.int .i64)] w110 (fun x113 w114 Kc115 Kx116=>
         LoadT (.sc .sl) w114 (l100.2.2.1.add 0) fun x120=>
          Idx x120.a x120.n 1 x113.2.1 fun a121=>
          LoadT (.sc .bool) w114 a121 fun x122=>
          Br x122
           (LoadT (.sc .sl) w114 (Addr.mk b105 0 none) fun x123=>
           New w114 (.cells #[(.int .i64 x113.1)] 3) fun b124 w125=>
           RunT Tryd.prog (.sc .sl) (Builtin.append_ #[85,85] 85 #[(.slice x123.a x123.n x123.c),(.slice (some (Addr.mk b124 0 none)) 1 1)]) w125 fun r126 w127=>
           Store1 w127 (Addr.mk b105 0 none) (.slice r126.a r126.n r126.c) fun w128=>
           Kc115 w128)
           (Kc115 w114))
         (fun j117 d118 w119=>match j117 with
         | none=>
           LoadT (.sc .sl) w119 (Addr.mk b105 0 none) fun x129=>
           Br ((((x129.n:Nat):Int):Int) != 1)
            (LoadT (.agg [.sl,.int .i64,.int .i64,.str]) w119 l100.2.2.1 fun x130=>
            StoreN w119 l100.2.1 [(.slice x130.1.a x130.1.n x130.1.c),(.int .i64 x130.2.1),(.int .i64 x130.2.2.1),(.string x130.2.2.2.1)] fun w131=>
            RetM (Fw.mark d118 :: d104) w131 fun z132=>
            LoadT (.agg [.sl,.int .i64,.int .i64,.str]) z132 l100.2.1 fun x133=>
            R (.returned (.agg #[(.slice x133.1.a x133.1.n x133.1.c),(.int .i64 x133.2.1),(.int .i64 x133.2.2.1),(.string x133.2.2.2.1)])) z132)
            (LoadT (.sc .sl) w119 (l100.2.2.1.add 0) fun x134=>
            LoadT (.sc (.int .i64)) w119 (l100.2.2.1.add 2) fun x135=>
            Idx x134.a x134.n 1 x135 fun a136=>
            Store1 w119 a136 (.bool false) fun w137=>
            LoadT (.sc (.int .i64)) w137 (l100.2.2.1.add 1) fun x138=>
            Store1 w137 (l100.2.2.1.add 1) (.int .i64 (IntKind.wrap .i64 (x138 - 1))) fun w139=>
            LoadT (.sc .sl) w139.drew (l100.1.add 3) fun x140=>
            LoadT (.sc (.int .i64)) w139.drew (l100.2.2.1.add 2) fun x141=>
            Idx x140.a x140.n 1 x141 fun a142=>
            LoadT (.sc .sl) w139.drew a142 fun x143=>
            LoadT (.sc .sl) w139.drew (Addr.mk b105 0 none) fun x144=>
            Idx x144.a x144.n 1 0 fun a145=>
            LoadT (.sc (.int .i64)) w139.drew a145 fun x146=>
            Idx x143.a x143.n 1 x146 fun a147=>
            LoadT (.sc (.int .i64)) w139.drew a147 fun x148=>
            Store1 w139.drew (l100.2.2.1.add 2) (.int .i64 x148) fun w149=>
            ∃ S150:World → Prop,S150 w149.drew ∧
            (LoadS S150 (.sc .str) (l100.2.2.1.add 3) fun x151=>
            LoadS S150 (.sc .sl) (Addr.mk b105 0 none) fun x152=>
            Idx x152.a x152.n 1 0 fun a153=>
            LoadS S150 (.sc (.int .i64)) a153 fun x154=>
            CallT Tryd.prog 86 #[(.int .i64 x154)] (.sc (.int .u8)) w149.drew (fun r155 w156=>
              S150 w156 ∧
              (New w156 (.cells #[(.int .u8 r155)] 5) fun b159 w160=>
               S150 w160 ∧
               (RunT Tryd.prog (.sc .str) (convert 87 9 (.slice (some (Addr.mk b159 0 none)) 1 1)) w160 fun r161 w162=>
                S150 w162 ∧
                ((((x151.size + r161.size:Nat):Int) ≤ 9223372036854775807) ∧
                Store1 w162 (l100.2.2.1.add 3) (.string (x151 ++ r161)) fun w163=>
                 I103 (l100.1,l100.2.1,l100.2.2.1,()) (Fw.mark d118 :: d104) w163)))) (fun h157 w156=>RetM (Fw.mark d118 :: d104) w156 fun z158=>R (.panicked h157) z158)))
         | some (.exit i)=>
          False
         | some .ret=>
           RetM (Fw.mark d118 :: d104) w119 fun z164=>
           LoadT (.agg [.sl,.int .i64,.int .i64,.str]) z164 l100.2.1 fun x165=>
           R (.returned (.agg #[(.slice x165.1.a x165.1.n x165.1.c),(.int .i64 x165.2.1),(.int .i64 x165.2.2.1),(.string x165.2.2.2.1)])) z164
         | some _=>False)) (fun h111 w110=>RetM (d104) w110 fun z112=>R (.panicked h111) z112))))))
theorem fold_cored.calls (p0_0:Int) (p0_1:Int) (p0_2:Sl) (p0_3:Sl) {R:Ending → World → Prop} {w:World} (h:fold_cored.sh p0_0 p0_1 p0_2 p0_3 R w):Calls Tryd.prog 73 #[(.agg #[(.int .i64 p0_0),(.int .i64 p0_1),(.slice p0_2.a p0_2.n p0_2.c),(.slice p0_3.a p0_3.n p0_3.c)])] w R:=calls_of_wpc mixed Tryd.func73 (by kernel_rfl) (by kernel_rfl) ((show _ = wpc Tryd.prog fold_cored.ann fold_cored.body (fnKs Tryd.prog Tryd.f73 R) [] (env0 #[(.agg #[(.int .i64 p0_0),(.int .i64 p0_1),(.slice p0_2.a p0_2.n p0_2.c),(.slice p0_3.a p0_3.n p0_3.c)])]) w by kernel_rfl).mp h)
end Go.Proofs.YtffdjfkekdoeaaaDoor
end
section
set_option maxRecDepth 8000
set_option maxHeartbeats 4000000
namespace Go.Proofs.YtffdjfkekdoeaaaDoor.Fo
open Fw Wd Rf Pl
structure Co where
 inn:List Bool
 size:Int
 base:Nat
 stem:ByteArray
def letE (inn:List Bool) (es:List (Int × Int × Unit)):List Int:=(es.filter fun e=>inn.getD e.2.1.toNat false).map (·.1)
def coreF:Nat → List (List Int) → Co → Option Co
 | 0,_,_=>none
 | n + 1,nx,c=>
  match letE c.inn (edgesFrom 0 (nx.getD c.base [])) with
  | [x]=>coreF n nx ⟨c.inn.set c.base false,c.size - 1,((nx.getD c.base []).getD x.toNat 0).toNat,c.stem ++ letS x⟩
  | _=>some c
def core0 (nx:List (List Int)):Co:=⟨List.replicate nx.length true,nx.length,0,⟨#[]⟩⟩
abbrev tC:Ty:=.agg [.sl,.int .i64,.int .i64,.str]
structure CoIn (w:World) (y:Sl × Int × Int × ByteArray × Unit) (c:Co):Prop where
 inn:OwnT w 4 (.sc .bool) y.1 c.inn
 size:y.2.1 = c.size
 base:y.2.2.1 = (c.base:Int)
 stem:y.2.2.2.1 = c.stem
theorem CoIn.nil {w w':World} {y:Sl × Int × Int × ByteArray × Unit} {c:Co} (h:CoIn w y c) (hc:Chg Nil w w'):CoIn w' y c:=⟨h.inn.chg hc fun _ _ h=>h,h.size,h.base,h.stem⟩
structure Cw (w W:World) (rs:List Nat) (b1 b3 b10:Nat) (av cv:Array Value) (ri:Sl) (c:Co):Prop where
 chg:Chg Nil w W
 mks:Marks W rs
 mB:∀ r ∈ rs,w.heap.size ≤ r
 c1:W.heap[b1]? = some (.cells av 27 (0,0))
 c3:W.heap[b3]? = some (.cells cv 115 (0,0))
 c10:W.heap[b10]? = some (.cells #[ri.v,.int .i64 c.size,.int .i64 (c.base:Int),.string c.stem] 115 (0,0))
 own:OwnT W 4 (.sc .bool) ri c.inn
 lo:∀ k,ri.own k → w.heap.size ≤ k
theorem Cw.nil {w W W':World} {rs:List Nat} {b1 b3 b10:Nat} {av cv:Array Value} {ri:Sl} {c:Co} (h:Cw w W rs b1 b3 b10 av cv ri c) (hc:Chg Nil W W'):Cw w W' rs b1 b3 b10 av cv ri c:=
 ⟨h.chg.then hc,h.mks.chg hc fun _ _ h=>h,h.mB,hc.heap h.c1 fun h=>h,hc.heap h.c3 fun h=>h,hc.heap h.c10 fun h=>h,h.own.chg hc fun _ _ h=>h,h.lo⟩
theorem Cw.turn {B:Nat} {w W W':World} {rs:List Nat} {b1 b3 b10:Nat} {av cv:Array Value} {ri:Sl} {c:Co} (h:Cw w W rs b1 b3 b10 av cv ri c) (t:Turn B W W') (hB:w.heap.size ≤ B):Cw w W' rs b1 b3 b10 av cv ri c:=
 ⟨h.chg.turn t hB,h.mks.turn t,h.mB,t.cells h.c1,t.cells h.c3,t.cells h.c10,OwnT.turn h.own t,h.lo⟩
theorem Cw.side {w W W':World} {rs:List Nat} {b1 b3 b10 b:Nat} {av cv vv:Array Value} {ri:Sl} {c:Co} (h:Cw w W rs b1 b3 b10 av cv ri c) {S:Nat → Prop} (hc:Chg S W W')
  (hS:∀ k,S k → w.heap.size ≤ k ∧ ∃ cs e f,W.heap[k]? = some (.cells cs e f) ∧ e ≠ 27 ∧ e ≠ 115 ∧ e ≠ 4):Cw w W' rs b1 b3 b10 av cv ri c:=by
 have ne:∀ {k:Nat} {cs:Array Value} {e:TypeId} {f:Nat × Nat},W.heap[k]? = some (.cells cs e f) → (e = 27 ∨ e = 115 ∨ e = 4) → ¬ S k:=fun hk he hs=>by
  obtain ⟨_,cs',e',f',hk',h1,h2,h3⟩:=hS _ hs
  rw [hk'] at hk; cases hk
  rcases he with rfl | rfl | rfl
  ·exact h1 rfl
  ·exact h2 rfl
  ·exact h3 rfl
 refine ⟨h.chg.trans hc (fun _ _ h=>h) fun i hi hs=>?_,h.mks.chg hc fun r hr hs=>?_,h.mB,hc.heap h.c1 (ne h.c1 (.inl rfl)),hc.heap h.c3 (ne h.c3 (.inr (.inl rfl))),hc.heap h.c10 (ne h.c10 (.inr (.inl rfl))),h.own.chg hc fun ad had hs=>?_,h.lo⟩
 ·have:=(hS i hs).1; omega
 ·obtain ⟨_,cs',e',f',hk',_⟩:=hS _ hs
  have:=h.mks.2 r hr; rw [hk'] at this; cases this
 ·obtain ⟨cur,hcur⟩:=h.own.elem ⟨ad,had,rfl⟩
  exact ne hcur (.inr (.inr rfl)) hs
def coTail (b1 b3 b10:Nat) (R:Ending → World → Prop) (w12:World):Prop:=
 LoadT (.sc .sl) w12 ((Addr.mk b10 0 none).add 0) fun x13=>
 LoopT (σ:=Addr × Addr × Addr × Int × Int × Unit) ((Addr.mk b1 0 none),(Addr.mk b3 0 none),(Addr.mk b10 0 none),((x13.n:Nat):Int),0,()) w12 fun l14 g15 w16 I17=>
  Br (decide ((l14.2.2.2.2.1:Int) < l14.2.2.2.1))
   (LoadT (.sc .sl) w16 (l14.2.2.1.add 0) fun x18=>
   Idx x18.a x18.n 1 l14.2.2.2.2.1 fun a19=>
   Store1 w16 a19 (.bool true) fun w20=>
   I17 (l14.1,l14.2.1,l14.2.2.1,l14.2.2.2.1,(IntKind.wrap .i64 (l14.2.2.2.2.1 + 1)),()) w20)
   (LoopD (σ:=Addr × Addr × Addr × Unit) (l14.1,l14.2.1,l14.2.2.1,()) ([]) w16 fun l21 d25 g22 w23 I24=>
    New w23 (.cells #[(.slice none 0 0)] 85) fun b26 w27=>
    LoadT (.agg [.int .i64,.int .i64,.sl,.sl]) w27 l21.1 fun x28=>
    LoadT (.sc (.int .i64)) w27 (l21.2.2.1.add 2) fun x29=>
    CallT Tryd.prog 64 #[(.agg #[(.int .i64 x28.1),(.int .i64 x28.2.1),(.slice x28.2.2.1.a x28.2.2.1.n x28.2.2.1.c),(.slice x28.2.2.2.1.a x28.2.2.2.1.n x28.2.2.2.1.c)]),(.int .i64 x29)] (.sc (.clo 88 2)) w27 (fun r30 w31=>
     RangeF Tryd.prog 88 #[] #[(.pointer (some r30.1)),(.pointer (some r30.2.1))] [.sc (.int .i64),.sc (.int .i64)] w31 (fun x34 w35 Kc36 Kx37=>
      LoadT (.sc .sl) w35 (l21.2.2.1.add 0) fun x41=>
       Idx x41.a x41.n 1 x34.2.1 fun a42=>
       LoadT (.sc .bool) w35 a42 fun x43=>
       Br x43
        (LoadT (.sc .sl) w35 (Addr.mk b26 0 none) fun x44=>
        New w35 (.cells #[(.int .i64 x34.1)] 3) fun b45 w46=>
        RunT Tryd.prog (.sc .sl) (Builtin.append_ #[85,85] 85 #[(.slice x44.a x44.n x44.c),(.slice (some (Addr.mk b45 0 none)) 1 1)]) w46 fun r47 w48=>
        Store1 w48 (Addr.mk b26 0 none) (.slice r47.a r47.n r47.c) fun w49=>
        Kc36 w49)
        (Kc36 w35))
      (fun j38 d39 w40=>match j38 with
      | none=>
        LoadT (.sc .sl) w40 (Addr.mk b26 0 none) fun x50=>
        Br ((((x50.n:Nat):Int):Int) != 1)
         (LoadT (.agg [.sl,.int .i64,.int .i64,.str]) w40 l21.2.2.1 fun x51=>
         StoreN w40 l21.2.1 [(.slice x51.1.a x51.1.n x51.1.c),(.int .i64 x51.2.1),(.int .i64 x51.2.2.1),(.string x51.2.2.2.1)] fun w52=>
         RetM (Fw.mark d39 :: d25) w52 fun z53=>
         LoadT (.agg [.sl,.int .i64,.int .i64,.str]) z53 l21.2.1 fun x54=>
         R (.returned (.agg #[(.slice x54.1.a x54.1.n x54.1.c),(.int .i64 x54.2.1),(.int .i64 x54.2.2.1),(.string x54.2.2.2.1)])) z53)
         (LoadT (.sc .sl) w40 (l21.2.2.1.add 0) fun x55=>
         LoadT (.sc (.int .i64)) w40 (l21.2.2.1.add 2) fun x56=>
         Idx x55.a x55.n 1 x56 fun a57=>
         Store1 w40 a57 (.bool false) fun w58=>
         LoadT (.sc (.int .i64)) w58 (l21.2.2.1.add 1) fun x59=>
         Store1 w58 (l21.2.2.1.add 1) (.int .i64 (IntKind.wrap .i64 (x59 - 1))) fun w60=>
         LoadT (.sc .sl) w60.drew (l21.1.add 3) fun x61=>
         LoadT (.sc (.int .i64)) w60.drew (l21.2.2.1.add 2) fun x62=>
         Idx x61.a x61.n 1 x62 fun a63=>
         LoadT (.sc .sl) w60.drew a63 fun x64=>
         LoadT (.sc .sl) w60.drew (Addr.mk b26 0 none) fun x65=>
         Idx x65.a x65.n 1 0 fun a66=>
         LoadT (.sc (.int .i64)) w60.drew a66 fun x67=>
         Idx x64.a x64.n 1 x67 fun a68=>
         LoadT (.sc (.int .i64)) w60.drew a68 fun x69=>
         Store1 w60.drew (l21.2.2.1.add 2) (.int .i64 x69) fun w70=>
         ∃ S71:World → Prop,S71 w70.drew ∧
         (LoadS S71 (.sc .str) (l21.2.2.1.add 3) fun x72=>
         LoadS S71 (.sc .sl) (Addr.mk b26 0 none) fun x73=>
         Idx x73.a x73.n 1 0 fun a74=>
         LoadS S71 (.sc (.int .i64)) a74 fun x75=>
         CallT Tryd.prog 86 #[(.int .i64 x75)] (.sc (.int .u8)) w70.drew (fun r76 w77=>
           S71 w77 ∧
           (New w77 (.cells #[(.int .u8 r76)] 5) fun b80 w81=>
            S71 w81 ∧
            (RunT Tryd.prog (.sc .str) (convert 87 9 (.slice (some (Addr.mk b80 0 none)) 1 1)) w81 fun r82 w83=>
             S71 w83 ∧
             ((((x72.size + r82.size:Nat):Int) ≤ 9223372036854775807) ∧
             Store1 w83 (l21.2.2.1.add 3) (.string (x72 ++ r82)) fun w84=>
              I24 (l21.1,l21.2.1,l21.2.2.1,()) (Fw.mark d39 :: d25) w84)))) (fun h78 w77=>RetM (Fw.mark d39 :: d25) w77 fun z79=>R (.panicked h78) z79)))
      | some (.exit i)=>
       False
      | some .ret=>
        RetM (Fw.mark d39 :: d25) w40 fun z85=>
        LoadT (.agg [.sl,.int .i64,.int .i64,.str]) z85 l21.2.1 fun x86=>
        R (.returned (.agg #[(.slice x86.1.a x86.1.n x86.1.c),(.int .i64 x86.2.1),(.int .i64 x86.2.2.1),(.string x86.2.2.2.1)])) z85
      | some _=>False)) (fun h32 w31=>RetM (d25) w31 fun z33=>R (.panicked h32) z33))
theorem letE_snoc (inn:List Bool) (l:List (Int × Int × Unit)) (e:Int × Int × Unit):letE inn (l ++ [e]) = letE inn l ++ (if inn.getD e.2.1.toNat false = true then [e.1] else []):=by
 unfold letE
 rw [List.filter_append,List.map_append]
 congr 1
 by_cases h:inn.getD e.2.1.toNat false = true
 ·rw [if_pos h,List.filter_cons,if_pos h]; rfl
 ·rw [if_neg h,List.filter_cons,if_neg h]; rfl
theorem letE_mem {inn:List Bool} {l:List (Int × Int × Unit)} {x:Int} (h:x ∈ letE inn l):∃ t,(x,t,()) ∈ l ∧ inn.getD t.toNat false = true:=by
 unfold letE at h
 obtain ⟨⟨x',t,u⟩,h1,rfl⟩:=List.mem_map.1 h
 obtain ⟨h1,h2⟩:=List.mem_filter.1 h1
 exact ⟨t,h1,h2⟩
theorem coTail_ok {w:World} (hl:Laid w) {x1 x2:Int} {sa sn:Sl} {a:Aut} (ha:AutIn w (x1,x2,sa,sn,()) a) {k:Int} (hc:a.check k = 0) (hk:1 ≤ k ∧ k ≤ 8) {N:Nat} (hN:N ≤ 1000000) {co:Co} (hf:coreF N a.next (core0 a.next) = some co)
  {b1 b3 b10:Nat} {ri:Sl} {cv:Array Value} (hcv:cv.size = 4) {W:World} {inn0:List Bool} (hi0:inn0.length = a.next.length) (n3:b3 ≠ b10) (l3:w.heap.size ≤ b3) (l10:w.heap.size ≤ b10)
  (h0:Cw w W [] b1 b3 b10 #[.int .i64 x1,.int .i64 x2,sa.v,sn.v] cv ri ⟨inn0,a.next.length,0,⟨#[]⟩⟩)
  {R:Ending → World → Prop} (hR:∀ (y:Sl × Int × Int × ByteArray × Unit) (W':World),CoIn W' y co → Chg Nil w W' → R (.returned (.agg #[.slice y.1.a y.1.n y.1.c,.int .i64 y.2.1,.int .i64 y.2.2.1,.string y.2.2.2.1])) W'):coTail b1 b3 b10 R W:=by
 obtain ⟨_,_,hn1,hn2,_,_,hrows⟩:=check_spec hc
 obtain ⟨_,_,_,sls,hsn,hsl,hrd,_⟩:=ha.rd
 have hsn:RdT w tL sn sls:=hsn
 unfold coTail
 have hrn:ri.n = a.next.length:=by rw [h0.own.len,hi0]
 refine LoadT.sc (s:=.sl) (x:=ri) (by rw [cellOf h0.c10]; rfl) ?_
 refine LoopT.mk (fun y V=>∃ (i:Nat) (inn:List Bool),i ≤ a.next.length ∧ y = (at0 b1,at0 b3,at0 b10,((ri.n:Nat):Int),(i:Int),()) ∧ inn.length = a.next.length ∧ (∀ j,j < i → inn[j]? = some true) ∧ Cw w V [] b1 b3 b10 #[.int .i64 x1,.int .i64 x2,sa.v,sn.v] cv ri ⟨inn,a.next.length,0,⟨#[]⟩⟩)
  (fun y _=>a.next.length - y.2.2.2.2.1.toNat) ⟨0,inn0,Nat.zero_le _,rfl,hi0,fun j hj=>by omega,h0⟩ ?_
 rintro y g V ⟨i,inn,hi,rfl,hil,hall,hV⟩
 dsimp only
 refine Br.dec (fun hlt=>?_) (fun hge=>?_)
 ·have hlt':i < a.next.length:=by omega
  refine LoadT.sc (s:=.sl) (x:=ri) (by rw [show at0 b10 = Addr.mk b10 0 none from rfl,cellOf hV.c10]; rfl) ?_
  refine hV.own.idx (t:=.sc .bool) i rfl (by show i < inn.length; omega) fun g2 hg2=>?_
  refine hV.own.store (s:=.bool) hg2 i (by show i < inn.length; omega) (x:=true) fun V2 ho2 hc2 hz2=>?_
  have hg10:W.heap.size = W.heap.size:=rfl
  obtain ⟨cur,hcur⟩:=hV.own.elem ⟨_,hg2,rfl⟩
  have hcur:V.heap[g2]? = some (.cells cur 4 (0,0)):=hcur
  refine ⟨⟨i + 1,inn.set i true,by omega,by rw [wrap64 (by omega) (by omega)]; rfl,by simp [hil],fun j hj=>?_,?_⟩,?_⟩
  ·by_cases he:j = i
   ·subst he; rw [List.getElem?_set_self (by omega)]
   ·rw [List.getElem?_set_ne (by omega)]; exact hall j (by omega)
  ·refine ⟨hV.chg.trans hc2 (fun _ _ h=>h) fun q hq he=>?_,⟨List.nodup_nil,fun r hr=>by simp at hr⟩,by simp,hc2.heap hV.c1 fun he=>ne_of_elem hV.c1 hcur (by decide) he,hc2.heap hV.c3 fun he=>ne_of_elem hV.c3 hcur (by decide) he,hc2.heap hV.c10 fun he=>ne_of_elem hV.c10 hcur (by decide) he,ho2,hV.lo⟩
   have he:q = g2:=he
   have:=hV.lo g2 ⟨_,hg2,rfl⟩; omega
  ·show a.next.length - (IntKind.wrap .i64 ((i:Int) + 1)).toNat < a.next.length - ((i:Int)).toNat
   rw [wrap64 (by omega) (by omega)]; omega
 have hie:i = a.next.length:=by omega
 subst hie
 have hinn:inn = List.replicate a.next.length true:=by
  refine List.ext_getElem? fun j=>?_
  by_cases hj:j < a.next.length
  ·rw [hall j hj,List.getElem?_replicate,if_pos hj]
  ·rw [List.getElem?_eq_none (by omega),List.getElem?_eq_none (by simp; omega)]
 subst hinn
 clear h0 hall hge
 -- the rounds
 refine ⟨fun y ds U=>∃ (rs:List Nat) (f:Nat) (c:Co),y = (at0 b1,at0 b3,at0 b10,()) ∧ ds = marksOf rs ∧ Cw w U rs b1 b3 b10 #[.int .i64 x1,.int .i64 x2,sa.v,sn.v] cv ri c ∧ coreF f a.next c = some co ∧ f + c.stem.size = N ∧ c.inn.length = a.next.length ∧ c.base < a.next.length ∧ c.size + c.stem.size = a.next.length,
  fun y U=>N - (match U.cell? (y.2.2.1.add 3) with | some (.string s)=>s.size | _=>0),⟨[],N,core0 a.next,rfl,rfl,hV,hf,rfl,by simp [core0],by show 0 < _; omega,by show ((a.next.length:Int)) + ((0:Nat):Int) = _; simp⟩,?_⟩
 clear hV g V
 rintro y ds g V ⟨rs,f,c,rfl,rfl,hV,hcf,hfs,hil,hbl,hsz⟩
 dsimp only
 cases f with
 | zero=>simp [coreF] at hcf
 | succ f=>
 refine New.mk fun b26 w2 hb26 hn26 hz26 hc26=>?_
 have hV2:=hV.nil hc26
 obtain ⟨row,hrow⟩:∃ r,a.next[c.base]? = some r:=⟨_,List.getElem?_eq_getElem hbl⟩
 have hgd:a.next.getD c.base [] = row:=by rw [List.getD_eq_getElem?_getD,hrow]; rfl
 obtain ⟨hrl,hrv⟩:=hrows row (List.mem_of_getElem? hrow)
 obtain ⟨s0,hs0⟩:∃ r,sls[c.base]? = some r:=⟨_,List.getElem?_eq_getElem (by omega)⟩
 have hrr:=hrd c.base s0 row hs0 hrow
 refine LoadT.mk tA (x:=(x1,x2,sa,sn,())) (fun j v hv=>by rw [show at0 b1 = Addr.mk b1 0 none from rfl,cellOf hV2.c1]; simpa [Ty.cells] using hv) ?_
 refine LoadT.sc (s:=.int .i64) (x:=(c.base:Int)) (by rw [show at0 b10 = Addr.mk b10 0 none from rfl,cellOf hV2.c10]; rfl) ?_
 refine Ret.call (edges_ret (v0:=x1) (v1:=x2) (sa:=sa) (sn:=sn) (c.base:Int)) ?_
 rintro _ w3 ⟨q1,q3,rfl,hq1,hq3,hc3,hB1,hB3⟩
 have hV3:=hV2.nil hc3
 have z3:=hV3.chg.size
 have zV:=hV.chg.size
 have z23:=hc3.size
 simp only [coreF] at hcf
 rw [hgd] at hcf
 have hes:∀ (i:Nat) (e:Int × Int × Unit),(edgesFrom 0 row)[i]? = some e → 0 ≤ e.2.1 ∧ e.2.1 < (a.next.length:Int) ∧ 0 ≤ e.1 ∧ e.1 < 2 * k:=fun i ⟨x,t,u⟩ hi=>by
  obtain ⟨e1,e2,e3,e4⟩:=Fo.edges_mem row 0 x t u (List.mem_of_getElem? hi)
  have:=hrv t e2
  dsimp only
  omega
 refine ⟨edgesFrom 0 row,_,fun i U=>∃ sl:Sl,Cw w U rs b1 b3 b10 #[.int .i64 x1,.int .i64 x2,sa.v,sn.v] cv ri c ∧ U.heap[b26]? = some (.cells #[sl.v] 85 (0,0)) ∧ U.heap[q1]? = some (.cells #[.int .i64 x1,.int .i64 x2,sa.v,sn.v] 27 (0,0)) ∧ U.heap[q3]? = some (.cells #[.int .i64 (c.base:Int)] 3 (0,0)) ∧
   OwnT U 3 tI sl (letE c.inn ((edgesFrom 0 row).take i)) ∧ (∀ q,sl.own q → w.heap.size ≤ q) ∧ ¬ sl.own q3,fun _ _=>False,
  edges_gives (q0:=at0 q1) (q1:=at0 q3) (sn:=sn) (rsl:=s0) (sls:=sls) (s:=c.base) (row:=row) (by omega),?_,?_,?_,?_,?_,?_,?_⟩
 ·rintro i U ⟨sl,u1,u2,u3,u4,u5,u6,u7⟩
  exact ⟨by rw [cellOf u3]; rfl,by rw [cellOf0 u4]; rfl,hsn.chg u1.chg (fun _ _ h=>h),hs0,hrr.chg u1.chg (fun _ _ h=>h)⟩
 ·rintro i U U' ⟨sl,u1,u2,u3,u4,u5,u6,u7⟩ ht
  exact ⟨sl,u1.turn ht z3,ht.cells u2,ht.cells u3,ht.cells u4,OwnT.turn u5 ht,u6,u7⟩
 ·rintro c' U U' h; exact h.elim
 ·exact ⟨⟨none,0,0⟩,hV3,hc3.heap hn26 fun h=>h,hq1,hq3,OwnT.nil _ _ _,(fun q ⟨_,h,_⟩=>by cases h),fun ⟨_,h,_⟩=>by cases h⟩
 ·rintro i ⟨x,t,un⟩ U hx ⟨sl,u1,u2,u3,u4,u5,u6,u7⟩
  obtain ⟨e1,e2,e3,e4⟩:=hes i _ hx
  obtain ⟨nt,rfl⟩:=Int.eq_ofNat_of_zero_le e1
  dsimp only at e1 e2 e3 e4
  have htk:(edgesFrom 0 row).take (i + 1) = (edgesFrom 0 row).take i ++ [(x,(nt:Int),un)]:=by rw [List.take_add_one,hx]; rfl
  refine LoadT.sc (s:=.sl) (x:=ri) (by rw [show at0 b10 = Addr.mk b10 0 none from rfl,cellOf u1.c10]; rfl) ?_
  obtain ⟨bv,hbv⟩:∃ q,c.inn[nt]? = some q:=⟨_,List.getElem?_eq_getElem (by omega)⟩
  refine u1.own.rd.get (t:=.sc .bool) nt rfl hbv ?_
  have hbd:c.inn.getD ((nt:Int)).toNat false = bv:=by rw [Int.toNat_natCast,List.getD_eq_getElem?_getD,hbv]; rfl
  have lenb:(letE c.inn ((edgesFrom 0 row).take i)).length ≤ 1000:=by
   unfold letE
   rw [List.length_map]
   refine Nat.le_trans (List.length_filter_le _ _) ?_
   have:=edges_len row 0
   rw [List.length_take]; omega
  refine Br.mk (fun hb=>?_) (fun hb=>?_)
  ·refine LoadT.sc (s:=.sl) (x:=sl) (by rw [cellOf0 u2]; rfl) ?_
   refine New.mk fun b45 V4 hb45 hn45 hz45 hc45=>?_
   have u5':=u5.chg hc45 fun _ _ h=>h
   refine OwnT.append (t:=tI) (m:=1) ok85 rfl (by decide) u5' [x] rfl (by decide) (fun j v hv=>by rw [cellOf hn45]; simpa [Ty.cells] using hv) (by omega) (by simp only [maxLen]; omega) fun sl' V5 ho5 hc5 hown5=>?_
   have hh26:=hc45.heap u2 fun h=>h
   have n26:¬ sl.own b26:=fun h=>by
    obtain ⟨cur,hcur⟩:=u5'.elem h
    exact ne_of_elem hcur hh26 (by decide) rfl
   have h26:=hc5.heap hh26 n26
   refine Store1.at0' h26 (by show 0 < 1; decide) rfl fun V6 hh6 hc6 _=>?_
   have k4:KeepL U V4:=KeepL.of_chg (S:=Nil) hc45 fun q hq=>hq.elim
   have sm:∀ q,sl.own q → ∃ cs e f,V4.heap[q]? = some (.cells cs e f) ∧ e = 3:=fun q hq=>by obtain ⟨cur,hcur⟩:=u5'.elem hq; exact ⟨_,_,_,hcur,rfl⟩
   have k5:KeepL V4 V5:=KeepL.of_chg hc5 fun q hq=>by obtain ⟨cs,e,f,h,_⟩:=sm q hq; exact ⟨_,_,_,h⟩
   have k6:KeepL V5 V6:=KeepL.of_chg hc6 fun q hq=>by have hq:q = b26:=hq; subst hq; exact ⟨_,_,_,h26⟩
   have u14:=u1.nil hc45
   have u15:=Cw.side (b:=0) (vv:=#[]) u14 hc5 fun q hq=>⟨u6 q hq,by obtain ⟨cs,e,f,h,he⟩:=sm q hq; subst he; exact ⟨cs,3,f,h,by decide,by decide,by decide⟩⟩
   have u16:=Cw.side (b:=0) (vv:=#[]) u15 hc6 fun q hq=>by
    have hq:q = b26:=hq
    subst hq
    exact ⟨by omega,_,_,_,h26,by decide,by decide,by decide⟩
   have hzU:=u1.chg.size
   have lq3:=lt_of_heap u4
   have n3':¬ sl'.own q3:=fun h=>by
    rcases hown5 q3 h with h1 | h1
    ·exact u7 h1
    ·have:=hc45.size; omega
   refine ⟨fun q o hq ho=>k6 q o (k5 q o (k4 q o hq ho) ho) ho,sl',u16,hh6,?_,?_,?_,fun q hq=>?_,n3'⟩
   ·have hh:=hc45.heap u3 fun h=>h
    have h5:=hc5.heap hh fun h=>by
     obtain ⟨cs,e,f,h1,he⟩:=sm q1 h
     rw [hh] at h1; cases h1; cases he
    exact hc6.heap h5 fun h=>by have h:q1 = b26:=h; exact ne_of_elem h5 h26 (by decide) h
   ·have h5:=hc5.heap (hc45.heap u4 fun h=>h) u7
    exact hc6.heap h5 fun h=>by have h:q3 = b26:=h; exact ne_of_elem h5 h26 (by decide) h
   ·rw [htk,letE_snoc,if_pos (by show c.inn.getD ((nt:Int)).toNat false = true; rw [hbd]; exact hb)]
    refine ho5.chg hc6 fun ad had he=>?_
    obtain ⟨cur,hcur⟩:=ho5.elem ⟨ad,had,rfl⟩
    exact ne_of_elem hcur h26 (by decide) he
   ·rcases hown5 q hq with h1 | h1
    ·exact u6 q h1
    ·have:=hc45.size; omega
  ·refine ⟨fun q o hq ho=>hq,sl,u1,u2,u3,u4,?_,u6,u7⟩
   rw [htk,letE_snoc,if_neg (by show ¬ c.inn.getD ((nt:Int)).toNat false = true; rw [hbd,hb]; simp),List.append_nil]
   exact u5
 ·rintro d U hdm hdB ⟨sl,u1,u2,u3,u4,u5,u6,u7⟩
  rw [List.take_of_length_le (Nat.le_refl _)] at u5
  have hdn:d ∉ rs:=fun hmem=>by have:=lt_of_heap (hV3.mks.2 d hmem); omega
  have hsln:sl.n = (letE c.inn (edgesFrom 0 row)).length:=u5.len
  dsimp only
  refine LoadT.sc (s:=.sl) (x:=sl) (by rw [cellOf0 u2]; rfl) ?_
  refine Br.mk (fun hne=>?_) (fun heq=>?_)
  ·have hne:(letE c.inn (edgesFrom 0 row)).length ≠ 1:=by
    intro he; rw [hsln,he] at hne; simp at hne
   have hco:c = co:=by
    revert hcf
    cases hls:letE c.inn (edgesFrom 0 row) with
    | nil=>intro h; simpa using h
    | cons x l=>cases l with
     | nil=>rw [hls] at hne; simp at hne
     | cons y l=>intro h; simpa using h
   subst hco
   refine LoadT.mk tC (x:=(ri,c.size,(c.base:Int),c.stem,())) (fun j v hv=>by rw [show at0 b10 = Addr.mk b10 0 none from rfl,cellOf u1.c10]; simpa [Ty.cells] using hv) ?_
   refine StoreN.whole (vs:=[ri.v,.int .i64 c.size,.int .i64 (c.base:Int),.string c.stem]) u1.c3 (by rw [hcv]; rfl) fun w5 h5 hc5 _=>?_
   have hm5:Marks w5 (d :: rs):=(u1.mks.cons hdm hdn).chg hc5 fun r hr he=>by
    have he:r = b3:=he
    have:=(u1.mks.cons hdm hdn).2 r hr
    rw [he,u1.c3] at this; cases this
   refine retM_marks (d :: rs) w5 hm5 fun z hz=>?_
   have nz:∀ {q:Nat} {cs:Array Value} {e:TypeId} {fr:Nat × Nat},w5.heap[q]? = some (.cells cs e fr) → ¬ q ∈ d :: rs:=fun hq hm=>by
    have:=hm5.2 _ hm; rw [hq] at this; cases this
   refine LoadT.mk tC (x:=(ri,c.size,(c.base:Int),c.stem,())) (fun j v hv=>by rw [show at0 b3 = Addr.mk b3 0 none from rfl,cellOf (hz.heap h5 (nz h5))]; simpa [Ty.cells] using hv) ?_
   have own5:=u1.own.chg hc5 fun ad had he=>by
    obtain ⟨cur,hcur⟩:=u1.own.elem ⟨ad,had,rfl⟩
    exact ne_of_elem hcur u1.c3 (by decide) he
   refine hR (ri,c.size,(c.base:Int),c.stem,()) z ⟨own5.chg hz fun ad had he=>by
    obtain ⟨cur,hcur⟩:=own5.elem ⟨ad,had,rfl⟩
    exact nz hcur he,rfl,rfl,rfl⟩ ((u1.chg.trans hc5 (fun _ _ h=>h) fun q hq he=>by have he:q = b3:=he; omega).trans hz (fun _ _ h=>h) fun q hq hm=>?_)
   rcases List.mem_cons.1 hm with he | he
   ·omega
   ·have:=u1.mB q he; omega
  ·have hlen:(letE c.inn (edgesFrom 0 row)).length = 1:=by
    rw [hsln] at heq
    have:((letE c.inn (edgesFrom 0 row)).length:Int) = 1:=by simpa using heq
    omega
   obtain ⟨x,hls⟩:=List.length_eq_one_iff.1 hlen
   rw [hls] at hcf u5
   dsimp only at hcf
   obtain ⟨t,hxt,hit⟩:=letE_mem (inn:=c.inn) (l:=edgesFrom 0 row) (x:=x) (by rw [hls]; exact List.mem_singleton.2 rfl)
   obtain ⟨i,hri,hxi,ht0⟩:=Pl.edges_mem row 0 _ hxt
   dsimp only at hri hxi ht0
   rw [Nat.zero_add] at hxi
   subst hxi
   obtain ⟨nt,rfl⟩:=Int.eq_ofNat_of_zero_le ht0
   obtain ⟨_,htn⟩:=hrv _ (List.mem_of_getElem? hri)
   have hgt:row.getD ((i:Nat):Int).toNat 0 = ((nt:Nat):Int):=by rw [Int.toNat_natCast,List.getD_eq_getElem?_getD,hri]; rfl
   rw [hgt,Int.toNat_natCast] at hcf
   have e10:at0 b10 = Addr.mk b10 0 none:=rfl
   refine LoadT.sc (s:=.sl) (x:=ri) (by rw [e10,cellOf u1.c10]; rfl) ?_
   refine LoadT.sc (s:=.int .i64) (x:=(c.base:Int)) (by rw [e10,cellOf u1.c10]; rfl) ?_
   refine u1.own.idx (t:=.sc .bool) c.base rfl (by show c.base < c.inn.length; omega) fun g2 hg2=>?_
   refine u1.own.store (s:=.bool) hg2 c.base (by show c.base < c.inn.length; omega) (x:=false) fun U2 ho2 hcU2 hz2=>?_
   obtain ⟨cur,hcur⟩:=u1.own.elem ⟨_,hg2,rfl⟩
   have hcur:U.heap[g2]? = some (.cells cur 4 (0,0)):=hcur
   have keep2:∀ {q:Nat} {cs:Array Value} {e:TypeId} {fr:Nat × Nat},U.heap[q]? = some (.cells cs e fr) → e ≠ 4 → U2.heap[q]? = some (.cells cs e fr):=fun hq he=>hcU2.heap hq fun h=>ne_of_elem hq hcur he h
   have c10':=keep2 u1.c10 (by decide)
   refine LoadT.sc (s:=.int .i64) (x:=c.size) (by rw [e10,cellOf c10']; rfl) ?_
   rw [wrap64 (by omega) (by omega),e10]
   refine Store1.at c10' 1 (by show 1 < 4; decide) rfl fun U3 c10'' hcU3 hz3'=>?_
   have hd3:Chg Nil U3 U3.drew:=Chg.drew U3
   have keep3:∀ {q:Nat} {cs:Array Value} {e:TypeId} {fr:Nat × Nat},U.heap[q]? = some (.cells cs e fr) → e ≠ 4 → q ≠ b10 → U3.heap[q]? = some (.cells cs e fr):=fun hq he hne=>hcU3.heap (keep2 hq he) fun h=>hne h
   have l10g:g2 ≠ b10:=fun h=>ne_of_elem hcur u1.c10 (by decide) h
   have lg2:=u1.lo g2 ⟨_,hg2,rfl⟩
   have hN3:Chg Nil w U3:=(u1.chg.trans hcU2 (fun _ _ h=>h) fun q hq he=>by have he:q = g2:=he; omega).trans hcU3 (fun _ _ h=>h) fun q hq he=>by have he:q = b10:=he; omega
   have n1:b1 ≠ b10:=fun h=>ne_of_elem u1.c1 u1.c10 (by decide) h
   have n26:b26 ≠ b10:=fun h=>ne_of_elem u2 u1.c10 (by decide) h
   have s3:Chg (fun q=>q = g2 ∨ q = b10) U U3:=hcU2.trans hcU3 (fun _ _ h=>.inl h) fun _ _ h=>.inr h
   have osl:∀ {e:TypeId} {t:Ty} {s:Sl} {xs:List t.den},OwnT U e t s xs → e ≠ 4 → e ≠ 115 → OwnT U3 e t s xs:=fun {e t s xs} h h1 h2=>h.chg s3 fun ad had he=>by
    obtain ⟨cu,hcu⟩:=h.elem ⟨ad,had,rfl⟩
    rcases he with he | he
    ·exact ne_of_elem hcu hcur h1 he
    ·exact ne_of_elem hcu u1.c10 h2 he
   have u5':=osl u5 (by decide) (by decide)
   have ho3:=ho2.chg hcU3 fun ad had he=>by
    rw [hg2] at had; cases had
    exact l10g he
   refine LoadT.sc (s:=.sl) (x:=sn) (by rw [show at0 b1 = Addr.mk b1 0 none from rfl,cellOf (w:=U3.drew) (keep3 u1.c1 (by decide) n1)]; rfl) ?_
   refine LoadT.sc (s:=.int .i64) (x:=(c.base:Int)) (by rw [cellOf (w:=U3.drew) c10'']; rfl) ?_
   refine (hsn.chg (hN3.then hd3) fun _ _ h=>h).get (t:=tL) c.base rfl hs0 ?_
   refine LoadT.sc (s:=.sl) (x:=sl) (by rw [cellOf0 (w:=U3.drew) (keep3 u2 (by decide) n26)]; rfl) ?_
   refine (u5'.rd.chg hd3 fun _ _ h=>h).get (t:=tI) 0 rfl (x:=(i:Int)) rfl ?_
   refine (hrr.chg (hN3.then hd3) fun _ _ h=>h).get (t:=tI) i rfl hri ?_
   refine Store1.at (w:=U3.drew) c10'' 2 (by show 2 < 4; decide) rfl fun U4 d10 hcU4 hz4=>?_
   have keep4:∀ {q:Nat} {cs:Array Value} {e:TypeId} {fr:Nat × Nat},U.heap[q]? = some (.cells cs e fr) → e ≠ 4 → q ≠ b10 → U4.heap[q]? = some (.cells cs e fr):=fun hq he hne=>hcU4.heap (keep3 hq he hne) fun h=>hne h
   have hN4:Chg Nil w U4:=(hN3.then hd3).trans hcU4 (fun _ _ h=>h) fun q hq he=>by have he:q = b10:=he; omega
   have u54:=(u5'.chg hd3 fun _ _ h=>h).chg hcU4 fun ad had he=>by
    obtain ⟨cu,hcu⟩:=(u5'.chg hd3 fun _ _ h=>h).elem ⟨ad,had,rfl⟩
    exact ne_of_elem (w:=U3.drew) hcu c10'' (by decide) he
   have ho4:=(ho3.chg hd3 fun _ _ h=>h).chg hcU4 fun ad had he=>by
    rw [hg2] at had; cases had
    exact l10g he
   have hd4:Chg Nil U4 U4.drew:=Chg.drew U4
   refine ⟨fun X=>Chg Nil U4 X,hd4,?_⟩
   refine LoadS.sc (s:=.str) (x:=c.stem) (fun X hX=>by rw [cellOf (hX.heap d10 fun h=>h)]; rfl) ?_
   refine LoadS.sc (s:=.sl) (x:=sl) (fun X hX=>by rw [cellOf0 (hX.heap (keep4 u2 (by decide) n26) fun h=>h)]; rfl) ?_
   refine u54.rd.idx (t:=tI) 0 rfl (x:=(i:Int)) rfl fun ad had=>?_
   have had0:=had 0 _ rfl
   rw [add0] at had0
   refine LoadS.sc (s:=.int .i64) (x:=(i:Int)) (fun X hX=>hX.cell had0 fun h=>h) ?_
   refine Ret.call (letter_ret (hl.nil (hN4.then hd4)) (i:Int)) ?_
   rintro _ U5 ⟨rfl,hcU5⟩
   have s5:=hd4.then hcU5
   refine ⟨s5,?_⟩
   refine New.mk fun b80 U6 hb80 hn80 _ hc80=>?_
   have s6:=s5.then hc80
   refine ⟨s6,?_⟩
   refine letter_string hn80 ?_
   refine ⟨s6,?_⟩
   have hss:(c.stem ++ letS (i:Int)).size = c.stem.size + 1:=by rw [ByteArray.size_append]; rfl
   have hsl1:(letS (i:Int)).size = 1:=rfl
   refine ⟨by rw [hsl1]; omega,?_⟩
   have d16:=s6.heap d10 fun h=>h
   refine Store1.at d16 3 (by show 3 < 4; decide) rfl fun U7 f10 hcU7 _=>?_
   have keep7:∀ {q:Nat} {cs:Array Value} {e:TypeId} {fr:Nat × Nat},U.heap[q]? = some (.cells cs e fr) → e ≠ 4 → q ≠ b10 → U7.heap[q]? = some (.cells cs e fr):=fun hq he hne=>hcU7.heap (s6.heap (keep4 hq he hne) fun h=>h) fun h=>hne h
   have hall:Chg (fun q=>q = g2 ∨ q = b10) U U7:=(((s3.then hd3.nil).trans hcU4 (fun _ _ h=>h) fun _ _ h=>.inr h).then s6.nil).trans hcU7 (fun _ _ h=>h) fun _ _ h=>.inr h
   have nm:∀ r ∈ d :: rs,¬ (r = g2 ∨ r = b10):=fun r hr he=>by
    have h1:=(u1.mks.cons hdm hdn).2 r hr
    rcases he with he | he
    ·rw [he,hcur] at h1; cases h1
    ·rw [he,u1.c10] at h1; cases h1
   refine ⟨⟨d :: rs,f,⟨c.inn.set c.base false,c.size - 1,nt,c.stem ++ letS (i:Int)⟩,rfl,rfl,⟨?_,(u1.mks.cons hdm hdn).chg hall nm,fun r hr=>?_,keep7 u1.c1 (by decide) n1,keep7 u1.c3 (by decide) n3,f10,?_,u1.lo⟩,hcf,by show f + (c.stem ++ letS (i:Int)).size = N; rw [hss]; omega,by simp [hil],by show nt < _; omega,by show c.size - 1 + ((c.stem ++ letS (i:Int)).size:Int) = _; rw [hss]; omega⟩,?_⟩
   ·exact u1.chg.trans hall (fun _ _ h=>h) fun q hq he=>by rcases he with he | he <;> omega
   ·rcases List.mem_cons.1 hr with he | he
    ·omega
    ·exact u1.mB r he
   ·refine (ho4.chg s6 fun _ _ h=>h).chg hcU7 fun ad had he=>?_
    rw [hg2] at had; cases had
    exact l10g he
   ·have m1:U7.cell? ((at0 b10).add 3) = some (.string (c.stem ++ letS (i:Int))):=by rw [e10,cellOf f10]; rfl
    have m0:V.cell? ((at0 b10).add 3) = some (.string c.stem):=by rw [e10,cellOf hV.c10]; rfl
    show N - (match U7.cell? ((at0 b10).add 3) with | some (.string s)=>s.size | _=>0) < N - (match V.cell? ((at0 b10).add 3) with | some (.string s)=>s.size | _=>0)
    rw [m1,m0]
    show N - (c.stem ++ letS (i:Int)).size < N - c.stem.size
    rw [hss]; omega
 ·rintro c' d U _ _ h; exact h.elim
theorem cored_ret {w:World} (hl:Laid w) {x:Int × Int × Sl × Sl × Unit} {a:Aut} (ha:AutIn w x a) {k:Int} (hc:a.check k = 0) (hk:1 ≤ k ∧ k ≤ 8) {N:Nat} (hN:N ≤ 1000000) {co:Co} (hf:coreF N a.next (core0 a.next) = some co) :
  Ret Tryd.prog 73 #[.agg #[.int .i64 x.1,.int .i64 x.2.1,x.2.2.1.v,x.2.2.2.1.v]] tC w fun y w'=>CoIn w' y co ∧ Chg Nil w w':=by
 obtain ⟨x1,x2,sa,sn,_⟩:=x
 obtain ⟨_,_,hn1,hn2,_,_,hrows⟩:=check_spec hc
 have hnn:sn.n = a.next.length:=by obtain ⟨_,_,_,sls,h4,h5,_⟩:=ha.rd; rw [h4.len,h5]
 refine fold_cored.calls x1 x2 sa sn ?_
 unfold fold_cored.sh
 refine New.mk fun b1 w1 hb1 hh1 hs1 hc1=>?_
 refine New.mk fun b3 w2 hb3 hh3 hs3 hc3=>?_
 have h12:=hc3.heap hh1 fun h=>h
 have hc02:=hc1.then hc3
 have hd:Chg Nil w2 w2.drew:=Chg.drew w2
 have z1:=hc1.size
 have z2:=hc3.size
 have hzd:w2.drew.heap.size = w2.heap.size:=rfl
 have cl:∀ {W:World},Chg Nil w2 W → W.heap[b1]? = some _:=fun hW=>hW.heap h12 fun h=>h
 refine ⟨fun W=>Chg Nil w2 W,hd,?_⟩
 refine LoadS.sc (s:=.sl) (x:=sn) (fun W hW=>by rw [cellOf (cl hW)]; rfl) ?_
 refine LoadS.sc (s:=.sl) (x:=sn) (fun W hW=>by rw [cellOf (cl hW)]; rfl) ?_
 have fin:∀ {W:World} {b10:Nat} {r:Sl} {inn:List Bool},Chg Nil w2 W → W.heap[b10]? = some (.cells #[r.v,.int .i64 ((sn.n:Nat):Int),.int .i64 0,.string ⟨#[]⟩] 115 (0,0)) → w2.heap.size ≤ b10 → OwnT W 4 (.sc .bool) r inn → inn.length = a.next.length → (∀ k,r.own k → w2.heap.size ≤ k) →
   coTail b1 b3 b10 (fun e w'=>∃ y,e = .returned (tC.val y) ∧ CoIn w' y co ∧ Chg Nil w w') W:=fun {W b10 r inn} hW h10 hb hr hi hrb=>
  coTail_ok (w:=w) hl ha hc hk hN hf (ri:=r) (inn0:=inn) (by rfl) hi (by omega) (by omega) (by omega)
   ⟨hc02.then hW,⟨List.nodup_nil,fun r hr=>by simp at hr⟩,by simp,cl hW,hW.heap hh3 fun h=>h,by rw [h10,hnn]; rfl,hr,fun q hq=>by have:=hrb q hq; omega⟩ fun y W' h1 h2=>⟨y,rfl,h1,h2⟩
 have keep:∀ {W W':World} {b:Nat} {e:TypeId} {t:Ty} {s:Sl} {xs:List t.den} {c:Array Value},OwnT W e t s xs → e ≠ 115 → W.heap[b]? = some (.cells c 115 (0,0)) → Chg (· = b) W W' → OwnT W' e t s xs:=fun {W W' b e t s xs c} h he hb hc=>
  h.chg hc fun ad had hq=>by
   obtain ⟨cur,hcur⟩:=h.elem ⟨ad,had,rfl⟩
   exact ne_of_elem hcur hb he hq
 have ch:∀ {W W':World} {b:Nat},Chg Nil w2 W → Chg (· = b) W W' → w2.heap.size ≤ b → Chg Nil w2 W':=fun hW hc hb=>hW.trans hc (fun _ _ h=>h) fun q hq hk=>by have hk:q = _:=hk; omega
 have z4:zeroIs Tryd.prog 4 (Sc.bool.val false):=(by kernel_rfl:(Tryd.prog.info? 4).bind (·.zero) = some (.bool false))
 refine ⟨?_,?_⟩
 ·refine makeSlice_own (s:=.bool) ok24 z4 rfl a.next.length (by rw [hnn]) (by omega) (by simp only [maxLen]; omega) fun g w3 ho3 hc3' hg=>?_
  have d3:=hd.then hc3'
  refine ⟨d3,?_⟩
  refine New.mk fun b10 w4 hb10 hn10 hz10 hc10=>?_
  have d4:=d3.then hc10
  refine ⟨d4,?_⟩
  have zz:=d3.size
  refine StoreN.whole (vs:=[.slice (some ⟨g,0,none⟩) a.next.length a.next.length,.int .i64 ((sn.n:Nat):Int),.int .i64 0,.string ⟨#[]⟩]) hn10 rfl fun w5 hh5 hc5 _=>?_
  exact fin (r:=⟨some ⟨g,0,none⟩,a.next.length,a.next.length⟩) (ch d4 hc5 (by omega)) hh5 (by omega) (keep (ho3.chg hc10 fun _ _ h=>h) (by decide) hn10 hc5) (by simp) fun q ⟨ad,h1,h2⟩=>by cases h1; dsimp only at h2; omega
 ·refine New.mk fun b10 w3 hb10 hn10 hz10 hc10=>?_
  have d3:=hd.then hc10
  refine ⟨d3,?_⟩
  refine makeSlice_own (s:=.bool) ok24 z4 rfl a.next.length (by rw [hnn]) (by omega) (by simp only [maxLen]; omega) fun g w4 ho4 hc4' hg=>?_
  have d4:=d3.then hc4'
  refine ⟨d4,?_⟩
  have zz:=d3.size
  have h10:=hc4'.heap hn10 fun h=>h
  refine StoreN.whole (vs:=[.slice (some ⟨g,0,none⟩) a.next.length a.next.length,.int .i64 ((sn.n:Nat):Int),.int .i64 0,.string ⟨#[]⟩]) h10 rfl fun w5 hh5 hc5 _=>?_
  exact fin (r:=⟨some ⟨g,0,none⟩,a.next.length,a.next.length⟩) (ch d4 hc5 (by omega)) hh5 (by omega) (keep ho4 (by decide) h10 hc5) (by simp) fun q ⟨ad,h1,h2⟩=>by cases h1; dsimp only at h2; omega
end Go.Proofs.YtffdjfkekdoeaaaDoor.Fo
end
section
set_option maxRecDepth 8000
set_option maxHeartbeats 4000000
namespace Go.Proofs.YtffdjfkekdoeaaaDoor.Fo
open Fw Wd Rf Pl
theorem under140:Tryd.prog.underlying 140 = some (.map 3 4):=by kernel_rfl
theorem zero4' (w:World):(zeroValue 4).run Tryd.prog w = .ok (.bool false) w:=by
 have z:(Tryd.prog.info? 4).bind (·.zero) = some (.bool false):=by kernel_rfl
 obtain ⟨i,hi,hz⟩:=Option.bind_eq_some_iff.1 z
 simp [zeroValue,typeInfo,hi,hz]
def MapI (w:World) (mb:Nat) (l:List (Int × Value)):Prop:=∃ es clock,w.heap[mb]? = some (.map es clock) ∧ ents es.toList l
theorem MapI.chg {w w':World} {mb:Nat} {l:List (Int × Value)} {S:Nat → Prop} (h:MapI w mb l) (hc:Chg S w w') (hs:¬ S mb):MapI w' mb l:=by
 obtain ⟨es,c,h1,h2⟩:=h; exact ⟨es,c,hc.heap h1 hs,h2⟩
theorem updateI_new {w:World} {mb:Nat} {l:List (Int × Value)} {ty e:TypeId} (hty:Tryd.prog.underlying ty = some (.map 3 e)) (h:MapI w mb l) {t:Int} (hn:∀ p ∈ l,p.1 ≠ t) (v:Value) :
  ∃ w',(Instr.mapUpdate ty (.map (some mb)) (.int .i64 t) v).run Tryd.prog w = .ok () w' ∧ MapI w' mb (l ++ [(t,v)]) ∧ Chg (· = mb) w w':=by
 obtain ⟨es,c,h1,h2⟩:=h
 have hf:=findNow_none .i64 t es.toList l 0 h2 hn
 refine ⟨w.putObj mb (.map (es.push { key:=.int .i64 t,val:=v,born:=c }) (c + 1)),?_,⟨_,_,heap_putObj h1,?_⟩,Chg.putObj w _ rfl⟩
 ·simp [Instr.mapUpdate,run_underlying hty,getObj,setObj,Sem.run_bind,Sem.run,h1,Result.andThen,checkKey_int Tryd.prog w _ 9999 3 .i64 .i64 _ under3,Instr.findKey,run_underlying under3,hf,World.putObj]
 ·unfold ents at *
  rw [Array.toList_push,List.map_append,h2,List.map_append]
  rfl
theorem lookupI {w:World} {mb:Nat} {l:List (Int × Value)} {ty e:TypeId} (hty:Tryd.prog.underlying ty = some (.map 3 e)) (h:MapI w mb l) (t:Int) {z:Value} (hz:(zeroValue e).run Tryd.prog w = .ok z w) (ok:Bool) :
  (Instr.lookup ty (.map (some mb)) (.int .i64 t) ok).run Tryd.prog w = .ok (match l.find? (fun p=>p.1 == t) with
   | some p=>if ok then .tuple #[p.2,.bool true] else p.2
   | none=>if ok then .tuple #[z,.bool false] else z) w:=by
 obtain ⟨es,c,h1,h2⟩:=h
 cases hl:l.find? (fun p=>p.1 == t) with
 | none=>
  have hf:=findNow_none .i64 t es.toList l 0 h2 (fun p hp he=>by
   have:=List.find?_eq_none.1 hl p hp
   simp [he] at this)
  cases ok <;> simp [Instr.lookup,run_underlying hty,getObj,Sem.run_bind,Sem.run,h1,Result.andThen,checkKey_int Tryd.prog w _ 9999 3 .i64 .i64 _ under3,Instr.findKey,run_underlying under3,hf,hz]
 | some p=>
  obtain ⟨hp,j,hj,hget,hno⟩:=List.find?_eq_some_iff_getElem.1 hl
  have hp:p.1 = t:=by simpa using hp
  have hf:=findNow_some .i64 t es.toList l 0 j p.2 h2 (by rw [List.getElem?_eq_getElem hj,hget,← hp]) (fun j' p' hj' hp' he=>by
   have hlt:=(List.getElem?_eq_some_iff.1 hp').1
   have h3:=hno j' hj'
   rw [(List.getElem?_eq_some_iff.1 hp').2] at h3
   simp [he] at h3)
  cases ok <;> simp [Instr.lookup,run_underlying hty,getObj,Sem.run_bind,Sem.run,h1,Result.andThen,checkKey_int Tryd.prog w _ 9999 3 .i64 .i64 _ under3,Instr.findKey,run_underlying under3,hf]
end Go.Proofs.YtffdjfkekdoeaaaDoor.Fo
end
section
set_option maxRecDepth 10000
namespace Go.Proofs.YtffdjfkekdoeaaaDoor
open Fw
noncomputable def fold_alike.ann:Ann where
 loops:=fun | 5=>[(5,.sc .adr),(6,.sc .adr),(7,.sc .adr),(8,.sc .adr),(11,.sc .map),(12,.sc .map),(13,.sc .sl),(14,.sc (.int .i64))] | 9=>[(5,.sc .adr),(6,.sc .adr),(7,.sc .adr),(8,.sc .adr),(11,.sc .map),(12,.sc .map),(13,.sc .sl),(14,.sc (.int .i64)),(15,.sc (.int .i64)),(48,.sc (.int .i64)),(49,.sc (.int .i64))] | _=>[]
 joins:=fun | 13=>some [(5,.sc .adr),(6,.sc .adr),(7,.sc .adr),(8,.sc .adr),(11,.sc .map),(12,.sc .map),(13,.sc .sl),(14,.sc (.int .i64)),(15,.sc (.int .i64)),(17,.sc (.int .i64)),(18,.sc (.int .i64)),(19,.sc .bool),(48,.sc (.int .i64)),(49,.sc (.int .i64))] | 15=>some [(5,.sc .adr),(6,.sc .adr),(7,.sc .adr),(8,.sc .adr),(11,.sc .map),(12,.sc .map),(13,.sc .sl),(14,.sc (.int .i64)),(15,.sc (.int .i64)),(17,.sc (.int .i64)),(18,.sc (.int .i64)),(19,.sc .bool),(48,.sc (.int .i64)),(49,.sc (.int .i64))] | 19=>some [(5,.sc .adr),(6,.sc .adr),(7,.sc .adr),(8,.sc .adr),(11,.sc .map),(12,.sc .map),(13,.sc .sl),(14,.sc (.int .i64)),(15,.sc (.int .i64)),(17,.sc (.int .i64)),(18,.sc (.int .i64)),(21,.sc .bool),(48,.sc (.int .i64)),(49,.sc (.int .i64))] | _=>none
noncomputable def fold_alike.body:Code:=match Tryd.f74.body with | some c=>c | none=>.skip
def fold_alike.sh (p0_0:Int) (p0_1:Int) (p0_2:Sl) (p0_3:Sl) (p1_0:Int) (p1_1:Int) (p1_2:Sl) (p1_3:Sl) (p2_0:Sl) (p2_1:Int) (p2_2:Int) (p2_3:ByteArray) (p3_0:Sl) (p3_1:Int) (p3_2:Int) (p3_3:ByteArray) (p4:Int) (R:Ending → World → Prop) (w:World):Prop:=
 New w (.cells #[(.int .i64 p0_0),(.int .i64 p0_1),(.slice p0_2.a p0_2.n p0_2.c),(.slice p0_3.a p0_3.n p0_3.c)] 27) fun b1 w2=>
 New w2 (.cells #[(.int .i64 p1_0),(.int .i64 p1_1),(.slice p1_2.a p1_2.n p1_2.c),(.slice p1_3.a p1_3.n p1_3.c)] 27) fun b3 w4=>
 New w4 (.cells #[(.slice p2_0.a p2_0.n p2_0.c),(.int .i64 p2_1),(.int .i64 p2_2),(.string p2_3)] 115) fun b5 w6=>
 New w6 (.cells #[(.slice p3_0.a p3_0.n p3_0.c),(.int .i64 p3_1),(.int .i64 p3_2),(.string p3_3)] 115) fun b7 w8=>
 New w8 (.map #[] 0) fun b9 w10=>
 LoadT (.sc (.int .i64)) w10 ((Addr.mk b5 0 none).add 2) fun x11=>
 RunU Tryd.prog (Instr.mapUpdate 139 (.map (some b9)) (.int .i64 x11) (.int .i64 p4)) w10 fun w12=>
 New w12 (.map #[] 0) fun b13 w14=>
 RunU Tryd.prog (Instr.mapUpdate 140 (.map (some b13)) (.int .i64 p4) (.bool true)) w14 fun w15=>
 LoadT (.sc (.int .i64)) w15 ((Addr.mk b5 0 none).add 2) fun x16=>
 New w15 (.cells #[(.int .i64 x16)] 3) fun b17 w18=>
 LoopT (σ:=Addr × Addr × Addr × Addr × Option Nat × Option Nat × Sl × Int × Unit) ((Addr.mk b1 0 none),(Addr.mk b3 0 none),(Addr.mk b5 0 none),(Addr.mk b7 0 none),(some b9),(some b13),⟨(some (Addr.mk b17 0 none)),1,1⟩,0,()) w18 fun l19 g20 w21 I22=>
  Br (decide ((l19.2.2.2.2.2.2.2.1:Int) < ((l19.2.2.2.2.2.2.1.n:Nat):Int)))
   (Idx l19.2.2.2.2.2.2.1.a l19.2.2.2.2.2.2.1.n 1 l19.2.2.2.2.2.2.2.1 fun a23=>
   LoadT (.sc (.int .i64)) w21 a23 fun x24=>
   LoadT (.sc .sl) w21 (l19.1.add 3) fun x25=>
   Idx x25.a x25.n 1 x24 fun a26=>
   LoadT (.sc .sl) w21 a26 fun x27=>
   LoopT (σ:=Addr × Addr × Addr × Addr × Option Nat × Option Nat × Sl × Int × Int × Int × Int × Unit) (l19.1,l19.2.1,l19.2.2.1,l19.2.2.2.1,l19.2.2.2.2.1,l19.2.2.2.2.2.1,l19.2.2.2.2.2.2.1,l19.2.2.2.2.2.2.2.1,x24,((x27.n:Nat):Int),0,()) w21 fun l28 g29 w30 I31=>
    Br (decide ((l28.2.2.2.2.2.2.2.2.2.2.1:Int) < l28.2.2.2.2.2.2.2.2.2.1))
     (LoadT (.sc .sl) w30.drew (l28.1.add 3) fun x32=>
     Idx x32.a x32.n 1 l28.2.2.2.2.2.2.2.2.1 fun a33=>
     LoadT (.sc .sl) w30.drew a33 fun x34=>
     Idx x34.a x34.n 1 l28.2.2.2.2.2.2.2.2.2.2.1 fun a35=>
     LoadT (.sc (.int .i64)) w30.drew a35 fun x36=>
     LoadT (.sc .sl) w30.drew (l28.2.1.add 3) fun x37=>
     ∃ r38:Ty.den (.sc (.int .i64)),(Instr.lookup 139 (.map l28.2.2.2.2.1) (.int .i64 l28.2.2.2.2.2.2.2.2.1) false).run Tryd.prog w30.drew = .ok (Ty.val (.sc (.int .i64)) r38) w30.drew ∧
     Idx x37.a x37.n 1 r38 fun a39=>
     LoadT (.sc .sl) w30.drew a39 fun x40=>
     Idx x40.a x40.n 1 l28.2.2.2.2.2.2.2.2.2.2.1 fun a41=>
     LoadT (.sc (.int .i64)) w30.drew a41 fun x42=>
     Join (σ:=Addr × Addr × Addr × Addr × Option Nat × Option Nat × Sl × Int × Int × Int × Int × Bool × Int × Int × Unit) (fun j45 g44 w49=>
      Join (σ:=Addr × Addr × Addr × Addr × Option Nat × Option Nat × Sl × Int × Int × Int × Int × Bool × Int × Int × Unit) (fun j52 g51 w56=>
       Br (!j52.2.2.2.2.2.2.2.2.2.2.2.1)
        (I31 (j52.1,j52.2.1,j52.2.2.1,j52.2.2.2.1,j52.2.2.2.2.1,j52.2.2.2.2.2.1,j52.2.2.2.2.2.2.1,j52.2.2.2.2.2.2.2.1,j52.2.2.2.2.2.2.2.2.1,j52.2.2.2.2.2.2.2.2.2.2.2.2.1,(IntKind.wrap .i64 (j52.2.2.2.2.2.2.2.2.2.2.2.2.2.1 + 1)),()) w56)
        (RunN Tryd.prog [.sc (.int .i64),.sc .bool] (Instr.lookup 139 (.map j52.2.2.2.2.1) (.int .i64 j52.2.2.2.2.2.2.2.2.2.1) true) w56 fun r57 w58=>
        Join (σ:=Addr × Addr × Addr × Addr × Option Nat × Option Nat × Sl × Int × Int × Int × Int × Bool × Int × Int × Unit) (fun j61 g60 w66=>
         Br (!j61.2.2.2.2.2.2.2.2.2.2.2.1)
          (RunU Tryd.prog (Instr.mapUpdate 139 (.map j61.2.2.2.2.1) (.int .i64 j61.2.2.2.2.2.2.2.2.2.1) (.int .i64 j61.2.2.2.2.2.2.2.2.2.2.1)) w66 fun w67=>
          RunU Tryd.prog (Instr.mapUpdate 140 (.map j61.2.2.2.2.2.1) (.int .i64 j61.2.2.2.2.2.2.2.2.2.2.1) (.bool true)) w67 fun w68=>
          New w68 (.cells #[(.int .i64 j61.2.2.2.2.2.2.2.2.2.1)] 3) fun b69 w70=>
          RunT Tryd.prog (.sc .sl) (Builtin.append_ #[85,85] 85 #[(.slice j61.2.2.2.2.2.2.1.a j61.2.2.2.2.2.2.1.n j61.2.2.2.2.2.2.1.c),(.slice (some (Addr.mk b69 0 none)) 1 1)]) w70 fun r71 w72=>
          I31 (j61.1,j61.2.1,j61.2.2.1,j61.2.2.2.1,j61.2.2.2.2.1,j61.2.2.2.2.2.1,r71,j61.2.2.2.2.2.2.2.1,j61.2.2.2.2.2.2.2.2.1,j61.2.2.2.2.2.2.2.2.2.2.2.2.1,(IntKind.wrap .i64 (j61.2.2.2.2.2.2.2.2.2.2.2.2.2.1 + 1)),()) w72)
          (I31 (j61.1,j61.2.1,j61.2.2.1,j61.2.2.2.1,j61.2.2.2.2.1,j61.2.2.2.2.2.1,j61.2.2.2.2.2.2.1,j61.2.2.2.2.2.2.2.1,j61.2.2.2.2.2.2.2.2.1,j61.2.2.2.2.2.2.2.2.2.2.2.2.1,(IntKind.wrap .i64 (j61.2.2.2.2.2.2.2.2.2.2.2.2.2.1 + 1)),()) w66)) fun J59=>
         Br r57.2.1
          (Br ((r57.1:Int) != j52.2.2.2.2.2.2.2.2.2.2.1)
           (Br true
            (R (.returned (.bool false)) w58)
            (J59 (j52.1,j52.2.1,j52.2.2.1,j52.2.2.2.1,j52.2.2.2.2.1,j52.2.2.2.2.2.1,j52.2.2.2.2.2.2.1,j52.2.2.2.2.2.2.2.1,j52.2.2.2.2.2.2.2.2.1,j52.2.2.2.2.2.2.2.2.2.1,j52.2.2.2.2.2.2.2.2.2.2.1,r57.2.1,j52.2.2.2.2.2.2.2.2.2.2.2.2.1,j52.2.2.2.2.2.2.2.2.2.2.2.2.2.1,()) w58))
           (Br (!r57.2.1)
            (RunT Tryd.prog (.sc .bool) (Instr.lookup 140 (.map j52.2.2.2.2.2.1) (.int .i64 j52.2.2.2.2.2.2.2.2.2.2.1) false) w58 fun r62 w63=>
            Br r62
             (R (.returned (.bool false)) w63)
             (J59 (j52.1,j52.2.1,j52.2.2.1,j52.2.2.2.1,j52.2.2.2.2.1,j52.2.2.2.2.2.1,j52.2.2.2.2.2.2.1,j52.2.2.2.2.2.2.2.1,j52.2.2.2.2.2.2.2.2.1,j52.2.2.2.2.2.2.2.2.2.1,j52.2.2.2.2.2.2.2.2.2.2.1,r57.2.1,j52.2.2.2.2.2.2.2.2.2.2.2.2.1,j52.2.2.2.2.2.2.2.2.2.2.2.2.2.1,()) w63))
            (Br false
             (R (.returned (.bool false)) w58)
             (J59 (j52.1,j52.2.1,j52.2.2.1,j52.2.2.2.1,j52.2.2.2.2.1,j52.2.2.2.2.2.1,j52.2.2.2.2.2.2.1,j52.2.2.2.2.2.2.2.1,j52.2.2.2.2.2.2.2.2.1,j52.2.2.2.2.2.2.2.2.2.1,j52.2.2.2.2.2.2.2.2.2.2.1,r57.2.1,j52.2.2.2.2.2.2.2.2.2.2.2.2.1,j52.2.2.2.2.2.2.2.2.2.2.2.2.2.1,()) w58))))
          (Br (!r57.2.1)
           (RunT Tryd.prog (.sc .bool) (Instr.lookup 140 (.map j52.2.2.2.2.2.1) (.int .i64 j52.2.2.2.2.2.2.2.2.2.2.1) false) w58 fun r64 w65=>
           Br r64
            (R (.returned (.bool false)) w65)
            (J59 (j52.1,j52.2.1,j52.2.2.1,j52.2.2.2.1,j52.2.2.2.2.1,j52.2.2.2.2.2.1,j52.2.2.2.2.2.2.1,j52.2.2.2.2.2.2.2.1,j52.2.2.2.2.2.2.2.2.1,j52.2.2.2.2.2.2.2.2.2.1,j52.2.2.2.2.2.2.2.2.2.2.1,r57.2.1,j52.2.2.2.2.2.2.2.2.2.2.2.2.1,j52.2.2.2.2.2.2.2.2.2.2.2.2.2.1,()) w65))
           (Br false
            (R (.returned (.bool false)) w58)
            (J59 (j52.1,j52.2.1,j52.2.2.1,j52.2.2.2.1,j52.2.2.2.2.1,j52.2.2.2.2.2.1,j52.2.2.2.2.2.2.1,j52.2.2.2.2.2.2.2.1,j52.2.2.2.2.2.2.2.2.1,j52.2.2.2.2.2.2.2.2.2.1,j52.2.2.2.2.2.2.2.2.2.2.1,r57.2.1,j52.2.2.2.2.2.2.2.2.2.2.2.2.1,j52.2.2.2.2.2.2.2.2.2.2.2.2.2.1,()) w58))))) fun J50=>
       Br (decide ((j45.2.2.2.2.2.2.2.2.2.2.1:Int) ≥ 0))
        (LoadT (.sc .sl) w49 (j45.2.2.2.1.add 0) fun x53=>
        Idx x53.a x53.n 1 j45.2.2.2.2.2.2.2.2.2.2.1 fun a54=>
        LoadT (.sc .bool) w49 a54 fun x55=>
        Br (!(j45.2.2.2.2.2.2.2.2.2.2.2.1 == x55))
         (R (.returned (.bool false)) w49)
         (J50 (j45.1,j45.2.1,j45.2.2.1,j45.2.2.2.1,j45.2.2.2.2.1,j45.2.2.2.2.2.1,j45.2.2.2.2.2.2.1,j45.2.2.2.2.2.2.2.1,j45.2.2.2.2.2.2.2.2.1,j45.2.2.2.2.2.2.2.2.2.1,j45.2.2.2.2.2.2.2.2.2.2.1,j45.2.2.2.2.2.2.2.2.2.2.2.1,j45.2.2.2.2.2.2.2.2.2.2.2.2.1,j45.2.2.2.2.2.2.2.2.2.2.2.2.2.1,()) w49))
        (Br (!(j45.2.2.2.2.2.2.2.2.2.2.2.1 == false))
         (R (.returned (.bool false)) w49)
         (J50 (j45.1,j45.2.1,j45.2.2.1,j45.2.2.2.1,j45.2.2.2.2.1,j45.2.2.2.2.2.1,j45.2.2.2.2.2.2.1,j45.2.2.2.2.2.2.2.1,j45.2.2.2.2.2.2.2.2.1,j45.2.2.2.2.2.2.2.2.2.1,j45.2.2.2.2.2.2.2.2.2.2.1,j45.2.2.2.2.2.2.2.2.2.2.2.1,j45.2.2.2.2.2.2.2.2.2.2.2.2.1,j45.2.2.2.2.2.2.2.2.2.2.2.2.2.1,()) w49))) fun J43=>
      Br (decide ((x36:Int) ≥ 0))
       (LoadT (.sc .sl) w30.drew (l28.2.2.1.add 0) fun x46=>
       Idx x46.a x46.n 1 x36 fun a47=>
       LoadT (.sc .bool) w30.drew a47 fun x48=>
       J43 (l28.1,l28.2.1,l28.2.2.1,l28.2.2.2.1,l28.2.2.2.2.1,l28.2.2.2.2.2.1,l28.2.2.2.2.2.2.1,l28.2.2.2.2.2.2.2.1,l28.2.2.2.2.2.2.2.2.1,x36,x42,x48,l28.2.2.2.2.2.2.2.2.2.1,l28.2.2.2.2.2.2.2.2.2.2.1,()) w30.drew)
       (J43 (l28.1,l28.2.1,l28.2.2.1,l28.2.2.2.1,l28.2.2.2.2.1,l28.2.2.2.2.2.1,l28.2.2.2.2.2.2.1,l28.2.2.2.2.2.2.2.1,l28.2.2.2.2.2.2.2.2.1,x36,x42,false,l28.2.2.2.2.2.2.2.2.2.1,l28.2.2.2.2.2.2.2.2.2.2.1,()) w30.drew))
     (I22 (l28.1,l28.2.1,l28.2.2.1,l28.2.2.2.1,l28.2.2.2.2.1,l28.2.2.2.2.2.1,l28.2.2.2.2.2.2.1,(IntKind.wrap .i64 (l28.2.2.2.2.2.2.2.1 + 1)),()) w30))
   (R (.returned (.bool true)) w21)
theorem fold_alike.calls (p0_0:Int) (p0_1:Int) (p0_2:Sl) (p0_3:Sl) (p1_0:Int) (p1_1:Int) (p1_2:Sl) (p1_3:Sl) (p2_0:Sl) (p2_1:Int) (p2_2:Int) (p2_3:ByteArray) (p3_0:Sl) (p3_1:Int) (p3_2:Int) (p3_3:ByteArray) (p4:Int) {R:Ending → World → Prop} {w:World} (h:fold_alike.sh p0_0 p0_1 p0_2 p0_3 p1_0 p1_1 p1_2 p1_3 p2_0 p2_1 p2_2 p2_3 p3_0 p3_1 p3_2 p3_3 p4 R w):Calls Tryd.prog 74 #[(.agg #[(.int .i64 p0_0),(.int .i64 p0_1),(.slice p0_2.a p0_2.n p0_2.c),(.slice p0_3.a p0_3.n p0_3.c)]),(.agg #[(.int .i64 p1_0),(.int .i64 p1_1),(.slice p1_2.a p1_2.n p1_2.c),(.slice p1_3.a p1_3.n p1_3.c)]),(.agg #[(.slice p2_0.a p2_0.n p2_0.c),(.int .i64 p2_1),(.int .i64 p2_2),(.string p2_3)]),(.agg #[(.slice p3_0.a p3_0.n p3_0.c),(.int .i64 p3_1),(.int .i64 p3_2),(.string p3_3)]),(.int .i64 p4)] w R:=calls_of_wpc mixed Tryd.func74 (by kernel_rfl) (by kernel_rfl) ((show _ = wpc Tryd.prog fold_alike.ann fold_alike.body (fnKs Tryd.prog Tryd.f74 R) [] (env0 #[(.agg #[(.int .i64 p0_0),(.int .i64 p0_1),(.slice p0_2.a p0_2.n p0_2.c),(.slice p0_3.a p0_3.n p0_3.c)]),(.agg #[(.int .i64 p1_0),(.int .i64 p1_1),(.slice p1_2.a p1_2.n p1_2.c),(.slice p1_3.a p1_3.n p1_3.c)]),(.agg #[(.slice p2_0.a p2_0.n p2_0.c),(.int .i64 p2_1),(.int .i64 p2_2),(.string p2_3)]),(.agg #[(.slice p3_0.a p3_0.n p3_0.c),(.int .i64 p3_1),(.int .i64 p3_2),(.string p3_3)]),(.int .i64 p4)]) w by kernel_rfl).mp h)
end Go.Proofs.YtffdjfkekdoeaaaDoor
end
section
set_option maxRecDepth 4000
set_option maxHeartbeats 2000000
namespace Go.Proofs.YtffdjfkekdoeaaaDoor.Pl
open Fw Wd Fo Rf
theorem nodup_sub {α:Type} [DecidableEq α]:∀ (a b:List α),a.Nodup → (∀ x ∈ a,x ∈ b) → a.length ≤ b.length
 | [],b,_,_=>Nat.zero_le _
 | x :: a,b,hn,h=>by
  obtain ⟨h1,h2⟩:=List.nodup_cons.1 hn
  have hx:=h x (by simp)
  have:=nodup_sub a (b.erase x) h2 fun y hy=>by
   have hne:y ≠ x:=fun he=>h1 (he ▸ hy)
   exact (List.mem_erase_of_ne hne).2 (h y (by simp [hy]))
  rw [List.length_erase_of_mem hx] at this
  have hpos:0 < b.length:=List.length_pos_of_mem hx
  simp only [List.length_cons]; omega
end Go.Proofs.YtffdjfkekdoeaaaDoor.Pl
end
section
set_option maxRecDepth 8000
set_option maxHeartbeats 4000000
namespace Go.Proofs.YtffdjfkekdoeaaaDoor.Fo
open Fw Wd Rf Pl
def thF (inn:List Bool) (t:Int):Bool:=decide (0 ≤ t) && inn.getD t.toNat false
def lookN (q:List (Nat × Nat)) (t:Int):Option Nat:=(q.find? fun p=>((p.1:Nat):Int) == t).map (·.2)
def takN (q:List (Nat × Nat)) (u:Int):Bool:=(q.find? fun p=>((p.2:Nat):Int) == u).isSome
def alX (ia ib:List Bool):List (Int × Int) → List (Nat × Nat) → Option (List (Nat × Nat))
 | [],q=>some q
 | (t,v) :: l,q=>
  if thF ia t ≠ thF ib v then none
  else if thF ia t = false then alX ia ib l q
  else match lookN q t with
   | some u=>if (u:Int) ≠ v then none else alX ia ib l q
   | none=>if takN q v = true then none else alX ia ib l (q ++ [(t.toNat,v.toNat)])
def alQ (nx ny:List (List Int)) (ia ib:List Bool):Nat → Nat → List (Nat × Nat) → Option Bool
 | 0,_,_=>none
 | n + 1,i,q=>
  match q[i]? with
  | none=>some true
  | some (s,u)=>
   match alX ia ib ((nx.getD s []).zip (ny.getD u [])) q with
   | none=>some false
   | some q'=>alQ nx ny ia ib n (i + 1) q'
def m1L (q:List (Nat × Nat)):List (Int × Value):=q.map fun p=>((p.1:Int),.int .i64 (p.2:Int))
def m2L (q:List (Nat × Nat)):List (Int × Value):=q.map fun p=>((p.2:Int),.bool true)
theorem m1_find (q:List (Nat × Nat)) (t:Int):(m1L q).find? (fun p=>p.1 == t) = (q.find? fun p=>((p.1:Nat):Int) == t).map fun p=>((p.1:Int),.int .i64 (p.2:Int)):=by
 unfold m1L; rw [List.find?_map]; rfl
theorem m2_find (q:List (Nat × Nat)) (t:Int):(m2L q).find? (fun p=>p.1 == t) = (q.find? fun p=>((p.2:Nat):Int) == t).map fun p=>((p.2:Int),.bool true):=by
 unfold m2L; rw [List.find?_map]; rfl
structure QOk (n m:Nat) (q:List (Nat × Nat)):Prop where
 keys:(q.map (·.1)).Nodup
 lt:∀ p ∈ q,p.1 < n ∧ p.2 < m
theorem QOk.look {n m:Nat} {q:List (Nat × Nat)} (h:QOk n m q) {i s u:Nat} (hi:q[i]? = some (s,u)):q.find? (fun p=>((p.1:Nat):Int) == (s:Int)) = some (s,u):=by
 cases hf:q.find? (fun p=>((p.1:Nat):Int) == (s:Int)) with
 | none=>
  have:=List.find?_eq_none.1 hf _ (List.mem_of_getElem? hi)
  simp at this
 | some p=>
  obtain ⟨hp,j,hj,hget,hno⟩:=List.find?_eq_some_iff_getElem.1 hf
  have hp:p.1 = s:=by have:((p.1:Nat):Int) = s:=by simpa using hp
                      omega
  obtain ⟨hil,hie⟩:=List.getElem?_eq_some_iff.1 hi
  have:j = i:=(List.getElem_inj (xs:=q.map (·.1)) (i:=j) (j:=i) (h₀:=by simpa using hj) (h₁:=by simpa using hil) h.keys).1 (by simp [hget,hie,hp])
  subst this
  rw [hget] at hie
  rw [hie]
theorem QOk.len {n m:Nat} {q:List (Nat × Nat)} (h:QOk n m q):q.length ≤ n:=by
 have:=nodup_sub (q.map (·.1)) (List.range n) h.keys (fun x hx=>by
  obtain ⟨p,hp,rfl⟩:=List.mem_map.1 hx
  exact List.mem_range.2 (h.lt p hp).1)
 simpa using this
theorem QOk.snoc {n m:Nat} {q:List (Nat × Nat)} (h:QOk n m q) {t u:Nat} (ht:lookN q (t:Int) = none) (h1:t < n) (h2:u < m):QOk n m (q ++ [(t,u)]):=by
 refine ⟨?_,fun p hp=>?_⟩
 ·rw [List.map_append,List.nodup_append]
  refine ⟨h.keys,by simp,fun a ha b hb he=>?_⟩
  simp only [List.map_cons,List.map_nil,List.mem_singleton] at hb
  subst hb; subst he
  obtain ⟨p,hp,he⟩:=List.mem_map.1 ha
  unfold lookN at ht
  have:=List.find?_eq_none.1 (Option.map_eq_none_iff.1 ht) p hp
  simp [he] at this
 ·rcases List.mem_append.1 hp with hp | hp
  ·exact h.lt p hp
  ·rw [List.mem_singleton.1 hp]; exact ⟨h1,h2⟩
structure Al (w W:World) (b1 b3 b5 b7 m1 m2:Nat) (av bv pv qv:Array Value) (sq:Sl) (q:List (Nat × Nat)):Prop where
 chg:Chg Nil w W
 c1:W.heap[b1]? = some (.cells av 27 (0,0))
 c3:W.heap[b3]? = some (.cells bv 27 (0,0))
 c5:W.heap[b5]? = some (.cells pv 115 (0,0))
 c7:W.heap[b7]? = some (.cells qv 115 (0,0))
 k1:MapI W m1 (m1L q)
 k2:MapI W m2 (m2L q)
 own:OwnN W sq (q.map (·.1))
 lo:∀ k,sq.own k → w.heap.size ≤ k
 l1:w.heap.size ≤ m1
 l2:w.heap.size ≤ m2
 ne:m1 ≠ m2
theorem Al.nil {w W W':World} {b1 b3 b5 b7 m1 m2:Nat} {av bv pv qv:Array Value} {sq:Sl} {q:List (Nat × Nat)} (h:Al w W b1 b3 b5 b7 m1 m2 av bv pv qv sq q) (hc:Chg Nil W W'):Al w W' b1 b3 b5 b7 m1 m2 av bv pv qv sq q:=
 ⟨h.chg.then hc,hc.heap h.c1 fun h=>h,hc.heap h.c3 fun h=>h,hc.heap h.c5 fun h=>h,hc.heap h.c7 fun h=>h,h.k1.chg hc fun h=>h,h.k2.chg hc fun h=>h,h.own.chg hc fun _ _ h=>h,h.lo,h.l1,h.l2,h.ne⟩
theorem map_ne {w:World} {mb k:Nat} {l:List (Int × Value)} (h:MapI w mb l) {cs:Array Value} {e:TypeId} {f:Nat × Nat} (hk:w.heap[k]? = some (.cells cs e f)):k ≠ mb:=fun he=>by
 obtain ⟨es,c,h1,_⟩:=h
 rw [he,h1] at hk; cases hk
theorem Al.add {w W:World} {b1 b3 b5 b7 m1 m2:Nat} {av bv pv qv:Array Value} {sq:Sl} {q:List (Nat × Nat)} (h:Al w W b1 b3 b5 b7 m1 m2 av bv pv qv sq q) {t u:Nat} (ht:lookN q (t:Int) = none) (hu:takN q (u:Int) = false) (hq:q.length ≤ 1000000)
  {K:Sl → World → Prop} (k:∀ sq' W',Al w W' b1 b3 b5 b7 m1 m2 av bv pv qv sq' (q ++ [(t,u)]) → K sq' W') :
  RunU Tryd.prog (Instr.mapUpdate 139 (.map (some m1)) (.int .i64 (t:Int)) (.int .i64 (u:Int))) W fun w67=>
   RunU Tryd.prog (Instr.mapUpdate 140 (.map (some m2)) (.int .i64 (u:Int)) (.bool true)) w67 fun w68=>
   New w68 (.cells #[(.int .i64 (t:Int))] 3) fun b69 w70=>
   RunT Tryd.prog (.sc .sl) (Builtin.append_ #[85,85] 85 #[(.slice sq.a sq.n sq.c),(.slice (some (Addr.mk b69 0 none)) 1 1)]) w70 fun r71 w72=>K r71 w72:=by
 have ow:∀ {W:World} {sq:Sl} {l:List Nat} (ho:OwnN W sq l) {mb:Nat} {l':List (Int × Value)} (hm:MapI W mb l'),∀ ad,sq.a = some ad → ¬ ad.block = mb:=fun {W sq l} ho {mb l'} hm ad had he=>by
  obtain ⟨cur,hcur⟩:=ho.elem ⟨ad,had,rfl⟩
  exact map_ne hm hcur he
 obtain ⟨W1,hr1,hk1,hc1⟩:=updateI_new (ty:=139) under139 h.k1 (t:=(t:Int)) (fun p hp he=>by
  unfold lookN at ht
  have hn:=Option.map_eq_none_iff.1 ht
  unfold m1L at hp
  obtain ⟨p',hp',rfl⟩:=List.mem_map.1 hp
  have:=List.find?_eq_none.1 hn p' hp'
  simp only [beq_iff_eq] at this
  exact this he) (.int .i64 (u:Int))
 refine ⟨W1,hr1,?_⟩
 have hk2:MapI W1 m2 (m2L q):=h.k2.chg hc1 fun he=>h.ne he.symm
 obtain ⟨W2,hr2,hk2',hc2⟩:=updateI_new (ty:=140) under140 hk2 (t:=(u:Int)) (fun p hp he=>by
  unfold m2L at hp
  obtain ⟨p',hp',rfl⟩:=List.mem_map.1 hp
  unfold takN at hu
  have hn:q.find? (fun p=>((p.2:Nat):Int) == (u:Int)) = none:=by simpa using hu
  have:=List.find?_eq_none.1 hn p' hp'
  simp only [beq_iff_eq] at this
  exact this he) (.bool true)
 refine ⟨W2,hr2,?_⟩
 have o2:OwnN W2 sq (q.map (·.1)):=(h.own.chg hc1 (ow h.own h.k1)).chg hc2 (ow (h.own.chg hc1 (ow h.own h.k1)) hk2)
 refine New.mk fun b69 W3 hb hn hz hc3=>?_
 have o3:=o2.chg hc3 fun _ _ h=>h
 refine OwnT.append (t:=tI) (m:=1) ok85 rfl (by decide) o3 [(t:Int)] rfl (by decide) (fun j v hv=>by rw [cellOf hn]; simpa [Ty.cells] using hv) (by simp; omega) (by simp only [maxLen]; simp; omega) fun sq' W4 ho4 hc4 hown=>?_
 have q1:=hk1.chg hc2 fun he=>h.ne he
 have e1:m1L (q ++ [(t,u)]) = m1L q ++ [((t:Int),.int .i64 (u:Int))]:=by unfold m1L; rw [List.map_append]; rfl
 have e2:m2L (q ++ [(t,u)]) = m2L q ++ [((u:Int),.bool true)]:=by unfold m2L; rw [List.map_append]; rfl
 have ne4:∀ {k:Nat} {cs:Array Value} {e:TypeId} {f:Nat × Nat},W3.heap[k]? = some (.cells cs e f) → e ≠ 3 → ¬ sq.own k:=fun hk he hs=>by
  obtain ⟨cur,hcur⟩:=o3.elem hs
  exact ne_of_elem hcur hk (Ne.symm he) rfl
 have nm4:∀ {mb:Nat} {l:List (Int × Value)},MapI W3 mb l → ¬ sq.own mb:=fun hm hs=>by
  obtain ⟨cur,hcur⟩:=o3.elem hs
  exact map_ne hm hcur rfl
 have up:∀ {k:Nat} {cs:Array Value} {e:TypeId} {f:Nat × Nat},W.heap[k]? = some (.cells cs e f) → e ≠ 3 → W4.heap[k]? = some (.cells cs e f):=fun hk he=>by
  have h1:=hc1.heap hk fun hh=>map_ne h.k1 hk hh
  have h2:=hc2.heap h1 fun hh=>map_ne hk2 h1 hh
  have h3:=hc3.heap h2 fun h=>h
  exact hc4.heap h3 (ne4 h3 he)
 have p1:=q1.chg hc3 fun h=>h
 have p2:=hk2'.chg hc3 fun h=>h
 have zs:=(h.chg.size)
 refine k sq' W4 ⟨?_,up h.c1 (by decide),up h.c3 (by decide),up h.c5 (by decide),up h.c7 (by decide),by rw [e1]; exact p1.chg hc4 (nm4 p1),by rw [e2]; exact p2.chg hc4 (nm4 p2),?_,fun j hj=>?_,h.l1,h.l2,h.ne⟩
 ·refine (((h.chg.trans hc1 (fun _ _ h=>h) fun i hi he=>?_).trans hc2 (fun _ _ h=>h) fun i hi he=>?_).then hc3).trans hc4 (fun _ _ h=>h) fun i hi he=>?_
  ·have he:i = m1:=he; have:=h.l1; omega
  ·have he:i = m2:=he; have:=h.l2; omega
  ·have:=h.lo i he; omega
 ·unfold OwnN; rw [List.map_append,List.map_append]; exact ho4
 ·rcases hown j hj with h1 | h1
  ·exact h.lo j h1
  ·have:=hc1.size; have:=hc2.size; have:=hc3.size; omega
theorem alike_ret {w:World} {k:Int} {x y:Int × Int × Sl × Sl × Unit} {a b:Aut} (ha:AutIn w x a) (hb:AutIn w y b) (hc:a.check k = 0) (hd:b.check k = 0) (hk:1 ≤ k ∧ k ≤ 8)
  {p q:Sl × Int × Int × ByteArray × Unit} {ca cb:Co} (hp:CoIn w p ca) (hq:CoIn w q cb) (lp:ca.inn.length = a.next.length) (lq:cb.inn.length = b.next.length) (bp:ca.base < a.next.length) {state:Nat} (hst:state < b.next.length)
  {N:Nat} {res:Bool} (hf:alQ a.next b.next ca.inn cb.inn N 0 [(ca.base,state)] = some res) :
  Ret Tryd.prog 74 #[.agg #[.int .i64 x.1,.int .i64 x.2.1,x.2.2.1.v,x.2.2.2.1.v],.agg #[.int .i64 y.1,.int .i64 y.2.1,y.2.2.1.v,y.2.2.2.1.v],.agg #[p.1.v,.int .i64 p.2.1,.int .i64 p.2.2.1,.string p.2.2.2.1],.agg #[q.1.v,.int .i64 q.2.1,.int .i64 q.2.2.1,.string q.2.2.2.1],.int .i64 (state:Int)] (.sc .bool) w
   fun z w'=>z = res ∧ Chg Nil w w':=by
 obtain ⟨x1,x2,sa,sn,_⟩:=x
 obtain ⟨y1,y2,ta,tn,_⟩:=y
 obtain ⟨p1,p2,p3,p4,_⟩:=p
 obtain ⟨q1,q2,q3,q4,_⟩:=q
 obtain ⟨_,_,n1,n2,_,_,hrows⟩:=check_spec hc
 obtain ⟨_,_,m1',m2',_,_,hrows'⟩:=check_spec hd
 obtain ⟨_,_,_,sls,hsn,hsl,hrd,_⟩:=ha.rd
 obtain ⟨_,_,_,tls,htn,htl,hrd',_⟩:=hb.rd
 have hsn:RdT w tL sn sls:=hsn
 have htn:RdT w tL tn tls:=htn
 have hpi:RdT w (.sc .bool) p1 ca.inn:=hp.inn.rd
 have hqi:RdT w (.sc .bool) q1 cb.inn:=hq.inn.rd
 have hp3:p3 = (ca.base:Int):=hp.base
 refine fold_alike.calls x1 x2 sa sn y1 y2 ta tn p1 p2 p3 p4 q1 q2 q3 q4 (state:Int) ?_
 unfold fold_alike.sh
 refine New.mk fun b1 w1 hb1 hh1 hs1 hc1=>?_
 refine New.mk fun b3 w2 hb3 hh3 hs3 hc3=>?_
 refine New.mk fun b5 w3 hb5 hh5 hs5 hc5=>?_
 refine New.mk fun b7 w4 hb7 hh7 hs7 hc7=>?_
 refine New.mk fun b9 w5 hb9 hh9 hs9 hc9=>?_
 have d13:=hc3.then hc5
 have h5:=hc9.heap (hc7.heap hh5 fun h=>h) fun h=>h
 have h7:=hc9.heap hh7 fun h=>h
 have h3:=hc9.heap (hc7.heap (hc5.heap hh3 fun h=>h) fun h=>h) fun h=>h
 have h1:=hc9.heap (hc7.heap (d13.heap hh1 fun h=>h) fun h=>h) fun h=>h
 have hN5:Chg Nil w w5:=(((hc1.then hc3).then hc5).then hc7).then hc9
 have zz1:=hc1.size
 have zz3:=hc3.size
 have zz5:=hc5.size
 have zz7:=hc7.size
 refine LoadT.sc (s:=.int .i64) (x:=(ca.base:Int)) (by rw [cellOf h5,hp3]; rfl) ?_
 have k0:MapI w5 b9 []:=⟨#[],0,hh9,rfl⟩
 obtain ⟨w6,hr6,hk6,hc6⟩:=updateI_new (ty:=139) under139 k0 (t:=(ca.base:Int)) (by simp) (.int .i64 (state:Int))
 refine ⟨w6,hr6,?_⟩
 refine New.mk fun b13 w7 hb13 hh13 hs13 hc13=>?_
 have zz6:=hc6.size
 obtain ⟨w8,hr8,hk8,hc8⟩:=updateI_new (ty:=140) (e:=4) (l:=[]) under140 ⟨#[],0,hh13,rfl⟩ (t:=(state:Int)) (by simp) (.bool true)
 refine ⟨w8,hr8,?_⟩
 have up:∀ {j:Nat} {o:Obj},w5.heap[j]? = some o → j ≠ b9 → w8.heap[j]? = some o:=fun {j o} hj hne=>by
  have e6:=hc6.heap hj hne
  have e7:=hc13.heap e6 fun h=>h
  exact hc8.heap e7 fun he=>by have he:j = b13:=he; have:=lt_of_heap e6; omega
 have h58:=up h5 (fun he=>by omega)
 refine LoadT.sc (s:=.int .i64) (x:=(ca.base:Int)) (by rw [cellOf h58,hp3]; rfl) ?_
 refine New.mk fun b17 w9 hb17 hh17 hs17 hc17=>?_
 have zz8:=hc8.size
 have hN8:Chg Nil w w8:=((hN5.trans hc6 (fun _ _ h=>h) fun i hi he=>by have he:i = b9:=he; omega).then hc13).trans hc8 (fun _ _ h=>h) fun i hi he=>by have he:i = b13:=he; omega
 have hA0:Al w w9 b1 b3 b5 b7 b9 b13 #[.int .i64 x1,.int .i64 x2,sa.v,sn.v] #[.int .i64 y1,.int .i64 y2,ta.v,tn.v] #[p1.v,.int .i64 p2,.int .i64 p3,.string p4] #[q1.v,.int .i64 q2,.int .i64 q3,.string q4] ⟨some (at0 b17),1,1⟩ [(ca.base,state)]:=
  ⟨hN8.then hc17,hc17.heap (up h1 (fun he=>by omega)) fun h=>h,hc17.heap (up h3 (fun he=>by omega)) fun h=>h,hc17.heap h58 fun h=>h,hc17.heap (up h7 (fun he=>by omega)) fun h=>h,
   ((hk6.chg hc13 fun h=>h).chg hc8 fun he=>by have he:b9 = b13:=he; omega).chg hc17 fun h=>h,hk8.chg hc17 fun h=>h,own_lit (t:=tI) hh17 (by decide) rfl rfl (by simp [maxLen]),fun j ⟨ad,had,he⟩=>by cases had; have he:b17 = j:=he; omega,by omega,by omega,by omega⟩
 have hQ0:QOk a.next.length b.next.length [(ca.base,state)]:=⟨by simp,fun p hp=>by rw [List.mem_singleton.1 hp]; exact ⟨bp,hst⟩⟩
 clear hh1 hh3 hh5 hh7 hh9 h1 h3 h5 h7 h58 hk6 hk8 hh13 hh17 up k0
 refine LoopT.fuel (fun f z W=>∃ (i:Nat) (sq:Sl) (qq:List (Nat × Nat)),z = (at0 b1,at0 b3,at0 b5,at0 b7,some b9,some b13,sq,(i:Int),()) ∧ Al w W b1 b3 b5 b7 b9 b13 #[.int .i64 x1,.int .i64 x2,sa.v,sn.v] #[.int .i64 y1,.int .i64 y2,ta.v,tn.v] #[p1.v,.int .i64 p2,.int .i64 p3,.string p4] #[q1.v,.int .i64 q2,.int .i64 q3,.string q4] sq qq ∧
   QOk a.next.length b.next.length qq ∧ alQ a.next b.next ca.inn cb.inn f i qq = some res ∧ i ≤ qq.length) N ⟨0,_,_,rfl,hA0,hQ0,hf,Nat.zero_le _⟩ ?_
 clear hA0 hQ0 hf
 rintro f z g W C ⟨i,sq,qq,rfl,hA,hQ,hf,hiq⟩ hC
 dsimp only
 have hsq:sq.n = qq.length:=by rw [hA.own.len]; simp
 have hql:=hQ.len
 cases f with
 | zero=>simp [alQ] at hf
 | succ f=>
 simp only [alQ] at hf
 refine Br.dec (fun hlt=>?_) (fun hge=>?_)
 rotate_left
 ·have hlen:i = qq.length:=by have hge:¬ (i:Int) < ((sq.n:Nat):Int):=hge; omega
  rw [List.getElem?_eq_none (by omega)] at hf
  have hf:true = res:=by simpa using hf
  exact ⟨true,rfl,hf,hA.chg⟩
 have hlt:(i:Int) < ((sq.n:Nat):Int):=hlt
 obtain ⟨⟨s,u⟩,hsu⟩:∃ e,qq[i]? = some e:=⟨_,List.getElem?_eq_getElem (by omega)⟩
 rw [hsu] at hf
 dsimp only at hf
 obtain ⟨hsl',hul⟩:=hQ.lt _ (List.mem_of_getElem? hsu)
 dsimp only at hsl' hul
 obtain ⟨rs,hrs⟩:∃ e,a.next[s]? = some e:=⟨_,List.getElem?_eq_getElem hsl'⟩
 obtain ⟨ru,hru⟩:∃ e,b.next[u]? = some e:=⟨_,List.getElem?_eq_getElem hul⟩
 obtain ⟨s1,hs1'⟩:∃ e,sls[s]? = some e:=⟨_,List.getElem?_eq_getElem (by omega)⟩
 obtain ⟨s2,hs2'⟩:∃ e,tls[u]? = some e:=⟨_,List.getElem?_eq_getElem (by omega)⟩
 have gs:a.next.getD s [] = rs:=by rw [List.getD_eq_getElem?_getD,hrs]; rfl
 have gu:b.next.getD u [] = ru:=by rw [List.getD_eq_getElem?_getD,hru]; rfl
 rw [gs,gu] at hf
 have r1:=hrd s s1 rs hs1' hrs
 have r2:=hrd' u s2 ru hs2' hru
 obtain ⟨L1,V1⟩:=hrows rs (List.mem_of_getElem? hrs)
 obtain ⟨L2,V2⟩:=hrows' ru (List.mem_of_getElem? hru)
 have hqs:(qq.map (·.1))[i]? = some s:=by rw [List.getElem?_map,hsu]; rfl
 refine hA.own.rd.get (t:=tI) i rfl (x:=(s:Int)) (by rw [List.getElem?_map,hqs]; rfl) ?_
 refine LoadT.sc (s:=.sl) (x:=sn) (by rw [show at0 b1 = Addr.mk b1 0 none from rfl,cellOf hA.c1]; rfl) ?_
 refine (hsn.chg hA.chg fun _ _ h=>h).get (t:=tL) s rfl hs1' ?_
 have hn1:s1.n = rs.length:=r1.len
 refine LoopT.mk (fun z W=>∃ (j:Nat) (sq:Sl) (q':List (Nat × Nat)),j ≤ rs.length ∧ z = (at0 b1,at0 b3,at0 b5,at0 b7,some b9,some b13,sq,(i:Int),(s:Int),((s1.n:Nat):Int),(j:Int),()) ∧ Al w W b1 b3 b5 b7 b9 b13 #[.int .i64 x1,.int .i64 x2,sa.v,sn.v] #[.int .i64 y1,.int .i64 y2,ta.v,tn.v] #[p1.v,.int .i64 p2,.int .i64 p3,.string p4] #[q1.v,.int .i64 q2,.int .i64 q3,.string q4] sq q' ∧
   QOk a.next.length b.next.length q' ∧ q'[i]? = some (s,u) ∧ alX ca.inn cb.inn ((rs.zip ru).drop j) q' = alX ca.inn cb.inn (rs.zip ru) qq) (fun z _=>rs.length - z.2.2.2.2.2.2.2.2.2.2.1.toNat) ⟨0,sq,qq,Nat.zero_le _,rfl,hA,hQ,hsu,rfl⟩ ?_
 clear hQ hsu hqs hsq hlt hiq hA hql
 rintro z g2 V ⟨j,sq,q',hj,rfl,hA,hQ,hsu,hX⟩
 dsimp only
 have hql:=hQ.len
 have hlz:(rs.zip ru).length = rs.length:=by rw [List.length_zip]; omega
 refine Br.dec (fun hlt=>?_) (fun hge=>?_)
 rotate_left
 ·have hjl:j = rs.length:=by have hge:¬ (j:Int) < ((s1.n:Nat):Int):=hge; omega
  rw [List.drop_eq_nil_of_le (by omega)] at hX
  simp only [alX] at hX
  rw [← hX] at hf
  refine hC _ _ f (by omega) ⟨i + 1,sq,q',by rw [wrap64 (by omega) (by have:=(List.getElem?_eq_some_iff.1 hsu).1; omega)]; rfl,hA,hQ,hf,by have:=(List.getElem?_eq_some_iff.1 hsu).1; omega⟩
 have hlt:(j:Int) < ((s1.n:Nat):Int):=hlt
 have hjl:j < rs.length:=by omega
 have hAd:=hA.nil (Chg.drew V)
 obtain ⟨t,ht⟩:∃ e,rs[j]? = some e:=⟨_,List.getElem?_eq_getElem hjl⟩
 obtain ⟨v,hv⟩:∃ e,ru[j]? = some e:=⟨_,List.getElem?_eq_getElem (by omega)⟩
 have hdr:(rs.zip ru).drop j = (t,v) :: (rs.zip ru).drop (j + 1):=by
  rw [List.drop_eq_getElem_cons (by omega)]
  congr 1
  rw [List.getElem_zip,(List.getElem?_eq_some_iff.1 ht).2,(List.getElem?_eq_some_iff.1 hv).2]
 rw [hdr] at hX
 simp only [alX] at hX
 obtain ⟨t1,t2⟩:=V1 t (List.mem_of_getElem? ht)
 obtain ⟨v1,v2⟩:=V2 v (List.mem_of_getElem? hv)
 have e1:at0 b1 = Addr.mk b1 0 none:=rfl
 have e3:at0 b3 = Addr.mk b3 0 none:=rfl
 have e5:at0 b5 = Addr.mk b5 0 none:=rfl
 have e7:at0 b7 = Addr.mk b7 0 none:=rfl
 refine LoadT.sc (s:=.sl) (x:=sn) (by rw [e1,cellOf hAd.c1]; rfl) ?_
 refine (hsn.chg hAd.chg fun _ _ h=>h).get (t:=tL) s rfl hs1' ?_
 refine (r1.chg hAd.chg fun _ _ h=>h).get (t:=tI) j rfl ht ?_
 refine LoadT.sc (s:=.sl) (x:=tn) (by rw [e3,cellOf hAd.c3]; rfl) ?_
 have hlk:=lookupI (ty:=139) under139 hAd.k1 (s:Int) (zero3' V.drew) false
 rw [m1_find,hQ.look hsu] at hlk
 refine ⟨(u:Int),hlk,?_⟩
 refine (htn.chg hAd.chg fun _ _ h=>h).get (t:=tL) u rfl hs2' ?_
 refine (r2.chg hAd.chg fun _ _ h=>h).get (t:=tI) j rfl hv ?_
 have bad:∀ W,Chg Nil w W → alX ca.inn cb.inn (rs.zip ru) qq = none → ∃ z:Bool,Ending.returned (.bool false) = .returned ((Ty.sc .bool).val z) ∧ z = res ∧ Chg Nil w W:=fun W hW hn=>by
  rw [hn] at hf
  have hf:false = res:=by simpa using hf
  exact ⟨false,rfl,hf,hW⟩
 have wj:IntKind.wrap .i64 ((j:Int) + 1) = ((j + 1:Nat):Int):=by rw [wrap64 (by omega) (by omega)]; rfl
 have mu:rs.length - (((j + 1:Nat):Int)).toNat < rs.length - ((j:Int)).toNat:=by omega
 refine Join.by' (fun z W=>z = (at0 b1,at0 b3,at0 b5,at0 b7,some b9,some b13,sq,(i:Int),(s:Int),t,v,thF ca.inn t,((s1.n:Nat):Int),(j:Int),()) ∧ W = V.drew) ?_ ?_
 rotate_left
 ·intro J hJ
  refine Br.dec (fun h0=>?_) (fun h0=>?_)
  ·obtain ⟨tn',rfl⟩:=Int.eq_ofNat_of_zero_le h0
   obtain ⟨bv,hbv⟩:∃ e,ca.inn[tn']? = some e:=⟨_,List.getElem?_eq_getElem (by omega)⟩
   refine LoadT.sc (s:=.sl) (x:=p1) (by rw [e5,cellOf hAd.c5]; rfl) ?_
   refine (hpi.chg hAd.chg fun _ _ h=>h).get (t:=.sc .bool) tn' rfl hbv ?_
   refine hJ _ _ ⟨?_,rfl⟩
   have:thF ca.inn ((tn':Nat):Int) = bv:=by
    unfold thF
    rw [decide_eq_true h0,Bool.true_and,Int.toNat_natCast,List.getD_eq_getElem?_getD,hbv]; rfl
   rw [this]
  ·refine hJ _ _ ⟨?_,rfl⟩
   have:thF ca.inn t = false:=by
    unfold thF
    rw [decide_eq_false h0,Bool.false_and]
   rw [this]
 rintro z W g3 ⟨rfl,hW⟩
 rw [hW]; clear hW
 dsimp only
 refine Join.by' (fun z W=>z = (at0 b1,at0 b3,at0 b5,at0 b7,some b9,some b13,sq,(i:Int),(s:Int),t,v,thF ca.inn t,((s1.n:Nat):Int),(j:Int),()) ∧ W = V.drew ∧ thF ca.inn t = thF cb.inn v) ?_ ?_
 rotate_left
 ·intro J hJ
  refine Br.dec (fun h0=>?_) (fun h0=>?_)
  ·obtain ⟨vn',rfl⟩:=Int.eq_ofNat_of_zero_le h0
   obtain ⟨bv,hbv⟩:∃ e,cb.inn[vn']? = some e:=⟨_,List.getElem?_eq_getElem (by omega)⟩
   refine LoadT.sc (s:=.sl) (x:=q1) (by rw [e7,cellOf hAd.c7]; rfl) ?_
   refine (hqi.chg hAd.chg fun _ _ h=>h).get (t:=.sc .bool) vn' rfl hbv ?_
   have hth:thF cb.inn ((vn':Nat):Int) = bv:=by
    unfold thF
    rw [decide_eq_true h0,Bool.true_and,Int.toNat_natCast,List.getD_eq_getElem?_getD,hbv]; rfl
   refine Br.mk (fun hne=>?_) (fun heq=>hJ _ _ ⟨rfl,rfl,?_⟩)
   ·refine bad _ hAd.chg ?_
    rw [← hX,if_pos]
    rw [hth]; simpa using hne
   ·rw [hth]; simpa using heq
  ·have hth:thF cb.inn v = false:=by
    unfold thF
    rw [decide_eq_false h0,Bool.false_and]
   refine Br.mk (fun hne=>?_) (fun heq=>hJ _ _ ⟨rfl,rfl,?_⟩)
   ·refine bad _ hAd.chg ?_
    rw [← hX,if_pos]
    rw [hth]; simpa using hne
   ·rw [hth]; simpa using heq
 rintro z W g4 ⟨rfl,hW,hth⟩
 rw [hW]; clear hW
 dsimp only
 rw [if_neg (by simpa using hth)] at hX
 refine Br.mk (fun hno=>?_) (fun hyes=>?_)
 ·have hno:thF ca.inn t = false:=by simpa using hno
  rw [if_pos hno] at hX
  rw [wj]
  exact ⟨⟨j + 1,sq,q',by omega,rfl,hAd,hQ,hsu,hX⟩,mu⟩
 have hyes:thF ca.inn t = true:=by simpa using hyes
 rw [if_neg (by simp [hyes])] at hX
 have pos:∀ {inn:List Bool} {t:Int},thF inn t = true → 0 ≤ t:=fun {inn t} h=>by
  unfold thF at h
  simp only [Bool.and_eq_true,decide_eq_true_eq] at h
  exact h.1
 have ht0:=pos hyes
 have hv0:=pos (hth ▸ hyes)
 obtain ⟨tn',rfl⟩:=Int.eq_ofNat_of_zero_le ht0
 obtain ⟨vn',rfl⟩:=Int.eq_ofNat_of_zero_le hv0
 have hlk2:=lookupI (ty:=139) under139 hAd.k1 (tn':Int) (zero3' V.drew) true
 rw [m1_find] at hlk2
 have hlk3:=lookupI (ty:=140) under140 hAd.k2 (vn':Int) (zero4' V.drew) false
 rw [m2_find] at hlk3
 -- what is met already
 cases hfd:q'.find? (fun p=>((p.1:Nat):Int) == ((tn':Nat):Int)) with
 | some pr=>
  have hln:lookN q' ((tn':Nat):Int) = some pr.2:=by unfold lookN; rw [hfd]; rfl
  rw [hln] at hX
  dsimp only at hX
  rw [hfd] at hlk2
  refine ⟨((pr.2:Int),true,()),V.drew,hlk2,?_⟩
  refine Join.by' (fun z W=>z = (at0 b1,at0 b3,at0 b5,at0 b7,some b9,some b13,sq,(i:Int),(s:Int),((tn':Nat):Int),((vn':Nat):Int),true,((s1.n:Nat):Int),(j:Int),()) ∧ W = V.drew ∧ pr.2 = vn') ?_ ?_
  ·rintro z W g5 ⟨rfl,hW,he⟩
   rw [hW]; clear hW
   dsimp only
   rw [if_neg (by simp [he])] at hX
   refine Br.f rfl ?_
   rw [wj]
   exact ⟨⟨j + 1,sq,q',by omega,rfl,hAd,hQ,hsu,hX⟩,mu⟩
  ·intro J hJ
   refine Br.t rfl ?_
   refine Br.mk (fun hne=>Br.t rfl ?_) (fun heq=>Br.f rfl (Br.f rfl ?_))
   ·have hne:((pr.2:Nat):Int) ≠ (vn':Int):=by simpa using hne
    refine bad _ hAd.chg ?_
    rw [← hX,if_pos hne]
   ·have heq:((pr.2:Nat):Int) = (vn':Int):=by simpa using heq
    exact hJ _ _ ⟨rfl,rfl,by omega⟩
 | none=>
  have hln:lookN q' ((tn':Nat):Int) = none:=by unfold lookN; rw [hfd]; rfl
  rw [hln] at hX
  dsimp only at hX
  rw [hfd] at hlk2
  refine ⟨(0,false,()),V.drew,hlk2,?_⟩
  refine Join.by' (fun z W=>z = (at0 b1,at0 b3,at0 b5,at0 b7,some b9,some b13,sq,(i:Int),(s:Int),((tn':Nat):Int),((vn':Nat):Int),false,((s1.n:Nat):Int),(j:Int),()) ∧ W = V.drew ∧ takN q' ((vn':Nat):Int) = false) ?_ ?_
  ·rintro z W g5 ⟨rfl,hW,htk⟩
   rw [hW]; clear hW
   dsimp only
   rw [if_neg (by simp [htk]),Int.toNat_natCast,Int.toNat_natCast] at hX
   refine Br.t rfl ?_
   refine hAd.add hln htk (by omega) fun sq' W' hA'=>?_
   rw [wj]
   refine ⟨⟨j + 1,sq',q' ++ [(tn',vn')],by omega,rfl,hA',hQ.snoc hln (by omega) (by omega),?_,hX⟩,mu⟩
   rw [List.getElem?_append_left (List.getElem?_eq_some_iff.1 hsu).1]
   exact hsu
  ·intro J hJ
   refine Br.f rfl (Br.t rfl ?_)
   cases hft:q'.find? (fun p=>((p.2:Nat):Int) == ((vn':Nat):Int)) with
   | some pr=>
    have htk:takN q' ((vn':Nat):Int) = true:=by unfold takN; rw [hft]; rfl
    rw [hft] at hlk3
    refine ⟨true,V.drew,hlk3,Br.t rfl ?_⟩
    refine bad _ hAd.chg ?_
    rw [← hX,if_pos htk]
   | none=>
    have htk:takN q' ((vn':Nat):Int) = false:=by unfold takN; rw [hft]; rfl
    rw [hft] at hlk3
    refine ⟨false,V.drew,hlk3,Br.f rfl ?_⟩
    exact hJ _ _ ⟨rfl,rfl,htk⟩
end Go.Proofs.YtffdjfkekdoeaaaDoor.Fo
end
section
set_option maxRecDepth 8000
set_option maxHeartbeats 4000000
namespace Go.Proofs.YtffdjfkekdoeaaaDoor.Fo
open Fw Wd Rf Pl
theorem letE_iff {k:Int} {a:Aut} (hc:a.check k = 0) (hk:1 ≤ k ∧ k ≤ 8) {s:Nat} (hs:s < a.next.length) {inn:List Bool} {x:Int} :
  x ∈ letE inn (edgesFrom 0 (a.next.getD s [])) ↔ ∃ y t:Nat,x = (y:Int) ∧ Dl k a s y t ∧ inn.getD t false = true:=by
 obtain ⟨_,_,n1,n2,_,_,hrows⟩:=check_spec hc
 constructor
 ·intro h
  obtain ⟨t,h1,h2⟩:=letE_mem h
  obtain ⟨i,g1,g2,g3⟩:=Pl.edges_mem _ 0 _ h1
  dsimp only at g1 g2 g3
  rw [Nat.zero_add] at g2
  have hg:a.next.getD s [] = a.next[s]:=getD_get hs
  rw [hg] at g1
  obtain ⟨r1,r2⟩:=hrows _ (List.getElem_mem hs)
  have hlt:=(List.getElem?_eq_some_iff.1 g1).1
  refine ⟨i,t.toNat,g2,⟨hs,by omega,?_⟩,h2⟩
  unfold getN
  rw [hg,List.getD_eq_getElem?_getD,g1]
  show t = _
  omega
 ·rintro ⟨y,t,rfl,⟨h1,h2,h3⟩,h4⟩
  obtain ⟨row,g1,g2,g3,g4,g5⟩:=getN_row (k:=k) hc h1 h2
  have hg:a.next.getD s [] = row:=by rw [List.getD_eq_getElem?_getD,g1]; rfl
  rw [hg]
  have he:=edges_of row 0 y g2 (by rw [← g3,h3]; omega)
  rw [Nat.zero_add,← g3,h3] at he
  unfold letE
  refine List.mem_map.2 ⟨_,List.mem_filter.2 ⟨he,?_⟩,rfl⟩
  dsimp only
  rw [Int.toNat_natCast]; exact h4
theorem count_off {l:List Bool} {i:Nat} (h:l[i]? = some true):(l.set i false).count true + 1 = l.count true:=by
 obtain ⟨hl,he⟩:=List.getElem?_eq_some_iff.1 h
 have hp:0 < l.count true:=List.count_pos_iff.2 (he ▸ List.getElem_mem hl)
 rw [List.count_set hl]
 simp [he]
 omega
theorem core_tot {k:Int} {a:Aut} (hc:a.check k = 0) (hk:1 ≤ k ∧ k ≤ 8):∀ (f:Nat) (c:Co),c.inn.length = a.next.length → c.inn[c.base]? = some true → c.inn.count true ≤ f →
  ∃ co,coreF f a.next c = some co ∧ co.inn.length = a.next.length ∧ co.inn[co.base]? = some true ∧ co.stem.size + co.inn.count true = c.stem.size + c.inn.count true ∧ co.size - c.size = (co.inn.count true:Int) - (c.inn.count true:Int)
 | 0,c,hl,hb,hf=>by
  obtain ⟨h1,h2⟩:=List.getElem?_eq_some_iff.1 hb
  have:=List.count_pos_iff.2 (h2 ▸ List.getElem_mem h1)
  omega
 | f + 1,c,hl,hb,hf=>by
  have hbl:c.base < a.next.length:=by have:=(List.getElem?_eq_some_iff.1 hb).1; omega
  rw [coreF]
  split
  ·rename_i x hls
   obtain ⟨y,t,rfl,hd,ht⟩:=(letE_iff hc hk hbl (inn:=c.inn) (x:=x)).1 (by rw [hls]; exact List.mem_singleton.2 rfl)
   have hA:=dl_aut (k:=k) (by omega) hc
   have hdt:=hd
   obtain ⟨h1,h2,h3⟩:=hdt
   have hne:t ≠ c.base:=fun he=>by
    subst he
    have hinv:=hA.inv _ _ _ hd
    have:=(letE_iff hc hk hbl (inn:=c.inn) (x:=((y ^^^ 1:Nat):Int))).2 ⟨_,_,rfl,hinv,ht⟩
    rw [hls] at this
    have h:=List.mem_singleton.1 this
    have h:y ^^^ 1 = y:=by omega
    rw [Pl.xor1] at h
    split at h <;> omega
   have hg:(a.next.getD c.base []).getD ((y:Nat):Int).toNat 0 = (t:Int):=by
    rw [Int.toNat_natCast]; exact h3
   rw [hg,Int.toNat_natCast]
   have hco:=count_off hb
   have htb:c.inn[t]? = some true:=by
    rw [List.getD_eq_getElem?_getD] at ht
    cases hq:c.inn[t]? with
    | none=>rw [hq] at ht; simp at ht
    | some v=>rw [hq] at ht; simp at ht; rw [ht]
   obtain ⟨co,g1,g2,g3,g4,g5⟩:=core_tot hc hk f ⟨c.inn.set c.base false,c.size - 1,t,c.stem ++ letS ((y:Nat):Int)⟩ (by simp [hl]) (by show (c.inn.set c.base false)[t]? = _; rw [List.getElem?_set_ne (Ne.symm hne)]; exact htb) (by show (c.inn.set c.base false).count true ≤ f; omega)
   refine ⟨co,g1,g2,g3,?_,?_⟩
   ·have g4:co.stem.size + co.inn.count true = (c.stem ++ letS ((y:Nat):Int)).size + (c.inn.set c.base false).count true:=g4
    have hs:(c.stem ++ letS ((y:Nat):Int)).size = c.stem.size + 1:=by rw [ByteArray.size_append]; rfl
    omega
   ·have g5:co.size - (c.size - 1) = (co.inn.count true:Int) - ((c.inn.set c.base false).count true:Int):=g5
    omega
  ·exact ⟨c,rfl,hl,hb,rfl,by omega⟩
theorem core_of {k:Int} {a:Aut} (hc:a.check k = 0) (hk:1 ≤ k ∧ k ≤ 8):∃ co,coreF a.next.length a.next (core0 a.next) = some co ∧ co.inn.length = a.next.length ∧ co.inn[co.base]? = some true ∧ co.stem.size + co.inn.count true = a.next.length ∧ co.size = (co.inn.count true:Int):=by
 obtain ⟨_,_,n1,n2,_,_,hrows⟩:=check_spec hc
 obtain ⟨co,h1,h2,h3,h4,h5⟩:=core_tot hc hk a.next.length (core0 a.next) (by simp [core0]) (by show (List.replicate a.next.length true)[0]? = _; rw [List.getElem?_replicate,if_pos (by omega)]) (by simp [core0])
 have e1:(core0 a.next).stem.size = 0:=rfl
 have e2:(core0 a.next).inn.count true = a.next.length:=by simp [core0]
 have e3:(core0 a.next).size = a.next.length:=rfl
 exact ⟨co,h1,h2,h3,by omega,by omega⟩
theorem alX_ok {n m:Nat} {ia ib:List Bool} (hn:ia.length = n) (hm:ib.length = m):∀ (l:List (Int × Int)) (q q':List (Nat × Nat)),QOk n m q → alX ia ib l q = some q' → QOk n m q' ∧ q <+: q'
 | [],q,q',hq,h=>by rw [alX] at h; cases h; exact ⟨hq,List.prefix_rfl⟩
 | (t,v) :: l,q,q',hq,h=>by
  rw [alX] at h
  have lt:∀ {inn:List Bool} {t:Int},thF inn t = true → 0 ≤ t ∧ t.toNat < inn.length:=fun {inn t} h=>by
   unfold thF at h
   simp only [Bool.and_eq_true,decide_eq_true_eq] at h
   refine ⟨h.1,?_⟩
   have h2:=h.2
   rw [List.getD_eq_getElem?_getD] at h2
   by_cases hl:t.toNat < inn.length
   ·exact hl
   ·rw [List.getElem?_eq_none (by omega)] at h2; simp at h2
  split at h
  ·cases h
  ·rename_i hth
   have hth:thF ia t = thF ib v:=by simpa using hth
   split at h
   ·exact alX_ok hn hm l q q' hq h
   ·rename_i hyes
    have hyes:thF ia t = true:=by simpa using hyes
    obtain ⟨t0,t1⟩:=lt hyes
    obtain ⟨v0,v1⟩:=lt (hth ▸ hyes)
    split at h
    ·split at h
     ·cases h
     ·exact alX_ok hn hm l q q' hq h
    ·rename_i hln
     split at h
     ·cases h
     ·obtain ⟨g1,g2⟩:=alX_ok hn hm l _ q' (hq.snoc (t:=t.toNat) (u:=v.toNat) (by rw [Int.toNat_of_nonneg t0]; exact hln) (by omega) (by omega)) h
      exact ⟨g1,(List.prefix_append _ _).trans g2⟩
theorem alQ_tot {nx ny:List (List Int)} {n m:Nat} {ia ib:List Bool} (hn:ia.length = n) (hm:ib.length = m):∀ (f i:Nat) (q:List (Nat × Nat)),QOk n m q → i ≤ q.length → n + 1 ≤ f + i → ∃ r,alQ nx ny ia ib f i q = some r
 | 0,i,q,hq,hi,hf=>by have:=hq.len; omega
 | f + 1,i,q,hq,hi,hf=>by
  rw [alQ]
  split
  ·exact ⟨true,rfl⟩
  ·rename_i s u hsu
   split
   ·exact ⟨false,rfl⟩
   ·rename_i q' hx
    obtain ⟨g1,g2⟩:=alX_ok hn hm _ q q' hq hx
    have h1:=g2.length_le
    have h2:=(List.getElem?_eq_some_iff.1 hsu).1
    exact alQ_tot hn hm f (i + 1) q' g1 (by omega) (by omega)
def alB (a b:Aut) (ca cb:Co) (s:Nat):Bool:=(alQ a.next b.next ca.inn cb.inn (a.next.length + 1) 0 [(ca.base,s)]).getD false
theorem alB_spec {a b:Aut} {ca cb:Co} (ha:ca.inn.length = a.next.length) (hb:cb.inn.length = b.next.length) (h1:ca.base < a.next.length) {s:Nat} (hs:s < b.next.length) :
  alQ a.next b.next ca.inn cb.inn (a.next.length + 1) 0 [(ca.base,s)] = some (alB a b ca cb s):=by
 obtain ⟨r,hr⟩:=alQ_tot (nx:=a.next) (ny:=b.next) ha hb (a.next.length + 1) 0 [(ca.base,s)] ⟨by simp,fun p hp=>by rw [List.mem_singleton.1 hp]; exact ⟨h1,hs⟩⟩ (Nat.zero_le _) (by omega)
 unfold alB
 rw [hr]; rfl
end Go.Proofs.YtffdjfkekdoeaaaDoor.Fo
end
section
set_option maxRecDepth 10000
namespace Go.Proofs.YtffdjfkekdoeaaaDoor
open Fw
noncomputable def fold_Conjugator.ann:Ann where
 loops:=fun | 9=>[(4,.sc .adr),(5,.sc .adr),(10,.sc .adr),(11,.sc .adr),(12,.sc .sl),(36,.sc .sl),(37,.sc (.int .i64)),(38,.sc (.int .i64))] | _=>[]
 joins:=fun | 12=>some [(4,.sc .adr),(5,.sc .adr),(10,.sc .adr),(11,.sc .adr),(12,.sc .sl),(13,.sc (.int .i64)),(36,.sc .sl),(37,.sc (.int .i64)),(38,.sc (.int .i64)),(51,.sc .bool)] | _=>none
noncomputable def fold_Conjugator.body:Code:=match Tryd.f39.body with | some c=>c | none=>.skip
def fold_Conjugator.sh (p0:Int) (p1_0:Int) (p1_1:Int) (p1_2:Sl) (p1_3:Sl) (p2_0:Int) (p2_1:Int) (p2_2:Sl) (p2_3:Sl) (R:Ending → World → Prop) (w:World):Prop:=
 New w (.cells #[(.int .i64 p1_0),(.int .i64 p1_1),(.slice p1_2.a p1_2.n p1_2.c),(.slice p1_3.a p1_3.n p1_3.c)] 27) fun b1 w2=>
 New w2 (.cells #[(.int .i64 p2_0),(.int .i64 p2_1),(.slice p2_2.a p2_2.n p2_2.c),(.slice p2_3.a p2_3.n p2_3.c)] 27) fun b3 w4=>
 LoadT (.agg [.int .i64,.int .i64,.sl,.sl]) w4 (Addr.mk b1 0 none) fun x5=>
 LoadT (.agg [.int .i64,.int .i64,.sl,.sl]) w4 (Addr.mk b3 0 none) fun x6=>
 New w4 (.cells #[(.int .i64 x5.1),(.int .i64 x5.2.1),(.slice x5.2.2.1.a x5.2.2.1.n x5.2.2.1.c),(.slice x5.2.2.2.1.a x5.2.2.2.1.n x5.2.2.2.1.c),(.int .i64 x6.1),(.int .i64 x6.2.1),(.slice x6.2.2.1.a x6.2.2.1.n x6.2.2.1.c),(.slice x6.2.2.2.1.a x6.2.2.2.1.n x6.2.2.2.1.c)] 27) fun b7 w8=>
 CallT Tryd.prog 55 #[(.int .i64 p0),(.slice (some (Addr.mk b7 0 none)) 2 2),(.slice none 0 0)] (.sc (.int .i64)) w8 (fun r9 w10=>
  Br ((r9:Int) != 0)
   (R (.returned (.tuple #[(.string (ByteArray.mk #[])),(.bool false),(.int .i64 r9)])) w10)
   (∃ S12:World → Prop,S12 w10.drew ∧
   (LoadS S12 (.agg [.int .i64,.int .i64,.sl,.sl]) (Addr.mk b1 0 none) fun x13=>
   LoadS S12 (.agg [.int .i64,.int .i64,.sl,.sl]) (Addr.mk b3 0 none) fun x14=>
   (CallT Tryd.prog 73 #[(.agg #[(.int .i64 x13.1),(.int .i64 x13.2.1),(.slice x13.2.2.1.a x13.2.2.1.n x13.2.2.1.c),(.slice x13.2.2.2.1.a x13.2.2.2.1.n x13.2.2.2.1.c)])] (.agg [.sl,.int .i64,.int .i64,.str]) w10.drew (fun r15 w16=>
     S12 w16 ∧
     ((CallT Tryd.prog 73 #[(.agg #[(.int .i64 x14.1),(.int .i64 x14.2.1),(.slice x14.2.2.1.a x14.2.2.1.n x14.2.2.1.c),(.slice x14.2.2.2.1.a x14.2.2.2.1.n x14.2.2.2.1.c)])] (.agg [.sl,.int .i64,.int .i64,.str]) w16 (fun r18 w19=>
       S12 w19 ∧
       ((New w19 (.cells #[(.slice none 0 0),(.int .i64 0),(.int .i64 0),(.string (ByteArray.mk #[]))] 115) fun b21 w22=>
        S12 w22 ∧
        (New w22 (.cells #[(.slice none 0 0),(.int .i64 0),(.int .i64 0),(.string (ByteArray.mk #[]))] 115) fun b23 w24=>
         S12 w24 ∧
         (StoreN w24 (Addr.mk b21 0 none) [(.slice r15.1.a r15.1.n r15.1.c),(.int .i64 r15.2.1),(.int .i64 r15.2.2.1),(.string r15.2.2.2.1)] fun w25=>
          S12 w25 ∧
          (StoreN w25 (Addr.mk b23 0 none) [(.slice r18.1.a r18.1.n r18.1.c),(.int .i64 r18.2.1),(.int .i64 r18.2.2.1),(.string r18.2.2.2.1)] fun w26=>
           LoadT (.sc (.int .i64)) w26 ((Addr.mk b21 0 none).add 1) fun x27=>
           LoadT (.sc (.int .i64)) w26 ((Addr.mk b23 0 none).add 1) fun x28=>
           Br ((x27:Int) != x28)
            (R (.returned (.tuple #[(.string (ByteArray.mk #[])),(.bool false),(.int .i64 0)])) w26)
            (LoadT (.agg [.int .i64,.int .i64,.sl,.sl]) w26 (Addr.mk b3 0 none) fun x29=>
            CallT Tryd.prog 56 #[(.agg #[(.int .i64 x29.1),(.int .i64 x29.2.1),(.slice x29.2.2.1.a x29.2.2.1.n x29.2.2.1.c),(.slice x29.2.2.2.1.a x29.2.2.2.1.n x29.2.2.2.1.c)])] (.agg [.sl,.map,.sl]) w26 (fun r30 w31=>
             LoadT (.sc .sl) w31 ((Addr.mk b23 0 none).add 0) fun x33=>
             LoopT (σ:=Addr × Addr × Addr × Addr × Sl × Sl × Int × Int × Unit) ((Addr.mk b1 0 none),(Addr.mk b3 0 none),(Addr.mk b21 0 none),(Addr.mk b23 0 none),r30.1,x33,((x33.n:Nat):Int),0,()) w31 fun l34 g35 w36 I37=>
              Br (decide ((l34.2.2.2.2.2.2.2.1:Int) < l34.2.2.2.2.2.2.1))
               (Idx l34.2.2.2.2.2.1.a l34.2.2.2.2.2.1.n 1 l34.2.2.2.2.2.2.2.1 fun a38=>
               LoadT (.sc .bool) w36 a38 fun x39=>
               Join (σ:=Addr × Addr × Addr × Addr × Sl × Int × Sl × Int × Int × Bool × Unit) (fun j42 g41 w50=>
                Br j42.2.2.2.2.2.2.2.2.2.1
                 (∃ S51:World → Prop,S51 w50.drew ∧
                 (Idx j42.2.2.2.2.1.a j42.2.2.2.2.1.n 1 j42.2.2.2.2.2.1 fun a52=>
                 LoadS S51 (.sc .str) a52 fun x53=>
                 LoadS S51 (.sc .str) (j42.2.2.1.add 3) fun x54=>
                 CallT Tryd.prog 75 #[(.string x54)] (.sc .str) w50.drew (fun r55 w56=>
                   S51 w56 ∧
                   ((((x53.size + r55.size:Nat):Int) ≤ 9223372036854775807) ∧
                   CallT Tryd.prog 48 #[(.string (x53 ++ r55))] (.sc .str) w56 (fun r58 w59=>
                     S51 w59 ∧
                     (R (.returned (.tuple #[(.string r58),(.bool true),(.int .i64 0)])) w59)) (fun h60 w59=>R (.panicked h60) w59))) (fun h57 w56=>R (.panicked h57) w56)))
                 (I37 (j42.1,j42.2.1,j42.2.2.1,j42.2.2.2.1,j42.2.2.2.2.1,j42.2.2.2.2.2.2.1,j42.2.2.2.2.2.2.2.1,(IntKind.wrap .i64 (j42.2.2.2.2.2.2.2.2.1 + 1)),()) w50)) fun J40=>
                Br x39
                 (LoadT (.agg [.int .i64,.int .i64,.sl,.sl]) w36 l34.1 fun x43=>
                 LoadT (.agg [.int .i64,.int .i64,.sl,.sl]) w36 l34.2.1 fun x44=>
                 LoadT (.agg [.sl,.int .i64,.int .i64,.str]) w36 l34.2.2.1 fun x45=>
                 LoadT (.agg [.sl,.int .i64,.int .i64,.str]) w36 l34.2.2.2.1 fun x46=>
                 CallT Tryd.prog 74 #[(.agg #[(.int .i64 x43.1),(.int .i64 x43.2.1),(.slice x43.2.2.1.a x43.2.2.1.n x43.2.2.1.c),(.slice x43.2.2.2.1.a x43.2.2.2.1.n x43.2.2.2.1.c)]),(.agg #[(.int .i64 x44.1),(.int .i64 x44.2.1),(.slice x44.2.2.1.a x44.2.2.1.n x44.2.2.1.c),(.slice x44.2.2.2.1.a x44.2.2.2.1.n x44.2.2.2.1.c)]),(.agg #[(.slice x45.1.a x45.1.n x45.1.c),(.int .i64 x45.2.1),(.int .i64 x45.2.2.1),(.string x45.2.2.2.1)]),(.agg #[(.slice x46.1.a x46.1.n x46.1.c),(.int .i64 x46.2.1),(.int .i64 x46.2.2.1),(.string x46.2.2.2.1)]),(.int .i64 l34.2.2.2.2.2.2.2.1)] (.sc .bool) w36 (fun r47 w48=>
                  J40 (l34.1,l34.2.1,l34.2.2.1,l34.2.2.2.1,l34.2.2.2.2.1,l34.2.2.2.2.2.2.2.1,l34.2.2.2.2.2.1,l34.2.2.2.2.2.2.1,l34.2.2.2.2.2.2.2.1,r47,()) w48) (fun h49 w48=>R (.panicked h49) w48))
                 (J40 (l34.1,l34.2.1,l34.2.2.1,l34.2.2.2.1,l34.2.2.2.2.1,l34.2.2.2.2.2.2.2.1,l34.2.2.2.2.2.1,l34.2.2.2.2.2.2.1,l34.2.2.2.2.2.2.2.1,false,()) w36))
               (R (.returned (.tuple #[(.string (ByteArray.mk #[])),(.bool false),(.int .i64 0)])) w36)) (fun h32 w31=>R (.panicked h32) w31)))))) ∧
       (New w19 (.cells #[(.slice none 0 0),(.int .i64 0),(.int .i64 0),(.string (ByteArray.mk #[]))] 115) fun b61 w62=>
        S12 w62 ∧
        (New w62 (.cells #[(.slice none 0 0),(.int .i64 0),(.int .i64 0),(.string (ByteArray.mk #[]))] 115) fun b63 w64=>
         S12 w64 ∧
         (StoreN w64 (Addr.mk b63 0 none) [(.slice r15.1.a r15.1.n r15.1.c),(.int .i64 r15.2.1),(.int .i64 r15.2.2.1),(.string r15.2.2.2.1)] fun w65=>
          S12 w65 ∧
          (StoreN w65 (Addr.mk b61 0 none) [(.slice r18.1.a r18.1.n r18.1.c),(.int .i64 r18.2.1),(.int .i64 r18.2.2.1),(.string r18.2.2.2.1)] fun w66=>
           LoadT (.sc (.int .i64)) w66 ((Addr.mk b63 0 none).add 1) fun x67=>
           LoadT (.sc (.int .i64)) w66 ((Addr.mk b61 0 none).add 1) fun x68=>
           Br ((x67:Int) != x68)
            (R (.returned (.tuple #[(.string (ByteArray.mk #[])),(.bool false),(.int .i64 0)])) w66)
            (LoadT (.agg [.int .i64,.int .i64,.sl,.sl]) w66 (Addr.mk b3 0 none) fun x69=>
            CallT Tryd.prog 56 #[(.agg #[(.int .i64 x69.1),(.int .i64 x69.2.1),(.slice x69.2.2.1.a x69.2.2.1.n x69.2.2.1.c),(.slice x69.2.2.2.1.a x69.2.2.2.1.n x69.2.2.2.1.c)])] (.agg [.sl,.map,.sl]) w66 (fun r70 w71=>
             LoadT (.sc .sl) w71 ((Addr.mk b61 0 none).add 0) fun x73=>
             LoopT (σ:=Addr × Addr × Addr × Addr × Sl × Sl × Int × Int × Unit) ((Addr.mk b1 0 none),(Addr.mk b3 0 none),(Addr.mk b63 0 none),(Addr.mk b61 0 none),r70.1,x73,((x73.n:Nat):Int),0,()) w71 fun l74 g75 w76 I77=>
              Br (decide ((l74.2.2.2.2.2.2.2.1:Int) < l74.2.2.2.2.2.2.1))
               (Idx l74.2.2.2.2.2.1.a l74.2.2.2.2.2.1.n 1 l74.2.2.2.2.2.2.2.1 fun a78=>
               LoadT (.sc .bool) w76 a78 fun x79=>
               Join (σ:=Addr × Addr × Addr × Addr × Sl × Int × Sl × Int × Int × Bool × Unit) (fun j82 g81 w90=>
                Br j82.2.2.2.2.2.2.2.2.2.1
                 (∃ S91:World → Prop,S91 w90.drew ∧
                 (Idx j82.2.2.2.2.1.a j82.2.2.2.2.1.n 1 j82.2.2.2.2.2.1 fun a92=>
                 LoadS S91 (.sc .str) a92 fun x93=>
                 LoadS S91 (.sc .str) (j82.2.2.1.add 3) fun x94=>
                 CallT Tryd.prog 75 #[(.string x94)] (.sc .str) w90.drew (fun r95 w96=>
                   S91 w96 ∧
                   ((((x93.size + r95.size:Nat):Int) ≤ 9223372036854775807) ∧
                   CallT Tryd.prog 48 #[(.string (x93 ++ r95))] (.sc .str) w96 (fun r98 w99=>
                     S91 w99 ∧
                     (R (.returned (.tuple #[(.string r98),(.bool true),(.int .i64 0)])) w99)) (fun h100 w99=>R (.panicked h100) w99))) (fun h97 w96=>R (.panicked h97) w96)))
                 (I77 (j82.1,j82.2.1,j82.2.2.1,j82.2.2.2.1,j82.2.2.2.2.1,j82.2.2.2.2.2.2.1,j82.2.2.2.2.2.2.2.1,(IntKind.wrap .i64 (j82.2.2.2.2.2.2.2.2.1 + 1)),()) w90)) fun J80=>
                Br x79
                 (LoadT (.agg [.int .i64,.int .i64,.sl,.sl]) w76 l74.1 fun x83=>
                 LoadT (.agg [.int .i64,.int .i64,.sl,.sl]) w76 l74.2.1 fun x84=>
                 LoadT (.agg [.sl,.int .i64,.int .i64,.str]) w76 l74.2.2.1 fun x85=>
                 LoadT (.agg [.sl,.int .i64,.int .i64,.str]) w76 l74.2.2.2.1 fun x86=>
                 CallT Tryd.prog 74 #[(.agg #[(.int .i64 x83.1),(.int .i64 x83.2.1),(.slice x83.2.2.1.a x83.2.2.1.n x83.2.2.1.c),(.slice x83.2.2.2.1.a x83.2.2.2.1.n x83.2.2.2.1.c)]),(.agg #[(.int .i64 x84.1),(.int .i64 x84.2.1),(.slice x84.2.2.1.a x84.2.2.1.n x84.2.2.1.c),(.slice x84.2.2.2.1.a x84.2.2.2.1.n x84.2.2.2.1.c)]),(.agg #[(.slice x85.1.a x85.1.n x85.1.c),(.int .i64 x85.2.1),(.int .i64 x85.2.2.1),(.string x85.2.2.2.1)]),(.agg #[(.slice x86.1.a x86.1.n x86.1.c),(.int .i64 x86.2.1),(.int .i64 x86.2.2.1),(.string x86.2.2.2.1)]),(.int .i64 l74.2.2.2.2.2.2.2.1)] (.sc .bool) w76 (fun r87 w88=>
                  J80 (l74.1,l74.2.1,l74.2.2.1,l74.2.2.2.1,l74.2.2.2.2.1,l74.2.2.2.2.2.2.2.1,l74.2.2.2.2.2.1,l74.2.2.2.2.2.2.1,l74.2.2.2.2.2.2.2.1,r87,()) w88) (fun h89 w88=>R (.panicked h89) w88))
                 (J80 (l74.1,l74.2.1,l74.2.2.1,l74.2.2.2.1,l74.2.2.2.2.1,l74.2.2.2.2.2.2.2.1,l74.2.2.2.2.2.1,l74.2.2.2.2.2.2.1,l74.2.2.2.2.2.2.2.1,false,()) w76))
               (R (.returned (.tuple #[(.string (ByteArray.mk #[])),(.bool false),(.int .i64 0)])) w76)) (fun h72 w71=>R (.panicked h72) w71)))))))) (fun h20 w19=>R (.panicked h20) w19)) ∧
     (New w16 (.cells #[(.slice none 0 0),(.int .i64 0),(.int .i64 0),(.string (ByteArray.mk #[]))] 115) fun b101 w102=>
      S12 w102 ∧
      ((CallT Tryd.prog 73 #[(.agg #[(.int .i64 x14.1),(.int .i64 x14.2.1),(.slice x14.2.2.1.a x14.2.2.1.n x14.2.2.1.c),(.slice x14.2.2.2.1.a x14.2.2.2.1.n x14.2.2.2.1.c)])] (.agg [.sl,.int .i64,.int .i64,.str]) w102 (fun r103 w104=>
        S12 w104 ∧
        (New w104 (.cells #[(.slice none 0 0),(.int .i64 0),(.int .i64 0),(.string (ByteArray.mk #[]))] 115) fun b106 w107=>
         S12 w107 ∧
         (StoreN w107 (Addr.mk b101 0 none) [(.slice r15.1.a r15.1.n r15.1.c),(.int .i64 r15.2.1),(.int .i64 r15.2.2.1),(.string r15.2.2.2.1)] fun w108=>
          S12 w108 ∧
          (StoreN w108 (Addr.mk b106 0 none) [(.slice r103.1.a r103.1.n r103.1.c),(.int .i64 r103.2.1),(.int .i64 r103.2.2.1),(.string r103.2.2.2.1)] fun w109=>
           LoadT (.sc (.int .i64)) w109 ((Addr.mk b101 0 none).add 1) fun x110=>
           LoadT (.sc (.int .i64)) w109 ((Addr.mk b106 0 none).add 1) fun x111=>
           Br ((x110:Int) != x111)
            (R (.returned (.tuple #[(.string (ByteArray.mk #[])),(.bool false),(.int .i64 0)])) w109)
            (LoadT (.agg [.int .i64,.int .i64,.sl,.sl]) w109 (Addr.mk b3 0 none) fun x112=>
            CallT Tryd.prog 56 #[(.agg #[(.int .i64 x112.1),(.int .i64 x112.2.1),(.slice x112.2.2.1.a x112.2.2.1.n x112.2.2.1.c),(.slice x112.2.2.2.1.a x112.2.2.2.1.n x112.2.2.2.1.c)])] (.agg [.sl,.map,.sl]) w109 (fun r113 w114=>
             LoadT (.sc .sl) w114 ((Addr.mk b106 0 none).add 0) fun x116=>
             LoopT (σ:=Addr × Addr × Addr × Addr × Sl × Sl × Int × Int × Unit) ((Addr.mk b1 0 none),(Addr.mk b3 0 none),(Addr.mk b101 0 none),(Addr.mk b106 0 none),r113.1,x116,((x116.n:Nat):Int),0,()) w114 fun l117 g118 w119 I120=>
              Br (decide ((l117.2.2.2.2.2.2.2.1:Int) < l117.2.2.2.2.2.2.1))
               (Idx l117.2.2.2.2.2.1.a l117.2.2.2.2.2.1.n 1 l117.2.2.2.2.2.2.2.1 fun a121=>
               LoadT (.sc .bool) w119 a121 fun x122=>
               Join (σ:=Addr × Addr × Addr × Addr × Sl × Int × Sl × Int × Int × Bool × Unit) (fun j125 g124 w133=>
                Br j125.2.2.2.2.2.2.2.2.2.1
                 (∃ S134:World → Prop,S134 w133.drew ∧
                 (Idx j125.2.2.2.2.1.a j125.2.2.2.2.1.n 1 j125.2.2.2.2.2.1 fun a135=>
                 LoadS S134 (.sc .str) a135 fun x136=>
                 LoadS S134 (.sc .str) (j125.2.2.1.add 3) fun x137=>
                 CallT Tryd.prog 75 #[(.string x137)] (.sc .str) w133.drew (fun r138 w139=>
                   S134 w139 ∧
                   ((((x136.size + r138.size:Nat):Int) ≤ 9223372036854775807) ∧
                   CallT Tryd.prog 48 #[(.string (x136 ++ r138))] (.sc .str) w139 (fun r141 w142=>
                     S134 w142 ∧
                     (R (.returned (.tuple #[(.string r141),(.bool true),(.int .i64 0)])) w142)) (fun h143 w142=>R (.panicked h143) w142))) (fun h140 w139=>R (.panicked h140) w139)))
                 (I120 (j125.1,j125.2.1,j125.2.2.1,j125.2.2.2.1,j125.2.2.2.2.1,j125.2.2.2.2.2.2.1,j125.2.2.2.2.2.2.2.1,(IntKind.wrap .i64 (j125.2.2.2.2.2.2.2.2.1 + 1)),()) w133)) fun J123=>
                Br x122
                 (LoadT (.agg [.int .i64,.int .i64,.sl,.sl]) w119 l117.1 fun x126=>
                 LoadT (.agg [.int .i64,.int .i64,.sl,.sl]) w119 l117.2.1 fun x127=>
                 LoadT (.agg [.sl,.int .i64,.int .i64,.str]) w119 l117.2.2.1 fun x128=>
                 LoadT (.agg [.sl,.int .i64,.int .i64,.str]) w119 l117.2.2.2.1 fun x129=>
                 CallT Tryd.prog 74 #[(.agg #[(.int .i64 x126.1),(.int .i64 x126.2.1),(.slice x126.2.2.1.a x126.2.2.1.n x126.2.2.1.c),(.slice x126.2.2.2.1.a x126.2.2.2.1.n x126.2.2.2.1.c)]),(.agg #[(.int .i64 x127.1),(.int .i64 x127.2.1),(.slice x127.2.2.1.a x127.2.2.1.n x127.2.2.1.c),(.slice x127.2.2.2.1.a x127.2.2.2.1.n x127.2.2.2.1.c)]),(.agg #[(.slice x128.1.a x128.1.n x128.1.c),(.int .i64 x128.2.1),(.int .i64 x128.2.2.1),(.string x128.2.2.2.1)]),(.agg #[(.slice x129.1.a x129.1.n x129.1.c),(.int .i64 x129.2.1),(.int .i64 x129.2.2.1),(.string x129.2.2.2.1)]),(.int .i64 l117.2.2.2.2.2.2.2.1)] (.sc .bool) w119 (fun r130 w131=>
                  J123 (l117.1,l117.2.1,l117.2.2.1,l117.2.2.2.1,l117.2.2.2.2.1,l117.2.2.2.2.2.2.2.1,l117.2.2.2.2.2.1,l117.2.2.2.2.2.2.1,l117.2.2.2.2.2.2.2.1,r130,()) w131) (fun h132 w131=>R (.panicked h132) w131))
                 (J123 (l117.1,l117.2.1,l117.2.2.1,l117.2.2.2.1,l117.2.2.2.2.1,l117.2.2.2.2.2.2.2.1,l117.2.2.2.2.2.1,l117.2.2.2.2.2.2.1,l117.2.2.2.2.2.2.2.1,false,()) w119))
               (R (.returned (.tuple #[(.string (ByteArray.mk #[])),(.bool false),(.int .i64 0)])) w119)) (fun h115 w114=>R (.panicked h115) w114)))))) (fun h105 w104=>R (.panicked h105) w104)) ∧
      (New w102 (.cells #[(.slice none 0 0),(.int .i64 0),(.int .i64 0),(.string (ByteArray.mk #[]))] 115) fun b144 w145=>
       S12 w145 ∧
       (CallT Tryd.prog 73 #[(.agg #[(.int .i64 x14.1),(.int .i64 x14.2.1),(.slice x14.2.2.1.a x14.2.2.1.n x14.2.2.1.c),(.slice x14.2.2.2.1.a x14.2.2.2.1.n x14.2.2.2.1.c)])] (.agg [.sl,.int .i64,.int .i64,.str]) w145 (fun r146 w147=>
         S12 w147 ∧
         (StoreN w147 (Addr.mk b101 0 none) [(.slice r15.1.a r15.1.n r15.1.c),(.int .i64 r15.2.1),(.int .i64 r15.2.2.1),(.string r15.2.2.2.1)] fun w149=>
          S12 w149 ∧
          (StoreN w149 (Addr.mk b144 0 none) [(.slice r146.1.a r146.1.n r146.1.c),(.int .i64 r146.2.1),(.int .i64 r146.2.2.1),(.string r146.2.2.2.1)] fun w150=>
           LoadT (.sc (.int .i64)) w150 ((Addr.mk b101 0 none).add 1) fun x151=>
           LoadT (.sc (.int .i64)) w150 ((Addr.mk b144 0 none).add 1) fun x152=>
           Br ((x151:Int) != x152)
            (R (.returned (.tuple #[(.string (ByteArray.mk #[])),(.bool false),(.int .i64 0)])) w150)
            (LoadT (.agg [.int .i64,.int .i64,.sl,.sl]) w150 (Addr.mk b3 0 none) fun x153=>
            CallT Tryd.prog 56 #[(.agg #[(.int .i64 x153.1),(.int .i64 x153.2.1),(.slice x153.2.2.1.a x153.2.2.1.n x153.2.2.1.c),(.slice x153.2.2.2.1.a x153.2.2.2.1.n x153.2.2.2.1.c)])] (.agg [.sl,.map,.sl]) w150 (fun r154 w155=>
             LoadT (.sc .sl) w155 ((Addr.mk b144 0 none).add 0) fun x157=>
             LoopT (σ:=Addr × Addr × Addr × Addr × Sl × Sl × Int × Int × Unit) ((Addr.mk b1 0 none),(Addr.mk b3 0 none),(Addr.mk b101 0 none),(Addr.mk b144 0 none),r154.1,x157,((x157.n:Nat):Int),0,()) w155 fun l158 g159 w160 I161=>
              Br (decide ((l158.2.2.2.2.2.2.2.1:Int) < l158.2.2.2.2.2.2.1))
               (Idx l158.2.2.2.2.2.1.a l158.2.2.2.2.2.1.n 1 l158.2.2.2.2.2.2.2.1 fun a162=>
               LoadT (.sc .bool) w160 a162 fun x163=>
               Join (σ:=Addr × Addr × Addr × Addr × Sl × Int × Sl × Int × Int × Bool × Unit) (fun j166 g165 w174=>
                Br j166.2.2.2.2.2.2.2.2.2.1
                 (∃ S175:World → Prop,S175 w174.drew ∧
                 (Idx j166.2.2.2.2.1.a j166.2.2.2.2.1.n 1 j166.2.2.2.2.2.1 fun a176=>
                 LoadS S175 (.sc .str) a176 fun x177=>
                 LoadS S175 (.sc .str) (j166.2.2.1.add 3) fun x178=>
                 CallT Tryd.prog 75 #[(.string x178)] (.sc .str) w174.drew (fun r179 w180=>
                   S175 w180 ∧
                   ((((x177.size + r179.size:Nat):Int) ≤ 9223372036854775807) ∧
                   CallT Tryd.prog 48 #[(.string (x177 ++ r179))] (.sc .str) w180 (fun r182 w183=>
                     S175 w183 ∧
                     (R (.returned (.tuple #[(.string r182),(.bool true),(.int .i64 0)])) w183)) (fun h184 w183=>R (.panicked h184) w183))) (fun h181 w180=>R (.panicked h181) w180)))
                 (I161 (j166.1,j166.2.1,j166.2.2.1,j166.2.2.2.1,j166.2.2.2.2.1,j166.2.2.2.2.2.2.1,j166.2.2.2.2.2.2.2.1,(IntKind.wrap .i64 (j166.2.2.2.2.2.2.2.2.1 + 1)),()) w174)) fun J164=>
                Br x163
                 (LoadT (.agg [.int .i64,.int .i64,.sl,.sl]) w160 l158.1 fun x167=>
                 LoadT (.agg [.int .i64,.int .i64,.sl,.sl]) w160 l158.2.1 fun x168=>
                 LoadT (.agg [.sl,.int .i64,.int .i64,.str]) w160 l158.2.2.1 fun x169=>
                 LoadT (.agg [.sl,.int .i64,.int .i64,.str]) w160 l158.2.2.2.1 fun x170=>
                 CallT Tryd.prog 74 #[(.agg #[(.int .i64 x167.1),(.int .i64 x167.2.1),(.slice x167.2.2.1.a x167.2.2.1.n x167.2.2.1.c),(.slice x167.2.2.2.1.a x167.2.2.2.1.n x167.2.2.2.1.c)]),(.agg #[(.int .i64 x168.1),(.int .i64 x168.2.1),(.slice x168.2.2.1.a x168.2.2.1.n x168.2.2.1.c),(.slice x168.2.2.2.1.a x168.2.2.2.1.n x168.2.2.2.1.c)]),(.agg #[(.slice x169.1.a x169.1.n x169.1.c),(.int .i64 x169.2.1),(.int .i64 x169.2.2.1),(.string x169.2.2.2.1)]),(.agg #[(.slice x170.1.a x170.1.n x170.1.c),(.int .i64 x170.2.1),(.int .i64 x170.2.2.1),(.string x170.2.2.2.1)]),(.int .i64 l158.2.2.2.2.2.2.2.1)] (.sc .bool) w160 (fun r171 w172=>
                  J164 (l158.1,l158.2.1,l158.2.2.1,l158.2.2.2.1,l158.2.2.2.2.1,l158.2.2.2.2.2.2.2.1,l158.2.2.2.2.2.1,l158.2.2.2.2.2.2.1,l158.2.2.2.2.2.2.2.1,r171,()) w172) (fun h173 w172=>R (.panicked h173) w172))
                 (J164 (l158.1,l158.2.1,l158.2.2.1,l158.2.2.2.1,l158.2.2.2.2.1,l158.2.2.2.2.2.2.2.1,l158.2.2.2.2.2.1,l158.2.2.2.2.2.2.1,l158.2.2.2.2.2.2.2.1,false,()) w160))
               (R (.returned (.tuple #[(.string (ByteArray.mk #[])),(.bool false),(.int .i64 0)])) w160)) (fun h156 w155=>R (.panicked h156) w155))))) (fun h148 w147=>R (.panicked h148) w147))))) ∧
     (New w16 (.cells #[(.slice none 0 0),(.int .i64 0),(.int .i64 0),(.string (ByteArray.mk #[]))] 115) fun b185 w186=>
      S12 w186 ∧
      ((CallT Tryd.prog 73 #[(.agg #[(.int .i64 x14.1),(.int .i64 x14.2.1),(.slice x14.2.2.1.a x14.2.2.1.n x14.2.2.1.c),(.slice x14.2.2.2.1.a x14.2.2.2.1.n x14.2.2.2.1.c)])] (.agg [.sl,.int .i64,.int .i64,.str]) w186 (fun r187 w188=>
        S12 w188 ∧
        (New w188 (.cells #[(.slice none 0 0),(.int .i64 0),(.int .i64 0),(.string (ByteArray.mk #[]))] 115) fun b190 w191=>
         S12 w191 ∧
         (StoreN w191 (Addr.mk b190 0 none) [(.slice r15.1.a r15.1.n r15.1.c),(.int .i64 r15.2.1),(.int .i64 r15.2.2.1),(.string r15.2.2.2.1)] fun w192=>
          S12 w192 ∧
          (StoreN w192 (Addr.mk b185 0 none) [(.slice r187.1.a r187.1.n r187.1.c),(.int .i64 r187.2.1),(.int .i64 r187.2.2.1),(.string r187.2.2.2.1)] fun w193=>
           LoadT (.sc (.int .i64)) w193 ((Addr.mk b190 0 none).add 1) fun x194=>
           LoadT (.sc (.int .i64)) w193 ((Addr.mk b185 0 none).add 1) fun x195=>
           Br ((x194:Int) != x195)
            (R (.returned (.tuple #[(.string (ByteArray.mk #[])),(.bool false),(.int .i64 0)])) w193)
            (LoadT (.agg [.int .i64,.int .i64,.sl,.sl]) w193 (Addr.mk b3 0 none) fun x196=>
            CallT Tryd.prog 56 #[(.agg #[(.int .i64 x196.1),(.int .i64 x196.2.1),(.slice x196.2.2.1.a x196.2.2.1.n x196.2.2.1.c),(.slice x196.2.2.2.1.a x196.2.2.2.1.n x196.2.2.2.1.c)])] (.agg [.sl,.map,.sl]) w193 (fun r197 w198=>
             LoadT (.sc .sl) w198 ((Addr.mk b185 0 none).add 0) fun x200=>
             LoopT (σ:=Addr × Addr × Addr × Addr × Sl × Sl × Int × Int × Unit) ((Addr.mk b1 0 none),(Addr.mk b3 0 none),(Addr.mk b190 0 none),(Addr.mk b185 0 none),r197.1,x200,((x200.n:Nat):Int),0,()) w198 fun l201 g202 w203 I204=>
              Br (decide ((l201.2.2.2.2.2.2.2.1:Int) < l201.2.2.2.2.2.2.1))
               (Idx l201.2.2.2.2.2.1.a l201.2.2.2.2.2.1.n 1 l201.2.2.2.2.2.2.2.1 fun a205=>
               LoadT (.sc .bool) w203 a205 fun x206=>
               Join (σ:=Addr × Addr × Addr × Addr × Sl × Int × Sl × Int × Int × Bool × Unit) (fun j209 g208 w217=>
                Br j209.2.2.2.2.2.2.2.2.2.1
                 (∃ S218:World → Prop,S218 w217.drew ∧
                 (Idx j209.2.2.2.2.1.a j209.2.2.2.2.1.n 1 j209.2.2.2.2.2.1 fun a219=>
                 LoadS S218 (.sc .str) a219 fun x220=>
                 LoadS S218 (.sc .str) (j209.2.2.1.add 3) fun x221=>
                 CallT Tryd.prog 75 #[(.string x221)] (.sc .str) w217.drew (fun r222 w223=>
                   S218 w223 ∧
                   ((((x220.size + r222.size:Nat):Int) ≤ 9223372036854775807) ∧
                   CallT Tryd.prog 48 #[(.string (x220 ++ r222))] (.sc .str) w223 (fun r225 w226=>
                     S218 w226 ∧
                     (R (.returned (.tuple #[(.string r225),(.bool true),(.int .i64 0)])) w226)) (fun h227 w226=>R (.panicked h227) w226))) (fun h224 w223=>R (.panicked h224) w223)))
                 (I204 (j209.1,j209.2.1,j209.2.2.1,j209.2.2.2.1,j209.2.2.2.2.1,j209.2.2.2.2.2.2.1,j209.2.2.2.2.2.2.2.1,(IntKind.wrap .i64 (j209.2.2.2.2.2.2.2.2.1 + 1)),()) w217)) fun J207=>
                Br x206
                 (LoadT (.agg [.int .i64,.int .i64,.sl,.sl]) w203 l201.1 fun x210=>
                 LoadT (.agg [.int .i64,.int .i64,.sl,.sl]) w203 l201.2.1 fun x211=>
                 LoadT (.agg [.sl,.int .i64,.int .i64,.str]) w203 l201.2.2.1 fun x212=>
                 LoadT (.agg [.sl,.int .i64,.int .i64,.str]) w203 l201.2.2.2.1 fun x213=>
                 CallT Tryd.prog 74 #[(.agg #[(.int .i64 x210.1),(.int .i64 x210.2.1),(.slice x210.2.2.1.a x210.2.2.1.n x210.2.2.1.c),(.slice x210.2.2.2.1.a x210.2.2.2.1.n x210.2.2.2.1.c)]),(.agg #[(.int .i64 x211.1),(.int .i64 x211.2.1),(.slice x211.2.2.1.a x211.2.2.1.n x211.2.2.1.c),(.slice x211.2.2.2.1.a x211.2.2.2.1.n x211.2.2.2.1.c)]),(.agg #[(.slice x212.1.a x212.1.n x212.1.c),(.int .i64 x212.2.1),(.int .i64 x212.2.2.1),(.string x212.2.2.2.1)]),(.agg #[(.slice x213.1.a x213.1.n x213.1.c),(.int .i64 x213.2.1),(.int .i64 x213.2.2.1),(.string x213.2.2.2.1)]),(.int .i64 l201.2.2.2.2.2.2.2.1)] (.sc .bool) w203 (fun r214 w215=>
                  J207 (l201.1,l201.2.1,l201.2.2.1,l201.2.2.2.1,l201.2.2.2.2.1,l201.2.2.2.2.2.2.2.1,l201.2.2.2.2.2.1,l201.2.2.2.2.2.2.1,l201.2.2.2.2.2.2.2.1,r214,()) w215) (fun h216 w215=>R (.panicked h216) w215))
                 (J207 (l201.1,l201.2.1,l201.2.2.1,l201.2.2.2.1,l201.2.2.2.2.1,l201.2.2.2.2.2.2.2.1,l201.2.2.2.2.2.1,l201.2.2.2.2.2.2.1,l201.2.2.2.2.2.2.2.1,false,()) w203))
               (R (.returned (.tuple #[(.string (ByteArray.mk #[])),(.bool false),(.int .i64 0)])) w203)) (fun h199 w198=>R (.panicked h199) w198)))))) (fun h189 w188=>R (.panicked h189) w188)) ∧
      (New w186 (.cells #[(.slice none 0 0),(.int .i64 0),(.int .i64 0),(.string (ByteArray.mk #[]))] 115) fun b228 w229=>
       S12 w229 ∧
       (CallT Tryd.prog 73 #[(.agg #[(.int .i64 x14.1),(.int .i64 x14.2.1),(.slice x14.2.2.1.a x14.2.2.1.n x14.2.2.1.c),(.slice x14.2.2.2.1.a x14.2.2.2.1.n x14.2.2.2.1.c)])] (.agg [.sl,.int .i64,.int .i64,.str]) w229 (fun r230 w231=>
         S12 w231 ∧
         (StoreN w231 (Addr.mk b228 0 none) [(.slice r15.1.a r15.1.n r15.1.c),(.int .i64 r15.2.1),(.int .i64 r15.2.2.1),(.string r15.2.2.2.1)] fun w233=>
          S12 w233 ∧
          (StoreN w233 (Addr.mk b185 0 none) [(.slice r230.1.a r230.1.n r230.1.c),(.int .i64 r230.2.1),(.int .i64 r230.2.2.1),(.string r230.2.2.2.1)] fun w234=>
           LoadT (.sc (.int .i64)) w234 ((Addr.mk b228 0 none).add 1) fun x235=>
           LoadT (.sc (.int .i64)) w234 ((Addr.mk b185 0 none).add 1) fun x236=>
           Br ((x235:Int) != x236)
            (R (.returned (.tuple #[(.string (ByteArray.mk #[])),(.bool false),(.int .i64 0)])) w234)
            (LoadT (.agg [.int .i64,.int .i64,.sl,.sl]) w234 (Addr.mk b3 0 none) fun x237=>
            CallT Tryd.prog 56 #[(.agg #[(.int .i64 x237.1),(.int .i64 x237.2.1),(.slice x237.2.2.1.a x237.2.2.1.n x237.2.2.1.c),(.slice x237.2.2.2.1.a x237.2.2.2.1.n x237.2.2.2.1.c)])] (.agg [.sl,.map,.sl]) w234 (fun r238 w239=>
             LoadT (.sc .sl) w239 ((Addr.mk b185 0 none).add 0) fun x241=>
             LoopT (σ:=Addr × Addr × Addr × Addr × Sl × Sl × Int × Int × Unit) ((Addr.mk b1 0 none),(Addr.mk b3 0 none),(Addr.mk b228 0 none),(Addr.mk b185 0 none),r238.1,x241,((x241.n:Nat):Int),0,()) w239 fun l242 g243 w244 I245=>
              Br (decide ((l242.2.2.2.2.2.2.2.1:Int) < l242.2.2.2.2.2.2.1))
               (Idx l242.2.2.2.2.2.1.a l242.2.2.2.2.2.1.n 1 l242.2.2.2.2.2.2.2.1 fun a246=>
               LoadT (.sc .bool) w244 a246 fun x247=>
               Join (σ:=Addr × Addr × Addr × Addr × Sl × Int × Sl × Int × Int × Bool × Unit) (fun j250 g249 w258=>
                Br j250.2.2.2.2.2.2.2.2.2.1
                 (∃ S259:World → Prop,S259 w258.drew ∧
                 (Idx j250.2.2.2.2.1.a j250.2.2.2.2.1.n 1 j250.2.2.2.2.2.1 fun a260=>
                 LoadS S259 (.sc .str) a260 fun x261=>
                 LoadS S259 (.sc .str) (j250.2.2.1.add 3) fun x262=>
                 CallT Tryd.prog 75 #[(.string x262)] (.sc .str) w258.drew (fun r263 w264=>
                   S259 w264 ∧
                   ((((x261.size + r263.size:Nat):Int) ≤ 9223372036854775807) ∧
                   CallT Tryd.prog 48 #[(.string (x261 ++ r263))] (.sc .str) w264 (fun r266 w267=>
                     S259 w267 ∧
                     (R (.returned (.tuple #[(.string r266),(.bool true),(.int .i64 0)])) w267)) (fun h268 w267=>R (.panicked h268) w267))) (fun h265 w264=>R (.panicked h265) w264)))
                 (I245 (j250.1,j250.2.1,j250.2.2.1,j250.2.2.2.1,j250.2.2.2.2.1,j250.2.2.2.2.2.2.1,j250.2.2.2.2.2.2.2.1,(IntKind.wrap .i64 (j250.2.2.2.2.2.2.2.2.1 + 1)),()) w258)) fun J248=>
                Br x247
                 (LoadT (.agg [.int .i64,.int .i64,.sl,.sl]) w244 l242.1 fun x251=>
                 LoadT (.agg [.int .i64,.int .i64,.sl,.sl]) w244 l242.2.1 fun x252=>
                 LoadT (.agg [.sl,.int .i64,.int .i64,.str]) w244 l242.2.2.1 fun x253=>
                 LoadT (.agg [.sl,.int .i64,.int .i64,.str]) w244 l242.2.2.2.1 fun x254=>
                 CallT Tryd.prog 74 #[(.agg #[(.int .i64 x251.1),(.int .i64 x251.2.1),(.slice x251.2.2.1.a x251.2.2.1.n x251.2.2.1.c),(.slice x251.2.2.2.1.a x251.2.2.2.1.n x251.2.2.2.1.c)]),(.agg #[(.int .i64 x252.1),(.int .i64 x252.2.1),(.slice x252.2.2.1.a x252.2.2.1.n x252.2.2.1.c),(.slice x252.2.2.2.1.a x252.2.2.2.1.n x252.2.2.2.1.c)]),(.agg #[(.slice x253.1.a x253.1.n x253.1.c),(.int .i64 x253.2.1),(.int .i64 x253.2.2.1),(.string x253.2.2.2.1)]),(.agg #[(.slice x254.1.a x254.1.n x254.1.c),(.int .i64 x254.2.1),(.int .i64 x254.2.2.1),(.string x254.2.2.2.1)]),(.int .i64 l242.2.2.2.2.2.2.2.1)] (.sc .bool) w244 (fun r255 w256=>
                  J248 (l242.1,l242.2.1,l242.2.2.1,l242.2.2.2.1,l242.2.2.2.2.1,l242.2.2.2.2.2.2.2.1,l242.2.2.2.2.2.1,l242.2.2.2.2.2.2.1,l242.2.2.2.2.2.2.2.1,r255,()) w256) (fun h257 w256=>R (.panicked h257) w256))
                 (J248 (l242.1,l242.2.1,l242.2.2.1,l242.2.2.2.1,l242.2.2.2.2.1,l242.2.2.2.2.2.2.2.1,l242.2.2.2.2.2.1,l242.2.2.2.2.2.2.1,l242.2.2.2.2.2.2.2.1,false,()) w244))
               (R (.returned (.tuple #[(.string (ByteArray.mk #[])),(.bool false),(.int .i64 0)])) w244)) (fun h240 w239=>R (.panicked h240) w239))))) (fun h232 w231=>R (.panicked h232) w231))))))) (fun h17 w16=>R (.panicked h17) w16)) ∧
   (New w10.drew (.cells #[(.slice none 0 0),(.int .i64 0),(.int .i64 0),(.string (ByteArray.mk #[]))] 115) fun b269 w270=>
    S12 w270 ∧
    ((CallT Tryd.prog 73 #[(.agg #[(.int .i64 x13.1),(.int .i64 x13.2.1),(.slice x13.2.2.1.a x13.2.2.1.n x13.2.2.1.c),(.slice x13.2.2.2.1.a x13.2.2.2.1.n x13.2.2.2.1.c)])] (.agg [.sl,.int .i64,.int .i64,.str]) w270 (fun r271 w272=>
      S12 w272 ∧
      ((CallT Tryd.prog 73 #[(.agg #[(.int .i64 x14.1),(.int .i64 x14.2.1),(.slice x14.2.2.1.a x14.2.2.1.n x14.2.2.1.c),(.slice x14.2.2.2.1.a x14.2.2.2.1.n x14.2.2.2.1.c)])] (.agg [.sl,.int .i64,.int .i64,.str]) w272 (fun r274 w275=>
        S12 w275 ∧
        (New w275 (.cells #[(.slice none 0 0),(.int .i64 0),(.int .i64 0),(.string (ByteArray.mk #[]))] 115) fun b277 w278=>
         S12 w278 ∧
         (StoreN w278 (Addr.mk b269 0 none) [(.slice r271.1.a r271.1.n r271.1.c),(.int .i64 r271.2.1),(.int .i64 r271.2.2.1),(.string r271.2.2.2.1)] fun w279=>
          S12 w279 ∧
          (StoreN w279 (Addr.mk b277 0 none) [(.slice r274.1.a r274.1.n r274.1.c),(.int .i64 r274.2.1),(.int .i64 r274.2.2.1),(.string r274.2.2.2.1)] fun w280=>
           LoadT (.sc (.int .i64)) w280 ((Addr.mk b269 0 none).add 1) fun x281=>
           LoadT (.sc (.int .i64)) w280 ((Addr.mk b277 0 none).add 1) fun x282=>
           Br ((x281:Int) != x282)
            (R (.returned (.tuple #[(.string (ByteArray.mk #[])),(.bool false),(.int .i64 0)])) w280)
            (LoadT (.agg [.int .i64,.int .i64,.sl,.sl]) w280 (Addr.mk b3 0 none) fun x283=>
            CallT Tryd.prog 56 #[(.agg #[(.int .i64 x283.1),(.int .i64 x283.2.1),(.slice x283.2.2.1.a x283.2.2.1.n x283.2.2.1.c),(.slice x283.2.2.2.1.a x283.2.2.2.1.n x283.2.2.2.1.c)])] (.agg [.sl,.map,.sl]) w280 (fun r284 w285=>
             LoadT (.sc .sl) w285 ((Addr.mk b277 0 none).add 0) fun x287=>
             LoopT (σ:=Addr × Addr × Addr × Addr × Sl × Sl × Int × Int × Unit) ((Addr.mk b1 0 none),(Addr.mk b3 0 none),(Addr.mk b269 0 none),(Addr.mk b277 0 none),r284.1,x287,((x287.n:Nat):Int),0,()) w285 fun l288 g289 w290 I291=>
              Br (decide ((l288.2.2.2.2.2.2.2.1:Int) < l288.2.2.2.2.2.2.1))
               (Idx l288.2.2.2.2.2.1.a l288.2.2.2.2.2.1.n 1 l288.2.2.2.2.2.2.2.1 fun a292=>
               LoadT (.sc .bool) w290 a292 fun x293=>
               Join (σ:=Addr × Addr × Addr × Addr × Sl × Int × Sl × Int × Int × Bool × Unit) (fun j296 g295 w304=>
                Br j296.2.2.2.2.2.2.2.2.2.1
                 (∃ S305:World → Prop,S305 w304.drew ∧
                 (Idx j296.2.2.2.2.1.a j296.2.2.2.2.1.n 1 j296.2.2.2.2.2.1 fun a306=>
                 LoadS S305 (.sc .str) a306 fun x307=>
                 LoadS S305 (.sc .str) (j296.2.2.1.add 3) fun x308=>
                 CallT Tryd.prog 75 #[(.string x308)] (.sc .str) w304.drew (fun r309 w310=>
                   S305 w310 ∧
                   ((((x307.size + r309.size:Nat):Int) ≤ 9223372036854775807) ∧
                   CallT Tryd.prog 48 #[(.string (x307 ++ r309))] (.sc .str) w310 (fun r312 w313=>
                     S305 w313 ∧
                     (R (.returned (.tuple #[(.string r312),(.bool true),(.int .i64 0)])) w313)) (fun h314 w313=>R (.panicked h314) w313))) (fun h311 w310=>R (.panicked h311) w310)))
                 (I291 (j296.1,j296.2.1,j296.2.2.1,j296.2.2.2.1,j296.2.2.2.2.1,j296.2.2.2.2.2.2.1,j296.2.2.2.2.2.2.2.1,(IntKind.wrap .i64 (j296.2.2.2.2.2.2.2.2.1 + 1)),()) w304)) fun J294=>
                Br x293
                 (LoadT (.agg [.int .i64,.int .i64,.sl,.sl]) w290 l288.1 fun x297=>
                 LoadT (.agg [.int .i64,.int .i64,.sl,.sl]) w290 l288.2.1 fun x298=>
                 LoadT (.agg [.sl,.int .i64,.int .i64,.str]) w290 l288.2.2.1 fun x299=>
                 LoadT (.agg [.sl,.int .i64,.int .i64,.str]) w290 l288.2.2.2.1 fun x300=>
                 CallT Tryd.prog 74 #[(.agg #[(.int .i64 x297.1),(.int .i64 x297.2.1),(.slice x297.2.2.1.a x297.2.2.1.n x297.2.2.1.c),(.slice x297.2.2.2.1.a x297.2.2.2.1.n x297.2.2.2.1.c)]),(.agg #[(.int .i64 x298.1),(.int .i64 x298.2.1),(.slice x298.2.2.1.a x298.2.2.1.n x298.2.2.1.c),(.slice x298.2.2.2.1.a x298.2.2.2.1.n x298.2.2.2.1.c)]),(.agg #[(.slice x299.1.a x299.1.n x299.1.c),(.int .i64 x299.2.1),(.int .i64 x299.2.2.1),(.string x299.2.2.2.1)]),(.agg #[(.slice x300.1.a x300.1.n x300.1.c),(.int .i64 x300.2.1),(.int .i64 x300.2.2.1),(.string x300.2.2.2.1)]),(.int .i64 l288.2.2.2.2.2.2.2.1)] (.sc .bool) w290 (fun r301 w302=>
                  J294 (l288.1,l288.2.1,l288.2.2.1,l288.2.2.2.1,l288.2.2.2.2.1,l288.2.2.2.2.2.2.2.1,l288.2.2.2.2.2.1,l288.2.2.2.2.2.2.1,l288.2.2.2.2.2.2.2.1,r301,()) w302) (fun h303 w302=>R (.panicked h303) w302))
                 (J294 (l288.1,l288.2.1,l288.2.2.1,l288.2.2.2.1,l288.2.2.2.2.1,l288.2.2.2.2.2.2.2.1,l288.2.2.2.2.2.1,l288.2.2.2.2.2.2.1,l288.2.2.2.2.2.2.2.1,false,()) w290))
               (R (.returned (.tuple #[(.string (ByteArray.mk #[])),(.bool false),(.int .i64 0)])) w290)) (fun h286 w285=>R (.panicked h286) w285)))))) (fun h276 w275=>R (.panicked h276) w275)) ∧
      (New w272 (.cells #[(.slice none 0 0),(.int .i64 0),(.int .i64 0),(.string (ByteArray.mk #[]))] 115) fun b315 w316=>
       S12 w316 ∧
       (CallT Tryd.prog 73 #[(.agg #[(.int .i64 x14.1),(.int .i64 x14.2.1),(.slice x14.2.2.1.a x14.2.2.1.n x14.2.2.1.c),(.slice x14.2.2.2.1.a x14.2.2.2.1.n x14.2.2.2.1.c)])] (.agg [.sl,.int .i64,.int .i64,.str]) w316 (fun r317 w318=>
         S12 w318 ∧
         (StoreN w318 (Addr.mk b269 0 none) [(.slice r271.1.a r271.1.n r271.1.c),(.int .i64 r271.2.1),(.int .i64 r271.2.2.1),(.string r271.2.2.2.1)] fun w320=>
          S12 w320 ∧
          (StoreN w320 (Addr.mk b315 0 none) [(.slice r317.1.a r317.1.n r317.1.c),(.int .i64 r317.2.1),(.int .i64 r317.2.2.1),(.string r317.2.2.2.1)] fun w321=>
           LoadT (.sc (.int .i64)) w321 ((Addr.mk b269 0 none).add 1) fun x322=>
           LoadT (.sc (.int .i64)) w321 ((Addr.mk b315 0 none).add 1) fun x323=>
           Br ((x322:Int) != x323)
            (R (.returned (.tuple #[(.string (ByteArray.mk #[])),(.bool false),(.int .i64 0)])) w321)
            (LoadT (.agg [.int .i64,.int .i64,.sl,.sl]) w321 (Addr.mk b3 0 none) fun x324=>
            CallT Tryd.prog 56 #[(.agg #[(.int .i64 x324.1),(.int .i64 x324.2.1),(.slice x324.2.2.1.a x324.2.2.1.n x324.2.2.1.c),(.slice x324.2.2.2.1.a x324.2.2.2.1.n x324.2.2.2.1.c)])] (.agg [.sl,.map,.sl]) w321 (fun r325 w326=>
             LoadT (.sc .sl) w326 ((Addr.mk b315 0 none).add 0) fun x328=>
             LoopT (σ:=Addr × Addr × Addr × Addr × Sl × Sl × Int × Int × Unit) ((Addr.mk b1 0 none),(Addr.mk b3 0 none),(Addr.mk b269 0 none),(Addr.mk b315 0 none),r325.1,x328,((x328.n:Nat):Int),0,()) w326 fun l329 g330 w331 I332=>
              Br (decide ((l329.2.2.2.2.2.2.2.1:Int) < l329.2.2.2.2.2.2.1))
               (Idx l329.2.2.2.2.2.1.a l329.2.2.2.2.2.1.n 1 l329.2.2.2.2.2.2.2.1 fun a333=>
               LoadT (.sc .bool) w331 a333 fun x334=>
               Join (σ:=Addr × Addr × Addr × Addr × Sl × Int × Sl × Int × Int × Bool × Unit) (fun j337 g336 w345=>
                Br j337.2.2.2.2.2.2.2.2.2.1
                 (∃ S346:World → Prop,S346 w345.drew ∧
                 (Idx j337.2.2.2.2.1.a j337.2.2.2.2.1.n 1 j337.2.2.2.2.2.1 fun a347=>
                 LoadS S346 (.sc .str) a347 fun x348=>
                 LoadS S346 (.sc .str) (j337.2.2.1.add 3) fun x349=>
                 CallT Tryd.prog 75 #[(.string x349)] (.sc .str) w345.drew (fun r350 w351=>
                   S346 w351 ∧
                   ((((x348.size + r350.size:Nat):Int) ≤ 9223372036854775807) ∧
                   CallT Tryd.prog 48 #[(.string (x348 ++ r350))] (.sc .str) w351 (fun r353 w354=>
                     S346 w354 ∧
                     (R (.returned (.tuple #[(.string r353),(.bool true),(.int .i64 0)])) w354)) (fun h355 w354=>R (.panicked h355) w354))) (fun h352 w351=>R (.panicked h352) w351)))
                 (I332 (j337.1,j337.2.1,j337.2.2.1,j337.2.2.2.1,j337.2.2.2.2.1,j337.2.2.2.2.2.2.1,j337.2.2.2.2.2.2.2.1,(IntKind.wrap .i64 (j337.2.2.2.2.2.2.2.2.1 + 1)),()) w345)) fun J335=>
                Br x334
                 (LoadT (.agg [.int .i64,.int .i64,.sl,.sl]) w331 l329.1 fun x338=>
                 LoadT (.agg [.int .i64,.int .i64,.sl,.sl]) w331 l329.2.1 fun x339=>
                 LoadT (.agg [.sl,.int .i64,.int .i64,.str]) w331 l329.2.2.1 fun x340=>
                 LoadT (.agg [.sl,.int .i64,.int .i64,.str]) w331 l329.2.2.2.1 fun x341=>
                 CallT Tryd.prog 74 #[(.agg #[(.int .i64 x338.1),(.int .i64 x338.2.1),(.slice x338.2.2.1.a x338.2.2.1.n x338.2.2.1.c),(.slice x338.2.2.2.1.a x338.2.2.2.1.n x338.2.2.2.1.c)]),(.agg #[(.int .i64 x339.1),(.int .i64 x339.2.1),(.slice x339.2.2.1.a x339.2.2.1.n x339.2.2.1.c),(.slice x339.2.2.2.1.a x339.2.2.2.1.n x339.2.2.2.1.c)]),(.agg #[(.slice x340.1.a x340.1.n x340.1.c),(.int .i64 x340.2.1),(.int .i64 x340.2.2.1),(.string x340.2.2.2.1)]),(.agg #[(.slice x341.1.a x341.1.n x341.1.c),(.int .i64 x341.2.1),(.int .i64 x341.2.2.1),(.string x341.2.2.2.1)]),(.int .i64 l329.2.2.2.2.2.2.2.1)] (.sc .bool) w331 (fun r342 w343=>
                  J335 (l329.1,l329.2.1,l329.2.2.1,l329.2.2.2.1,l329.2.2.2.2.1,l329.2.2.2.2.2.2.2.1,l329.2.2.2.2.2.1,l329.2.2.2.2.2.2.1,l329.2.2.2.2.2.2.2.1,r342,()) w343) (fun h344 w343=>R (.panicked h344) w343))
                 (J335 (l329.1,l329.2.1,l329.2.2.1,l329.2.2.2.1,l329.2.2.2.2.1,l329.2.2.2.2.2.2.2.1,l329.2.2.2.2.2.1,l329.2.2.2.2.2.2.1,l329.2.2.2.2.2.2.2.1,false,()) w331))
               (R (.returned (.tuple #[(.string (ByteArray.mk #[])),(.bool false),(.int .i64 0)])) w331)) (fun h327 w326=>R (.panicked h327) w326))))) (fun h319 w318=>R (.panicked h319) w318))))) (fun h273 w272=>R (.panicked h273) w272)) ∧
    (New w270 (.cells #[(.slice none 0 0),(.int .i64 0),(.int .i64 0),(.string (ByteArray.mk #[]))] 115) fun b356 w357=>
     S12 w357 ∧
     (CallT Tryd.prog 73 #[(.agg #[(.int .i64 x13.1),(.int .i64 x13.2.1),(.slice x13.2.2.1.a x13.2.2.1.n x13.2.2.1.c),(.slice x13.2.2.2.1.a x13.2.2.2.1.n x13.2.2.2.1.c)])] (.agg [.sl,.int .i64,.int .i64,.str]) w357 (fun r358 w359=>
       S12 w359 ∧
       (CallT Tryd.prog 73 #[(.agg #[(.int .i64 x14.1),(.int .i64 x14.2.1),(.slice x14.2.2.1.a x14.2.2.1.n x14.2.2.1.c),(.slice x14.2.2.2.1.a x14.2.2.2.1.n x14.2.2.2.1.c)])] (.agg [.sl,.int .i64,.int .i64,.str]) w359 (fun r361 w362=>
         S12 w362 ∧
         (StoreN w362 (Addr.mk b269 0 none) [(.slice r358.1.a r358.1.n r358.1.c),(.int .i64 r358.2.1),(.int .i64 r358.2.2.1),(.string r358.2.2.2.1)] fun w364=>
          S12 w364 ∧
          (StoreN w364 (Addr.mk b356 0 none) [(.slice r361.1.a r361.1.n r361.1.c),(.int .i64 r361.2.1),(.int .i64 r361.2.2.1),(.string r361.2.2.2.1)] fun w365=>
           LoadT (.sc (.int .i64)) w365 ((Addr.mk b269 0 none).add 1) fun x366=>
           LoadT (.sc (.int .i64)) w365 ((Addr.mk b356 0 none).add 1) fun x367=>
           Br ((x366:Int) != x367)
            (R (.returned (.tuple #[(.string (ByteArray.mk #[])),(.bool false),(.int .i64 0)])) w365)
            (LoadT (.agg [.int .i64,.int .i64,.sl,.sl]) w365 (Addr.mk b3 0 none) fun x368=>
            CallT Tryd.prog 56 #[(.agg #[(.int .i64 x368.1),(.int .i64 x368.2.1),(.slice x368.2.2.1.a x368.2.2.1.n x368.2.2.1.c),(.slice x368.2.2.2.1.a x368.2.2.2.1.n x368.2.2.2.1.c)])] (.agg [.sl,.map,.sl]) w365 (fun r369 w370=>
             LoadT (.sc .sl) w370 ((Addr.mk b356 0 none).add 0) fun x372=>
             LoopT (σ:=Addr × Addr × Addr × Addr × Sl × Sl × Int × Int × Unit) ((Addr.mk b1 0 none),(Addr.mk b3 0 none),(Addr.mk b269 0 none),(Addr.mk b356 0 none),r369.1,x372,((x372.n:Nat):Int),0,()) w370 fun l373 g374 w375 I376=>
              Br (decide ((l373.2.2.2.2.2.2.2.1:Int) < l373.2.2.2.2.2.2.1))
               (Idx l373.2.2.2.2.2.1.a l373.2.2.2.2.2.1.n 1 l373.2.2.2.2.2.2.2.1 fun a377=>
               LoadT (.sc .bool) w375 a377 fun x378=>
               Join (σ:=Addr × Addr × Addr × Addr × Sl × Int × Sl × Int × Int × Bool × Unit) (fun j381 g380 w389=>
                Br j381.2.2.2.2.2.2.2.2.2.1
                 (∃ S390:World → Prop,S390 w389.drew ∧
                 (Idx j381.2.2.2.2.1.a j381.2.2.2.2.1.n 1 j381.2.2.2.2.2.1 fun a391=>
                 LoadS S390 (.sc .str) a391 fun x392=>
                 LoadS S390 (.sc .str) (j381.2.2.1.add 3) fun x393=>
                 CallT Tryd.prog 75 #[(.string x393)] (.sc .str) w389.drew (fun r394 w395=>
                   S390 w395 ∧
                   ((((x392.size + r394.size:Nat):Int) ≤ 9223372036854775807) ∧
                   CallT Tryd.prog 48 #[(.string (x392 ++ r394))] (.sc .str) w395 (fun r397 w398=>
                     S390 w398 ∧
                     (R (.returned (.tuple #[(.string r397),(.bool true),(.int .i64 0)])) w398)) (fun h399 w398=>R (.panicked h399) w398))) (fun h396 w395=>R (.panicked h396) w395)))
                 (I376 (j381.1,j381.2.1,j381.2.2.1,j381.2.2.2.1,j381.2.2.2.2.1,j381.2.2.2.2.2.2.1,j381.2.2.2.2.2.2.2.1,(IntKind.wrap .i64 (j381.2.2.2.2.2.2.2.2.1 + 1)),()) w389)) fun J379=>
                Br x378
                 (LoadT (.agg [.int .i64,.int .i64,.sl,.sl]) w375 l373.1 fun x382=>
                 LoadT (.agg [.int .i64,.int .i64,.sl,.sl]) w375 l373.2.1 fun x383=>
                 LoadT (.agg [.sl,.int .i64,.int .i64,.str]) w375 l373.2.2.1 fun x384=>
                 LoadT (.agg [.sl,.int .i64,.int .i64,.str]) w375 l373.2.2.2.1 fun x385=>
                 CallT Tryd.prog 74 #[(.agg #[(.int .i64 x382.1),(.int .i64 x382.2.1),(.slice x382.2.2.1.a x382.2.2.1.n x382.2.2.1.c),(.slice x382.2.2.2.1.a x382.2.2.2.1.n x382.2.2.2.1.c)]),(.agg #[(.int .i64 x383.1),(.int .i64 x383.2.1),(.slice x383.2.2.1.a x383.2.2.1.n x383.2.2.1.c),(.slice x383.2.2.2.1.a x383.2.2.2.1.n x383.2.2.2.1.c)]),(.agg #[(.slice x384.1.a x384.1.n x384.1.c),(.int .i64 x384.2.1),(.int .i64 x384.2.2.1),(.string x384.2.2.2.1)]),(.agg #[(.slice x385.1.a x385.1.n x385.1.c),(.int .i64 x385.2.1),(.int .i64 x385.2.2.1),(.string x385.2.2.2.1)]),(.int .i64 l373.2.2.2.2.2.2.2.1)] (.sc .bool) w375 (fun r386 w387=>
                  J379 (l373.1,l373.2.1,l373.2.2.1,l373.2.2.2.1,l373.2.2.2.2.1,l373.2.2.2.2.2.2.2.1,l373.2.2.2.2.2.1,l373.2.2.2.2.2.2.1,l373.2.2.2.2.2.2.2.1,r386,()) w387) (fun h388 w387=>R (.panicked h388) w387))
                 (J379 (l373.1,l373.2.1,l373.2.2.1,l373.2.2.2.1,l373.2.2.2.2.1,l373.2.2.2.2.2.2.2.1,l373.2.2.2.2.2.1,l373.2.2.2.2.2.2.1,l373.2.2.2.2.2.2.2.1,false,()) w375))
               (R (.returned (.tuple #[(.string (ByteArray.mk #[])),(.bool false),(.int .i64 0)])) w375)) (fun h371 w370=>R (.panicked h371) w370))))) (fun h363 w362=>R (.panicked h363) w362))) (fun h360 w359=>R (.panicked h360) w359))))) ∧
   (New w10.drew (.cells #[(.slice none 0 0),(.int .i64 0),(.int .i64 0),(.string (ByteArray.mk #[]))] 115) fun b400 w401=>
    S12 w401 ∧
    ((CallT Tryd.prog 73 #[(.agg #[(.int .i64 x13.1),(.int .i64 x13.2.1),(.slice x13.2.2.1.a x13.2.2.1.n x13.2.2.1.c),(.slice x13.2.2.2.1.a x13.2.2.2.1.n x13.2.2.2.1.c)])] (.agg [.sl,.int .i64,.int .i64,.str]) w401 (fun r402 w403=>
      S12 w403 ∧
      ((CallT Tryd.prog 73 #[(.agg #[(.int .i64 x14.1),(.int .i64 x14.2.1),(.slice x14.2.2.1.a x14.2.2.1.n x14.2.2.1.c),(.slice x14.2.2.2.1.a x14.2.2.2.1.n x14.2.2.2.1.c)])] (.agg [.sl,.int .i64,.int .i64,.str]) w403 (fun r405 w406=>
        S12 w406 ∧
        (New w406 (.cells #[(.slice none 0 0),(.int .i64 0),(.int .i64 0),(.string (ByteArray.mk #[]))] 115) fun b408 w409=>
         S12 w409 ∧
         (StoreN w409 (Addr.mk b408 0 none) [(.slice r402.1.a r402.1.n r402.1.c),(.int .i64 r402.2.1),(.int .i64 r402.2.2.1),(.string r402.2.2.2.1)] fun w410=>
          S12 w410 ∧
          (StoreN w410 (Addr.mk b400 0 none) [(.slice r405.1.a r405.1.n r405.1.c),(.int .i64 r405.2.1),(.int .i64 r405.2.2.1),(.string r405.2.2.2.1)] fun w411=>
           LoadT (.sc (.int .i64)) w411 ((Addr.mk b408 0 none).add 1) fun x412=>
           LoadT (.sc (.int .i64)) w411 ((Addr.mk b400 0 none).add 1) fun x413=>
           Br ((x412:Int) != x413)
            (R (.returned (.tuple #[(.string (ByteArray.mk #[])),(.bool false),(.int .i64 0)])) w411)
            (LoadT (.agg [.int .i64,.int .i64,.sl,.sl]) w411 (Addr.mk b3 0 none) fun x414=>
            CallT Tryd.prog 56 #[(.agg #[(.int .i64 x414.1),(.int .i64 x414.2.1),(.slice x414.2.2.1.a x414.2.2.1.n x414.2.2.1.c),(.slice x414.2.2.2.1.a x414.2.2.2.1.n x414.2.2.2.1.c)])] (.agg [.sl,.map,.sl]) w411 (fun r415 w416=>
             LoadT (.sc .sl) w416 ((Addr.mk b400 0 none).add 0) fun x418=>
             LoopT (σ:=Addr × Addr × Addr × Addr × Sl × Sl × Int × Int × Unit) ((Addr.mk b1 0 none),(Addr.mk b3 0 none),(Addr.mk b408 0 none),(Addr.mk b400 0 none),r415.1,x418,((x418.n:Nat):Int),0,()) w416 fun l419 g420 w421 I422=>
              Br (decide ((l419.2.2.2.2.2.2.2.1:Int) < l419.2.2.2.2.2.2.1))
               (Idx l419.2.2.2.2.2.1.a l419.2.2.2.2.2.1.n 1 l419.2.2.2.2.2.2.2.1 fun a423=>
               LoadT (.sc .bool) w421 a423 fun x424=>
               Join (σ:=Addr × Addr × Addr × Addr × Sl × Int × Sl × Int × Int × Bool × Unit) (fun j427 g426 w435=>
                Br j427.2.2.2.2.2.2.2.2.2.1
                 (∃ S436:World → Prop,S436 w435.drew ∧
                 (Idx j427.2.2.2.2.1.a j427.2.2.2.2.1.n 1 j427.2.2.2.2.2.1 fun a437=>
                 LoadS S436 (.sc .str) a437 fun x438=>
                 LoadS S436 (.sc .str) (j427.2.2.1.add 3) fun x439=>
                 CallT Tryd.prog 75 #[(.string x439)] (.sc .str) w435.drew (fun r440 w441=>
                   S436 w441 ∧
                   ((((x438.size + r440.size:Nat):Int) ≤ 9223372036854775807) ∧
                   CallT Tryd.prog 48 #[(.string (x438 ++ r440))] (.sc .str) w441 (fun r443 w444=>
                     S436 w444 ∧
                     (R (.returned (.tuple #[(.string r443),(.bool true),(.int .i64 0)])) w444)) (fun h445 w444=>R (.panicked h445) w444))) (fun h442 w441=>R (.panicked h442) w441)))
                 (I422 (j427.1,j427.2.1,j427.2.2.1,j427.2.2.2.1,j427.2.2.2.2.1,j427.2.2.2.2.2.2.1,j427.2.2.2.2.2.2.2.1,(IntKind.wrap .i64 (j427.2.2.2.2.2.2.2.2.1 + 1)),()) w435)) fun J425=>
                Br x424
                 (LoadT (.agg [.int .i64,.int .i64,.sl,.sl]) w421 l419.1 fun x428=>
                 LoadT (.agg [.int .i64,.int .i64,.sl,.sl]) w421 l419.2.1 fun x429=>
                 LoadT (.agg [.sl,.int .i64,.int .i64,.str]) w421 l419.2.2.1 fun x430=>
                 LoadT (.agg [.sl,.int .i64,.int .i64,.str]) w421 l419.2.2.2.1 fun x431=>
                 CallT Tryd.prog 74 #[(.agg #[(.int .i64 x428.1),(.int .i64 x428.2.1),(.slice x428.2.2.1.a x428.2.2.1.n x428.2.2.1.c),(.slice x428.2.2.2.1.a x428.2.2.2.1.n x428.2.2.2.1.c)]),(.agg #[(.int .i64 x429.1),(.int .i64 x429.2.1),(.slice x429.2.2.1.a x429.2.2.1.n x429.2.2.1.c),(.slice x429.2.2.2.1.a x429.2.2.2.1.n x429.2.2.2.1.c)]),(.agg #[(.slice x430.1.a x430.1.n x430.1.c),(.int .i64 x430.2.1),(.int .i64 x430.2.2.1),(.string x430.2.2.2.1)]),(.agg #[(.slice x431.1.a x431.1.n x431.1.c),(.int .i64 x431.2.1),(.int .i64 x431.2.2.1),(.string x431.2.2.2.1)]),(.int .i64 l419.2.2.2.2.2.2.2.1)] (.sc .bool) w421 (fun r432 w433=>
                  J425 (l419.1,l419.2.1,l419.2.2.1,l419.2.2.2.1,l419.2.2.2.2.1,l419.2.2.2.2.2.2.2.1,l419.2.2.2.2.2.1,l419.2.2.2.2.2.2.1,l419.2.2.2.2.2.2.2.1,r432,()) w433) (fun h434 w433=>R (.panicked h434) w433))
                 (J425 (l419.1,l419.2.1,l419.2.2.1,l419.2.2.2.1,l419.2.2.2.2.1,l419.2.2.2.2.2.2.2.1,l419.2.2.2.2.2.1,l419.2.2.2.2.2.2.1,l419.2.2.2.2.2.2.2.1,false,()) w421))
               (R (.returned (.tuple #[(.string (ByteArray.mk #[])),(.bool false),(.int .i64 0)])) w421)) (fun h417 w416=>R (.panicked h417) w416)))))) (fun h407 w406=>R (.panicked h407) w406)) ∧
      (New w403 (.cells #[(.slice none 0 0),(.int .i64 0),(.int .i64 0),(.string (ByteArray.mk #[]))] 115) fun b446 w447=>
       S12 w447 ∧
       (CallT Tryd.prog 73 #[(.agg #[(.int .i64 x14.1),(.int .i64 x14.2.1),(.slice x14.2.2.1.a x14.2.2.1.n x14.2.2.1.c),(.slice x14.2.2.2.1.a x14.2.2.2.1.n x14.2.2.2.1.c)])] (.agg [.sl,.int .i64,.int .i64,.str]) w447 (fun r448 w449=>
         S12 w449 ∧
         (StoreN w449 (Addr.mk b446 0 none) [(.slice r402.1.a r402.1.n r402.1.c),(.int .i64 r402.2.1),(.int .i64 r402.2.2.1),(.string r402.2.2.2.1)] fun w451=>
          S12 w451 ∧
          (StoreN w451 (Addr.mk b400 0 none) [(.slice r448.1.a r448.1.n r448.1.c),(.int .i64 r448.2.1),(.int .i64 r448.2.2.1),(.string r448.2.2.2.1)] fun w452=>
           LoadT (.sc (.int .i64)) w452 ((Addr.mk b446 0 none).add 1) fun x453=>
           LoadT (.sc (.int .i64)) w452 ((Addr.mk b400 0 none).add 1) fun x454=>
           Br ((x453:Int) != x454)
            (R (.returned (.tuple #[(.string (ByteArray.mk #[])),(.bool false),(.int .i64 0)])) w452)
            (LoadT (.agg [.int .i64,.int .i64,.sl,.sl]) w452 (Addr.mk b3 0 none) fun x455=>
            CallT Tryd.prog 56 #[(.agg #[(.int .i64 x455.1),(.int .i64 x455.2.1),(.slice x455.2.2.1.a x455.2.2.1.n x455.2.2.1.c),(.slice x455.2.2.2.1.a x455.2.2.2.1.n x455.2.2.2.1.c)])] (.agg [.sl,.map,.sl]) w452 (fun r456 w457=>
             LoadT (.sc .sl) w457 ((Addr.mk b400 0 none).add 0) fun x459=>
             LoopT (σ:=Addr × Addr × Addr × Addr × Sl × Sl × Int × Int × Unit) ((Addr.mk b1 0 none),(Addr.mk b3 0 none),(Addr.mk b446 0 none),(Addr.mk b400 0 none),r456.1,x459,((x459.n:Nat):Int),0,()) w457 fun l460 g461 w462 I463=>
              Br (decide ((l460.2.2.2.2.2.2.2.1:Int) < l460.2.2.2.2.2.2.1))
               (Idx l460.2.2.2.2.2.1.a l460.2.2.2.2.2.1.n 1 l460.2.2.2.2.2.2.2.1 fun a464=>
               LoadT (.sc .bool) w462 a464 fun x465=>
               Join (σ:=Addr × Addr × Addr × Addr × Sl × Int × Sl × Int × Int × Bool × Unit) (fun j468 g467 w476=>
                Br j468.2.2.2.2.2.2.2.2.2.1
                 (∃ S477:World → Prop,S477 w476.drew ∧
                 (Idx j468.2.2.2.2.1.a j468.2.2.2.2.1.n 1 j468.2.2.2.2.2.1 fun a478=>
                 LoadS S477 (.sc .str) a478 fun x479=>
                 LoadS S477 (.sc .str) (j468.2.2.1.add 3) fun x480=>
                 CallT Tryd.prog 75 #[(.string x480)] (.sc .str) w476.drew (fun r481 w482=>
                   S477 w482 ∧
                   ((((x479.size + r481.size:Nat):Int) ≤ 9223372036854775807) ∧
                   CallT Tryd.prog 48 #[(.string (x479 ++ r481))] (.sc .str) w482 (fun r484 w485=>
                     S477 w485 ∧
                     (R (.returned (.tuple #[(.string r484),(.bool true),(.int .i64 0)])) w485)) (fun h486 w485=>R (.panicked h486) w485))) (fun h483 w482=>R (.panicked h483) w482)))
                 (I463 (j468.1,j468.2.1,j468.2.2.1,j468.2.2.2.1,j468.2.2.2.2.1,j468.2.2.2.2.2.2.1,j468.2.2.2.2.2.2.2.1,(IntKind.wrap .i64 (j468.2.2.2.2.2.2.2.2.1 + 1)),()) w476)) fun J466=>
                Br x465
                 (LoadT (.agg [.int .i64,.int .i64,.sl,.sl]) w462 l460.1 fun x469=>
                 LoadT (.agg [.int .i64,.int .i64,.sl,.sl]) w462 l460.2.1 fun x470=>
                 LoadT (.agg [.sl,.int .i64,.int .i64,.str]) w462 l460.2.2.1 fun x471=>
                 LoadT (.agg [.sl,.int .i64,.int .i64,.str]) w462 l460.2.2.2.1 fun x472=>
                 CallT Tryd.prog 74 #[(.agg #[(.int .i64 x469.1),(.int .i64 x469.2.1),(.slice x469.2.2.1.a x469.2.2.1.n x469.2.2.1.c),(.slice x469.2.2.2.1.a x469.2.2.2.1.n x469.2.2.2.1.c)]),(.agg #[(.int .i64 x470.1),(.int .i64 x470.2.1),(.slice x470.2.2.1.a x470.2.2.1.n x470.2.2.1.c),(.slice x470.2.2.2.1.a x470.2.2.2.1.n x470.2.2.2.1.c)]),(.agg #[(.slice x471.1.a x471.1.n x471.1.c),(.int .i64 x471.2.1),(.int .i64 x471.2.2.1),(.string x471.2.2.2.1)]),(.agg #[(.slice x472.1.a x472.1.n x472.1.c),(.int .i64 x472.2.1),(.int .i64 x472.2.2.1),(.string x472.2.2.2.1)]),(.int .i64 l460.2.2.2.2.2.2.2.1)] (.sc .bool) w462 (fun r473 w474=>
                  J466 (l460.1,l460.2.1,l460.2.2.1,l460.2.2.2.1,l460.2.2.2.2.1,l460.2.2.2.2.2.2.2.1,l460.2.2.2.2.2.1,l460.2.2.2.2.2.2.1,l460.2.2.2.2.2.2.2.1,r473,()) w474) (fun h475 w474=>R (.panicked h475) w474))
                 (J466 (l460.1,l460.2.1,l460.2.2.1,l460.2.2.2.1,l460.2.2.2.2.1,l460.2.2.2.2.2.2.2.1,l460.2.2.2.2.2.1,l460.2.2.2.2.2.2.1,l460.2.2.2.2.2.2.2.1,false,()) w462))
               (R (.returned (.tuple #[(.string (ByteArray.mk #[])),(.bool false),(.int .i64 0)])) w462)) (fun h458 w457=>R (.panicked h458) w457))))) (fun h450 w449=>R (.panicked h450) w449))))) (fun h404 w403=>R (.panicked h404) w403)) ∧
    (New w401 (.cells #[(.slice none 0 0),(.int .i64 0),(.int .i64 0),(.string (ByteArray.mk #[]))] 115) fun b487 w488=>
     S12 w488 ∧
     (CallT Tryd.prog 73 #[(.agg #[(.int .i64 x13.1),(.int .i64 x13.2.1),(.slice x13.2.2.1.a x13.2.2.1.n x13.2.2.1.c),(.slice x13.2.2.2.1.a x13.2.2.2.1.n x13.2.2.2.1.c)])] (.agg [.sl,.int .i64,.int .i64,.str]) w488 (fun r489 w490=>
       S12 w490 ∧
       (CallT Tryd.prog 73 #[(.agg #[(.int .i64 x14.1),(.int .i64 x14.2.1),(.slice x14.2.2.1.a x14.2.2.1.n x14.2.2.1.c),(.slice x14.2.2.2.1.a x14.2.2.2.1.n x14.2.2.2.1.c)])] (.agg [.sl,.int .i64,.int .i64,.str]) w490 (fun r492 w493=>
         S12 w493 ∧
         (StoreN w493 (Addr.mk b487 0 none) [(.slice r489.1.a r489.1.n r489.1.c),(.int .i64 r489.2.1),(.int .i64 r489.2.2.1),(.string r489.2.2.2.1)] fun w495=>
          S12 w495 ∧
          (StoreN w495 (Addr.mk b400 0 none) [(.slice r492.1.a r492.1.n r492.1.c),(.int .i64 r492.2.1),(.int .i64 r492.2.2.1),(.string r492.2.2.2.1)] fun w496=>
           LoadT (.sc (.int .i64)) w496 ((Addr.mk b487 0 none).add 1) fun x497=>
           LoadT (.sc (.int .i64)) w496 ((Addr.mk b400 0 none).add 1) fun x498=>
           Br ((x497:Int) != x498)
            (R (.returned (.tuple #[(.string (ByteArray.mk #[])),(.bool false),(.int .i64 0)])) w496)
            (LoadT (.agg [.int .i64,.int .i64,.sl,.sl]) w496 (Addr.mk b3 0 none) fun x499=>
            CallT Tryd.prog 56 #[(.agg #[(.int .i64 x499.1),(.int .i64 x499.2.1),(.slice x499.2.2.1.a x499.2.2.1.n x499.2.2.1.c),(.slice x499.2.2.2.1.a x499.2.2.2.1.n x499.2.2.2.1.c)])] (.agg [.sl,.map,.sl]) w496 (fun r500 w501=>
             LoadT (.sc .sl) w501 ((Addr.mk b400 0 none).add 0) fun x503=>
             LoopT (σ:=Addr × Addr × Addr × Addr × Sl × Sl × Int × Int × Unit) ((Addr.mk b1 0 none),(Addr.mk b3 0 none),(Addr.mk b487 0 none),(Addr.mk b400 0 none),r500.1,x503,((x503.n:Nat):Int),0,()) w501 fun l504 g505 w506 I507=>
              Br (decide ((l504.2.2.2.2.2.2.2.1:Int) < l504.2.2.2.2.2.2.1))
               (Idx l504.2.2.2.2.2.1.a l504.2.2.2.2.2.1.n 1 l504.2.2.2.2.2.2.2.1 fun a508=>
               LoadT (.sc .bool) w506 a508 fun x509=>
               Join (σ:=Addr × Addr × Addr × Addr × Sl × Int × Sl × Int × Int × Bool × Unit) (fun j512 g511 w520=>
                Br j512.2.2.2.2.2.2.2.2.2.1
                 (∃ S521:World → Prop,S521 w520.drew ∧
                 (Idx j512.2.2.2.2.1.a j512.2.2.2.2.1.n 1 j512.2.2.2.2.2.1 fun a522=>
                 LoadS S521 (.sc .str) a522 fun x523=>
                 LoadS S521 (.sc .str) (j512.2.2.1.add 3) fun x524=>
                 CallT Tryd.prog 75 #[(.string x524)] (.sc .str) w520.drew (fun r525 w526=>
                   S521 w526 ∧
                   ((((x523.size + r525.size:Nat):Int) ≤ 9223372036854775807) ∧
                   CallT Tryd.prog 48 #[(.string (x523 ++ r525))] (.sc .str) w526 (fun r528 w529=>
                     S521 w529 ∧
                     (R (.returned (.tuple #[(.string r528),(.bool true),(.int .i64 0)])) w529)) (fun h530 w529=>R (.panicked h530) w529))) (fun h527 w526=>R (.panicked h527) w526)))
                 (I507 (j512.1,j512.2.1,j512.2.2.1,j512.2.2.2.1,j512.2.2.2.2.1,j512.2.2.2.2.2.2.1,j512.2.2.2.2.2.2.2.1,(IntKind.wrap .i64 (j512.2.2.2.2.2.2.2.2.1 + 1)),()) w520)) fun J510=>
                Br x509
                 (LoadT (.agg [.int .i64,.int .i64,.sl,.sl]) w506 l504.1 fun x513=>
                 LoadT (.agg [.int .i64,.int .i64,.sl,.sl]) w506 l504.2.1 fun x514=>
                 LoadT (.agg [.sl,.int .i64,.int .i64,.str]) w506 l504.2.2.1 fun x515=>
                 LoadT (.agg [.sl,.int .i64,.int .i64,.str]) w506 l504.2.2.2.1 fun x516=>
                 CallT Tryd.prog 74 #[(.agg #[(.int .i64 x513.1),(.int .i64 x513.2.1),(.slice x513.2.2.1.a x513.2.2.1.n x513.2.2.1.c),(.slice x513.2.2.2.1.a x513.2.2.2.1.n x513.2.2.2.1.c)]),(.agg #[(.int .i64 x514.1),(.int .i64 x514.2.1),(.slice x514.2.2.1.a x514.2.2.1.n x514.2.2.1.c),(.slice x514.2.2.2.1.a x514.2.2.2.1.n x514.2.2.2.1.c)]),(.agg #[(.slice x515.1.a x515.1.n x515.1.c),(.int .i64 x515.2.1),(.int .i64 x515.2.2.1),(.string x515.2.2.2.1)]),(.agg #[(.slice x516.1.a x516.1.n x516.1.c),(.int .i64 x516.2.1),(.int .i64 x516.2.2.1),(.string x516.2.2.2.1)]),(.int .i64 l504.2.2.2.2.2.2.2.1)] (.sc .bool) w506 (fun r517 w518=>
                  J510 (l504.1,l504.2.1,l504.2.2.1,l504.2.2.2.1,l504.2.2.2.2.1,l504.2.2.2.2.2.2.2.1,l504.2.2.2.2.2.1,l504.2.2.2.2.2.2.1,l504.2.2.2.2.2.2.2.1,r517,()) w518) (fun h519 w518=>R (.panicked h519) w518))
                 (J510 (l504.1,l504.2.1,l504.2.2.1,l504.2.2.2.1,l504.2.2.2.2.1,l504.2.2.2.2.2.2.2.1,l504.2.2.2.2.2.1,l504.2.2.2.2.2.2.1,l504.2.2.2.2.2.2.2.1,false,()) w506))
               (R (.returned (.tuple #[(.string (ByteArray.mk #[])),(.bool false),(.int .i64 0)])) w506)) (fun h502 w501=>R (.panicked h502) w501))))) (fun h494 w493=>R (.panicked h494) w493))) (fun h491 w490=>R (.panicked h491) w490)))))))) (fun h11 w10=>R (.panicked h11) w10)
theorem fold_Conjugator.calls (p0:Int) (p1_0:Int) (p1_1:Int) (p1_2:Sl) (p1_3:Sl) (p2_0:Int) (p2_1:Int) (p2_2:Sl) (p2_3:Sl) {R:Ending → World → Prop} {w:World} (h:fold_Conjugator.sh p0 p1_0 p1_1 p1_2 p1_3 p2_0 p2_1 p2_2 p2_3 R w):Calls Tryd.prog 39 #[(.int .i64 p0),(.agg #[(.int .i64 p1_0),(.int .i64 p1_1),(.slice p1_2.a p1_2.n p1_2.c),(.slice p1_3.a p1_3.n p1_3.c)]),(.agg #[(.int .i64 p2_0),(.int .i64 p2_1),(.slice p2_2.a p2_2.n p2_2.c),(.slice p2_3.a p2_3.n p2_3.c)])] w R:=calls_of_wpc mixed Tryd.func39 (by kernel_rfl) (by kernel_rfl) ((show _ = wpc Tryd.prog fold_Conjugator.ann fold_Conjugator.body (fnKs Tryd.prog Tryd.f39 R) [] (env0 #[(.int .i64 p0),(.agg #[(.int .i64 p1_0),(.int .i64 p1_1),(.slice p1_2.a p1_2.n p1_2.c),(.slice p1_3.a p1_3.n p1_3.c)]),(.agg #[(.int .i64 p2_0),(.int .i64 p2_1),(.slice p2_2.a p2_2.n p2_2.c),(.slice p2_3.a p2_3.n p2_3.c)])]) w by kernel_rfl).mp h)
end Go.Proofs.YtffdjfkekdoeaaaDoor
end
section
set_option maxRecDepth 8000
set_option maxHeartbeats 4000000
namespace Go.Proofs.YtffdjfkekdoeaaaDoor.Fo
open Fw Wd Rf Pl
def ConjrIs (k:Int) (a b:Aut) (y:ByteArray × Bool × Int × Unit):Prop:=
 (examF k [a,b] [] ≠ 0 ∧ y = (⟨#[]⟩,false,examF k [a,b] [],())) ∨
 (examF k [a,b] [] = 0 ∧ ∃ ca cb,coreF a.next.length a.next (core0 a.next) = some ca ∧ coreF b.next.length b.next (core0 b.next) = some cb ∧
  ((y = (⟨#[]⟩,false,0,()) ∧ (ca.size = cb.size → ∀ s,cb.inn[s]? = some true → alB a b ca cb s = false)) ∨
   ∃ s,ca.size = cb.size ∧ cb.inn[s]? = some true ∧ alB a b ca cb s = true ∧ y = (ReduceF ((treeF b.next).paths.getD s ⟨#[]⟩ ++ InverseF ca.stem),true,0,())))
theorem inverse_size (s:ByteArray):(InverseF s).size ≤ s.size:=by
 unfold InverseF
 split
 ·show (invF s.data.toList).toArray.size ≤ _
  rw [List.size_toArray,invF,List.length_reverse,List.length_map,Array.length_toList]
  exact Nat.le_refl _
 ·exact Nat.zero_le _
def cjTail (b1 b3 b21 b23:Nat) (R:Ending → World → Prop) (w26:World):Prop:=
 LoadT (.sc (.int .i64)) w26 ((Addr.mk b21 0 none).add 1) fun x27=>
 LoadT (.sc (.int .i64)) w26 ((Addr.mk b23 0 none).add 1) fun x28=>
 Br ((x27:Int) != x28)
  (R (.returned (.tuple #[(.string (ByteArray.mk #[])),(.bool false),(.int .i64 0)])) w26)
  (LoadT (.agg [.int .i64,.int .i64,.sl,.sl]) w26 (Addr.mk b3 0 none) fun x29=>
  CallT Tryd.prog 56 #[(.agg #[(.int .i64 x29.1),(.int .i64 x29.2.1),(.slice x29.2.2.1.a x29.2.2.1.n x29.2.2.1.c),(.slice x29.2.2.2.1.a x29.2.2.2.1.n x29.2.2.2.1.c)])] (.agg [.sl,.map,.sl]) w26 (fun r30 w31=>
   LoadT (.sc .sl) w31 ((Addr.mk b23 0 none).add 0) fun x33=>
   LoopT (σ:=Addr × Addr × Addr × Addr × Sl × Sl × Int × Int × Unit) ((Addr.mk b1 0 none),(Addr.mk b3 0 none),(Addr.mk b21 0 none),(Addr.mk b23 0 none),r30.1,x33,((x33.n:Nat):Int),0,()) w31 fun l34 g35 w36 I37=>
    Br (decide ((l34.2.2.2.2.2.2.2.1:Int) < l34.2.2.2.2.2.2.1))
     (Idx l34.2.2.2.2.2.1.a l34.2.2.2.2.2.1.n 1 l34.2.2.2.2.2.2.2.1 fun a38=>
     LoadT (.sc .bool) w36 a38 fun x39=>
     Join (σ:=Addr × Addr × Addr × Addr × Sl × Int × Sl × Int × Int × Bool × Unit) (fun j42 g41 w50=>
      Br j42.2.2.2.2.2.2.2.2.2.1
       (∃ S51:World → Prop,S51 w50.drew ∧
       (Idx j42.2.2.2.2.1.a j42.2.2.2.2.1.n 1 j42.2.2.2.2.2.1 fun a52=>
       LoadS S51 (.sc .str) a52 fun x53=>
       LoadS S51 (.sc .str) (j42.2.2.1.add 3) fun x54=>
       CallT Tryd.prog 75 #[(.string x54)] (.sc .str) w50.drew (fun r55 w56=>
         S51 w56 ∧
         ((((x53.size + r55.size:Nat):Int) ≤ 9223372036854775807) ∧
         CallT Tryd.prog 48 #[(.string (x53 ++ r55))] (.sc .str) w56 (fun r58 w59=>
           S51 w59 ∧
           (R (.returned (.tuple #[(.string r58),(.bool true),(.int .i64 0)])) w59)) (fun h60 w59=>R (.panicked h60) w59))) (fun h57 w56=>R (.panicked h57) w56)))
       (I37 (j42.1,j42.2.1,j42.2.2.1,j42.2.2.2.1,j42.2.2.2.2.1,j42.2.2.2.2.2.2.1,j42.2.2.2.2.2.2.2.1,(IntKind.wrap .i64 (j42.2.2.2.2.2.2.2.2.1 + 1)),()) w50)) fun J40=>
      Br x39
       (LoadT (.agg [.int .i64,.int .i64,.sl,.sl]) w36 l34.1 fun x43=>
       LoadT (.agg [.int .i64,.int .i64,.sl,.sl]) w36 l34.2.1 fun x44=>
       LoadT (.agg [.sl,.int .i64,.int .i64,.str]) w36 l34.2.2.1 fun x45=>
       LoadT (.agg [.sl,.int .i64,.int .i64,.str]) w36 l34.2.2.2.1 fun x46=>
       CallT Tryd.prog 74 #[(.agg #[(.int .i64 x43.1),(.int .i64 x43.2.1),(.slice x43.2.2.1.a x43.2.2.1.n x43.2.2.1.c),(.slice x43.2.2.2.1.a x43.2.2.2.1.n x43.2.2.2.1.c)]),(.agg #[(.int .i64 x44.1),(.int .i64 x44.2.1),(.slice x44.2.2.1.a x44.2.2.1.n x44.2.2.1.c),(.slice x44.2.2.2.1.a x44.2.2.2.1.n x44.2.2.2.1.c)]),(.agg #[(.slice x45.1.a x45.1.n x45.1.c),(.int .i64 x45.2.1),(.int .i64 x45.2.2.1),(.string x45.2.2.2.1)]),(.agg #[(.slice x46.1.a x46.1.n x46.1.c),(.int .i64 x46.2.1),(.int .i64 x46.2.2.1),(.string x46.2.2.2.1)]),(.int .i64 l34.2.2.2.2.2.2.2.1)] (.sc .bool) w36 (fun r47 w48=>
        J40 (l34.1,l34.2.1,l34.2.2.1,l34.2.2.2.1,l34.2.2.2.2.1,l34.2.2.2.2.2.2.2.1,l34.2.2.2.2.2.1,l34.2.2.2.2.2.2.1,l34.2.2.2.2.2.2.2.1,r47,()) w48) (fun h49 w48=>R (.panicked h49) w48))
       (J40 (l34.1,l34.2.1,l34.2.2.1,l34.2.2.2.1,l34.2.2.2.2.1,l34.2.2.2.2.2.2.2.1,l34.2.2.2.2.2.1,l34.2.2.2.2.2.2.1,l34.2.2.2.2.2.2.2.1,false,()) w36))
     (R (.returned (.tuple #[(.string (ByteArray.mk #[])),(.bool false),(.int .i64 0)])) w36)) (fun h32 w31=>R (.panicked h32) w31))
theorem cjTail_ok {w W:World} (hl:Laid w) {x1 x2 y1 y2:Int} {sa sn ta tn:Sl} {a b:Aut} (ha:AutIn w (x1,x2,sa,sn,()) a) (hb:AutIn w (y1,y2,ta,tn,()) b) {k:Int} (hz:examF k [a,b] [] = 0) (hc:a.check k = 0) (hd:b.check k = 0) (hk:1 ≤ k ∧ k ≤ 8)
  {b1 b3 bA bB:Nat} (hW:Chg Nil w W) (h1:W.heap[b1]? = some (.cells #[.int .i64 x1,.int .i64 x2,sa.v,sn.v] 27 (0,0))) (h3:W.heap[b3]? = some (.cells #[.int .i64 y1,.int .i64 y2,ta.v,tn.v] 27 (0,0)))
  {rA rB:Sl × Int × Int × ByteArray × Unit} {ca cb:Co} (hA:W.heap[bA]? = some (.cells #[rA.1.v,.int .i64 rA.2.1,.int .i64 rA.2.2.1,.string rA.2.2.2.1] 115 (0,0))) (hB:W.heap[bB]? = some (.cells #[rB.1.v,.int .i64 rB.2.1,.int .i64 rB.2.2.1,.string rB.2.2.2.1] 115 (0,0)))
  (ia:CoIn W rA ca) (ib:CoIn W rB cb) (ea:coreF a.next.length a.next (core0 a.next) = some ca) (eb:coreF b.next.length b.next (core0 b.next) = some cb)
  {R:Ending → World → Prop} (hR:∀ (y:ByteArray × Bool × Int × Unit) (W':World),ConjrIs k a b y → Chg Nil w W' → R (.returned (.tuple #[.string y.1,.bool y.2.1,.int .i64 y.2.2.1])) W'):cjTail b1 b3 bA bB R W:=by
 obtain ⟨_,ea',la1,la2,la3,la4⟩:=core_of hc hk
 rw [ea] at ea'; cases ea'
 obtain ⟨_,eb',lb1,lb2,lb3,lb4⟩:=core_of hd hk
 rw [eb] at eb'; cases eb'
 obtain ⟨_,_,n1,n2,_⟩:=check_spec hc
 obtain ⟨_,_,m1,m2,_⟩:=check_spec hd
 have bA':ca.base < a.next.length:=by have:=(List.getElem?_eq_some_iff.1 la2).1; omega
 unfold cjTail
 have sA:rA.2.1 = ca.size:=ia.size
 have sB:rB.2.1 = cb.size:=ib.size
 have no:∀ W',Chg Nil W W' → (ca.size = cb.size → ∀ s,cb.inn[s]? = some true → alB a b ca cb s = false) → R (.returned (.tuple #[.string ⟨#[]⟩,.bool false,.int .i64 0])) W':=fun W' h h2=>
  hR (⟨#[]⟩,false,0,()) W' (.inr ⟨hz,ca,cb,ea,eb,.inl ⟨rfl,h2⟩⟩) (hW.then h)
 refine LoadT.sc (s:=.int .i64) (x:=ca.size) (by rw [cellOf hA,← sA]; rfl) ?_
 refine LoadT.sc (s:=.int .i64) (x:=cb.size) (by rw [cellOf hB,← sB]; rfl) ?_
 refine Br.mk (fun hne=>?_) (fun heq=>?_)
 ·have hne:ca.size ≠ cb.size:=by simpa using hne
  exact no _ (Chg.refl _) fun h=>absurd h hne
 have heq:ca.size = cb.size:=by simpa using heq
 refine LoadT.mk tA (x:=(y1,y2,ta,tn,())) (fun j v hv=>by rw [show Addr.mk b3 0 none = at0 b3 from rfl,show at0 b3 = Addr.mk b3 0 none from rfl,cellOf h3]; simpa [Ty.cells] using hv) ?_
 refine Ret.call (grown_ret (hl.nil hW) (x:=(y1,y2,ta,tn,())) (hb.nil hW) hd hk) ?_
 rintro ⟨sp,om,sb,_⟩ W5 ⟨gg,mb,e1,e2,hc5,hpaths,_,_,_,hok,_,_,_⟩
 dsimp only at e1 e2 hpaths
 refine LoadT.sc (s:=.sl) (x:=rB.1) (by rw [cellOf (hc5.heap hB fun h=>h)]; rfl) ?_
 have hrn:rB.1.n = b.next.length:=by rw [ib.inn.len,lb1]
 refine LoopT.mk (fun z V=>∃ i:Nat,i ≤ b.next.length ∧ z = (at0 b1,at0 b3,at0 bA,at0 bB,sp,rB.1,((rB.1.n:Nat):Int),(i:Int),()) ∧ Chg Nil W5 V ∧ ∀ s,s < i → cb.inn[s]? = some true → alB a b ca cb s = false) (fun z _=>b.next.length - z.2.2.2.2.2.2.2.1.toNat)
  ⟨0,Nat.zero_le _,rfl,Chg.refl _,fun s hs=>by omega⟩ ?_
 rintro z g V ⟨i,hi,rfl,hV,hno⟩
 dsimp only
 have hWV:=hc5.then hV
 have hwV:=hW.then hWV
 refine Br.dec (fun hlt=>?_) (fun hge=>?_)
 rotate_left
 ·have hge:¬ (i:Int) < ((rB.1.n:Nat):Int):=hge
  exact no _ hWV fun _ s hs=>hno s (by have:=(List.getElem?_eq_some_iff.1 hs).1; omega) hs
 have hlt:(i:Int) < ((rB.1.n:Nat):Int):=hlt
 have hil:i < b.next.length:=by omega
 obtain ⟨bv,hbv⟩:∃ e,cb.inn[i]? = some e:=⟨_,List.getElem?_eq_getElem (by omega)⟩
 refine (ib.inn.rd.chg hWV fun _ _ h=>h).get (t:=.sc .bool) i rfl hbv ?_
 have hal:=alB_spec (a:=a) (b:=b) la1 lb1 bA' hil
 refine Join.by' (fun z U=>∃ r:Bool,z = (at0 b1,at0 b3,at0 bA,at0 bB,sp,(i:Int),rB.1,((rB.1.n:Nat):Int),(i:Int),r,()) ∧ Chg Nil V U ∧ (r = true → bv = true ∧ alB a b ca cb i = true) ∧ (r = false → bv = true → alB a b ca cb i = false)) ?_ ?_
 rotate_left
 ·intro J hJ
  refine Br.mk (fun hb1=>?_) (fun hb0=>?_)
  ·refine LoadT.mk tA (x:=(x1,x2,sa,sn,())) (fun j v hv=>by rw [show at0 b1 = Addr.mk b1 0 none from rfl,cellOf (hWV.heap h1 fun h=>h)]; simpa [Ty.cells] using hv) ?_
   refine LoadT.mk tA (x:=(y1,y2,ta,tn,())) (fun j v hv=>by rw [show at0 b3 = Addr.mk b3 0 none from rfl,cellOf (hWV.heap h3 fun h=>h)]; simpa [Ty.cells] using hv) ?_
   refine LoadT.mk tC (x:=rA) (fun j v hv=>by rw [show at0 bA = Addr.mk bA 0 none from rfl,cellOf (hWV.heap hA fun h=>h)]; simpa [Ty.cells] using hv) ?_
   refine LoadT.mk tC (x:=rB) (fun j v hv=>by rw [show at0 bB = Addr.mk bB 0 none from rfl,cellOf (hWV.heap hB fun h=>h)]; simpa [Ty.cells] using hv) ?_
   refine Ret.call (alike_ret (x:=(x1,x2,sa,sn,())) (y:=(y1,y2,ta,tn,())) (ha.nil hwV) (hb.nil hwV) hc hd hk (ia.nil hWV) (ib.nil hWV) la1 lb1 bA' hil hal) ?_
   rintro r U ⟨rfl,hU⟩
   exact hJ _ _ ⟨_,rfl,hU,fun h=>⟨hb1,h⟩,fun h _=>h⟩
  ·exact hJ _ _ ⟨false,rfl,Chg.refl _,(fun h=>by cases h),fun _ h=>by rw [hb0] at h; cases h⟩
 rintro z U g2 ⟨r,rfl,hU,ht,hf⟩
 dsimp only
 have hwU:=hwV.then hU
 refine Br.mk (fun hr=>?_) (fun hr=>?_)
 ·obtain ⟨hb1,hal1⟩:=ht hr
  rw [hb1] at hbv
  have hd2:Chg Nil U U.drew:=Chg.drew U
  have hWU:=hWV.then hU
  refine ⟨fun X=>Chg Nil U X,hd2,?_⟩
  have hpl:(treeF b.next).paths.length = b.next.length:=hok.len
  obtain ⟨ps,hps⟩:∃ e,(treeF b.next).paths[i]? = some e:=⟨_,List.getElem?_eq_getElem (by omega)⟩
  have hps':(treeF b.next).paths.getD i ⟨#[]⟩ = ps:=by rw [List.getD_eq_getElem?_getD,hps]; rfl
  have hsm:=hok.small ps (List.mem_of_getElem? hps)
  have hsn:=hok.seen
  have hstem:rA.2.2.2.1 = ca.stem:=ia.stem
  refine (hpaths.rd.chg (hV.then hU) fun _ _ h=>h).idx (t:=tS) i rfl hps fun ad had=>?_
  have had0:=had 0 _ rfl
  rw [add0] at had0
  refine LoadS.sc (s:=.str) (x:=ps) (fun X hX=>hX.cell had0 fun h=>h) ?_
  refine LoadS.sc (s:=.str) (x:=ca.stem) (fun X hX=>by rw [show at0 bA = Addr.mk bA 0 none from rfl,cellOf ((hWU.then hX).heap hA fun h=>h),← hstem]; rfl) ?_
  refine Ret.call (Inverse_ret (hl.nil (hwU.then hd2)) ca.stem) ?_
  rintro _ U1 ⟨rfl,hU1⟩
  have d1:=hd2.then hU1
  have his:=inverse_size ca.stem
  refine ⟨d1,by omega,?_⟩
  refine Ret.call (Reduce_ret (hl.nil (hwU.then d1)) (ps ++ InverseF ca.stem)) ?_
  rintro _ U2 ⟨rfl,hU2⟩
  have d2:=d1.then hU2
  refine ⟨d2,?_⟩
  rw [← hps']
  exact hR (ReduceF ((treeF b.next).paths.getD i ⟨#[]⟩ ++ InverseF ca.stem),true,0,()) U2 (.inr ⟨hz,ca,cb,ea,eb,.inr ⟨i,heq,hbv,hal1,rfl⟩⟩) (hwU.then d2)
 ·refine ⟨⟨i + 1,by omega,by rw [wrap64 (by omega) (by omega)]; rfl,hV.then hU,fun s hs hin=>?_⟩,?_⟩
  ·by_cases he:s = i
   ·subst he
    rw [hbv] at hin; cases hin
    exact hf hr rfl
   ·exact hno s (by omega) hin
  ·show b.next.length - (IntKind.wrap .i64 ((i:Int) + 1)).toNat < b.next.length - ((i:Int)).toNat
   rw [wrap64 (by omega) (by omega)]; omega
theorem Conjugator_ret {w:World} (hl:Laid w) {k:Int} {x y:Int × Int × Sl × Sl × Unit} {a b:Aut} (ha:AutIn w x a) (hb:AutIn w y b) :
  RetN Tryd.prog 39 #[.int .i64 k,.agg #[.int .i64 x.1,.int .i64 x.2.1,x.2.2.1.v,x.2.2.2.1.v],.agg #[.int .i64 y.1,.int .i64 y.2.1,y.2.2.1.v,y.2.2.2.1.v]] [.sc .str,.sc .bool,.sc (.int .i64)] w fun z w'=>ConjrIs k a b z ∧ Chg Nil w w':=by
 obtain ⟨x1,x2,sa,sn,_⟩:=x
 obtain ⟨y1,y2,ta,tn,_⟩:=y
 refine fold_Conjugator.calls k x1 x2 sa sn y1 y2 ta tn ?_
 unfold fold_Conjugator.sh
 refine New.mk fun b1 w1 hb1 hh1 hs1 hc1=>?_
 refine New.mk fun b3 w2 hb3 hh3 hs3 hc3=>?_
 have h1:w2.heap[b1]? = some _:=hc3.heap hh1 fun h=>h
 have hc02:=hc1.then hc3
 refine LoadT.mk tA (x:=(x1,x2,sa,sn,())) (fun j v hv=>by rw [cellOf h1]; simpa [Ty.cells] using hv) ?_
 refine LoadT.mk tA (x:=(y1,y2,ta,tn,())) (fun j v hv=>by rw [cellOf hh3]; simpa [Ty.cells] using hv) ?_
 refine New.mk fun b7 w4 hb7 hh7 hs7 hc7=>?_
 have hc04:=hc02.then hc7
 refine Ret.call (exam_ret (sl:=⟨some ⟨b7,0,none⟩,2,2⟩) (sw:=⟨none,0,0⟩) (xs:=[(x1,x2,sa,sn,()),(y1,y2,ta,tn,())]) (ats:=[a,b]) (ws:=[]) (hl.nil hc04) (rd_lit hh7 rfl rfl) rfl (fun i z c hz hc=>by
  match i,hz,hc with
  | 0,hz,hc=>simp at hz hc; subst hz; subst hc; exact ha.nil hc04
  | 1,hz,hc=>simp at hz hc; subst hz; subst hc; exact hb.nil hc04
  | i + 2,hz,hc=>simp at hz) (RdT.nil _ _ _ _) (by simp) (by simp)) ?_
 rintro _ w10 ⟨rfl,hc10⟩
 have hc010:=hc04.then hc10
 have d210:=hc7.then hc10
 refine Br.mk (fun hne=>?_) (fun heq=>?_)
 ·have hne:examF k [a,b] [] ≠ 0:=by simpa using hne
  exact ⟨(⟨#[]⟩,false,examF k [a,b] [],()),rfl,.inl ⟨hne,rfl⟩,hc010⟩
 ·have hz:examF k [a,b] [] = 0:=by simpa using heq
  have hk:=exam_rank hz
  obtain ⟨hca,hcb⟩:=(exam_two hk).1 hz
  obtain ⟨ca,ea,la1,la2,la3,la4⟩:=core_of hca hk
  obtain ⟨cb,eb,lb1,lb2,lb3,lb4⟩:=core_of hcb hk
  obtain ⟨_,_,n1,n2,_⟩:=check_spec hca
  obtain ⟨_,_,m1,m2,_⟩:=check_spec hcb
  have q1:∀ {W:World},Chg Nil w10 W → W.heap[b1]? = some _:=fun hW=>(d210.then hW).heap h1 fun h=>h
  have q3:∀ {W:World},Chg Nil w10 W → W.heap[b3]? = some _:=fun hW=>(d210.then hW).heap hh3 fun h=>h
  have cA:∀ {W:World},Chg Nil w10 W → ∀ {K:tC.den → World → Prop} {Kp:List PanicEntry → World → Prop},(∀ r W',CoIn W' r ca → Chg Nil W W' → K r W') → CallT Tryd.prog 73 #[.agg #[.int .i64 x1,.int .i64 x2,sa.v,sn.v]] tC W K Kp:=fun hW K Kp kk=>
   Ret.call (cored_ret (x:=(x1,x2,sa,sn,())) (hl.nil (hc010.then hW)) (ha.nil (hc010.then hW)) hca hk (by omega) ea) fun r W' ⟨e1,e2⟩=>kk r W' e1 e2
  have cB:∀ {W:World},Chg Nil w10 W → ∀ {K:tC.den → World → Prop} {Kp:List PanicEntry → World → Prop},(∀ r W',CoIn W' r cb → Chg Nil W W' → K r W') → CallT Tryd.prog 73 #[.agg #[.int .i64 y1,.int .i64 y2,ta.v,tn.v]] tC W K Kp:=fun hW K Kp kk=>
   Ret.call (cored_ret (x:=(y1,y2,ta,tn,())) (hl.nil (hc010.then hW)) (hb.nil (hc010.then hW)) hcb hk (by omega) eb) fun r W' ⟨e1,e2⟩=>kk r W' e1 e2
  have keep:∀ {W W':World} {b:Nat} {r:Sl × Int × Int × ByteArray × Unit} {c:Co} {cs:Array Value},CoIn W r c → W.heap[b]? = some (.cells cs 115 (0,0)) → Chg (· = b) W W' → CoIn W' r c:=fun {W W' b r c cs} h hb hc=>
   ⟨h.inn.chg hc fun ad had hq=>by
    obtain ⟨cur,hcur⟩:=h.inn.elem ⟨ad,had,rfl⟩
    exact ne_of_elem hcur hb (by decide) hq,h.size,h.base,h.stem⟩
  have ch:∀ {W W':World} {b:Nat},Chg Nil w10 W → Chg (· = b) W W' → w10.heap.size ≤ b → Chg Nil w10 W':=fun hW hc hb=>hW.trans hc (fun _ _ h=>h) fun q hq hk=>by have hk:q = _:=hk; omega
  have fin:∀ {W:World} {bA bB:Nat} {rA rB:Sl × Int × Int × ByteArray × Unit},Chg Nil w10 W → W.heap[bA]? = some (.cells #[.slice none 0 0,.int .i64 0,.int .i64 0,.string ⟨#[]⟩] 115 (0,0)) → W.heap[bB]? = some (.cells #[.slice none 0 0,.int .i64 0,.int .i64 0,.string ⟨#[]⟩] 115 (0,0)) →
    bA ≠ bB → w10.heap.size ≤ bA → w10.heap.size ≤ bB → CoIn W rA ca → CoIn W rB cb →
    StoreN W (Addr.mk bA 0 none) [.slice rA.1.a rA.1.n rA.1.c,.int .i64 rA.2.1,.int .i64 rA.2.2.1,.string rA.2.2.2.1] fun W2=>Chg Nil w10 W2 ∧ StoreN W2 (Addr.mk bB 0 none) [.slice rB.1.a rB.1.n rB.1.c,.int .i64 rB.2.1,.int .i64 rB.2.2.1,.string rB.2.2.2.1] fun W3=>
     cjTail b1 b3 bA bB (fun e w'=>∃ z,e = .returned (.tuple (tvals [.sc .str,.sc .bool,.sc (.int .i64)] z).toArray) ∧ ConjrIs k a b z ∧ Chg Nil w w') W3:=fun {W bA bB rA rB} dW hA hB hne gA gB rA' rB'=>by
   refine StoreN.whole (vs:=[.slice rA.1.a rA.1.n rA.1.c,.int .i64 rA.2.1,.int .i64 rA.2.2.1,.string rA.2.2.2.1]) hA rfl fun W2 f2 c2 _=>?_
   have d2:=ch dW c2 gA
   refine ⟨d2,?_⟩
   have hB2:=c2.heap hB fun h=>hne h.symm
   refine StoreN.whole (vs:=[.slice rB.1.a rB.1.n rB.1.c,.int .i64 rB.2.1,.int .i64 rB.2.2.1,.string rB.2.2.2.1]) hB2 rfl fun W3 f3 c3 _=>?_
   have d3:=ch d2 c3 gB
   exact cjTail_ok (rA:=rA) (rB:=rB) hl ha hb hz hca hcb hk (hc010.then d3) (q1 d3) (q3 d3) (c3.heap f2 fun h=>hne h) f3 (keep (keep rA' hA c2) hB2 c3) (keep (keep rB' hA c2) hB2 c3) ea eb fun z W' e1 e2=>⟨z,rfl,e1,e2⟩
  have d0:Chg Nil w10 w10.drew:=Chg.drew w10
  have s0:w10.drew.heap.size = w10.heap.size:=rfl
  refine ⟨fun X=>Chg Nil w10 X,d0,?_⟩
  refine LoadS.mk tA (x:=(x1,x2,sa,sn,())) (fun X hX j v hv=>by rw [cellOf (q1 hX)]; simpa [Ty.cells] using hv) ?_
  refine LoadS.mk tA (x:=(y1,y2,ta,tn,())) (fun X hX j v hv=>by rw [cellOf (q3 hX)]; simpa [Ty.cells] using hv) ?_
  refine ⟨?_,?_,?_⟩
  ·refine cA d0 fun rA W1 rA_1 c1=>?_
   have d1:=Chg.then d0 c1
   have s1:=c1.size
   refine ⟨d1,?_⟩
   refine ⟨?_,?_,?_⟩
   ·refine cB d1 fun rB W2 rB_2 c2=>?_
    have d2:=Chg.then d1 c2
    have s2:=c2.size
    have rA_2:=rA_1.nil c2
    refine ⟨d2,?_⟩
    refine ⟨?_,?_⟩
    ·refine New.mk fun b3 W3 e3 hb3_3 z3 c3=>?_
     have d3:=Chg.then d2 c3
     have s3:=c3.size
     have rA_3:=rA_2.nil c3
     have rB_3:=rB_2.nil c3
     refine ⟨d3,?_⟩
     refine New.mk fun b4 W4 e4 hb4_4 z4 c4=>?_
     have d4:=Chg.then d3 c4
     have s4:=c4.size
     have hb3_4:=c4.heap hb3_3 fun h=>h
     have rA_4:=rA_3.nil c4
     have rB_4:=rB_3.nil c4
     refine ⟨d4,?_⟩
     exact fin d4 hb3_4 hb4_4 (by omega) (by omega) (by omega) rA_4 rB_4
    ·refine New.mk fun b5 W5 e5 hb5_5 z5 c5=>?_
     have d5:=Chg.then d2 c5
     have s5:=c5.size
     have rA_5:=rA_2.nil c5
     have rB_5:=rB_2.nil c5
     refine ⟨d5,?_⟩
     refine New.mk fun b6 W6 e6 hb6_6 z6 c6=>?_
     have d6:=Chg.then d5 c6
     have s6:=c6.size
     have hb5_6:=c6.heap hb5_5 fun h=>h
     have rA_6:=rA_5.nil c6
     have rB_6:=rB_5.nil c6
     refine ⟨d6,?_⟩
     exact fin d6 hb6_6 hb5_6 (by omega) (by omega) (by omega) rA_6 rB_6
   ·refine New.mk fun b7 W7 e7 hb7_7 z7 c7=>?_
    have d7:=Chg.then d1 c7
    have s7:=c7.size
    have rA_7:=rA_1.nil c7
    refine ⟨d7,?_⟩
    refine ⟨?_,?_⟩
    ·refine cB d7 fun rB W8 rB_8 c8=>?_
     have d8:=Chg.then d7 c8
     have s8:=c8.size
     have hb7_8:=c8.heap hb7_7 fun h=>h
     have rA_8:=rA_7.nil c8
     refine ⟨d8,?_⟩
     refine New.mk fun b9 W9 e9 hb9_9 z9 c9=>?_
     have d9:=Chg.then d8 c9
     have s9:=c9.size
     have hb7_9:=c9.heap hb7_8 fun h=>h
     have rA_9:=rA_8.nil c9
     have rB_9:=rB_8.nil c9
     refine ⟨d9,?_⟩
     exact fin d9 hb7_9 hb9_9 (by omega) (by omega) (by omega) rA_9 rB_9
    ·refine New.mk fun b10 W10 e10 hb10_10 z10 c10=>?_
     have d10:=Chg.then d7 c10
     have s10:=c10.size
     have hb7_10:=c10.heap hb7_7 fun h=>h
     have rA_10:=rA_7.nil c10
     refine ⟨d10,?_⟩
     refine cB d10 fun rB W11 rB_11 c11=>?_
     have d11:=Chg.then d10 c11
     have s11:=c11.size
     have hb7_11:=c11.heap hb7_10 fun h=>h
     have hb10_11:=c11.heap hb10_10 fun h=>h
     have rA_11:=rA_10.nil c11
     refine ⟨d11,?_⟩
     exact fin d11 hb7_11 hb10_11 (by omega) (by omega) (by omega) rA_11 rB_11
   ·refine New.mk fun b12 W12 e12 hb12_12 z12 c12=>?_
    have d12:=Chg.then d1 c12
    have s12:=c12.size
    have rA_12:=rA_1.nil c12
    refine ⟨d12,?_⟩
    refine ⟨?_,?_⟩
    ·refine cB d12 fun rB W13 rB_13 c13=>?_
     have d13:=Chg.then d12 c13
     have s13:=c13.size
     have hb12_13:=c13.heap hb12_12 fun h=>h
     have rA_13:=rA_12.nil c13
     refine ⟨d13,?_⟩
     refine New.mk fun b14 W14 e14 hb14_14 z14 c14=>?_
     have d14:=Chg.then d13 c14
     have s14:=c14.size
     have hb12_14:=c14.heap hb12_13 fun h=>h
     have rA_14:=rA_13.nil c14
     have rB_14:=rB_13.nil c14
     refine ⟨d14,?_⟩
     exact fin d14 hb14_14 hb12_14 (by omega) (by omega) (by omega) rA_14 rB_14
    ·refine New.mk fun b15 W15 e15 hb15_15 z15 c15=>?_
     have d15:=Chg.then d12 c15
     have s15:=c15.size
     have hb12_15:=c15.heap hb12_12 fun h=>h
     have rA_15:=rA_12.nil c15
     refine ⟨d15,?_⟩
     refine cB d15 fun rB W16 rB_16 c16=>?_
     have d16:=Chg.then d15 c16
     have s16:=c16.size
     have hb12_16:=c16.heap hb12_15 fun h=>h
     have hb15_16:=c16.heap hb15_15 fun h=>h
     have rA_16:=rA_15.nil c16
     refine ⟨d16,?_⟩
     exact fin d16 hb15_16 hb12_16 (by omega) (by omega) (by omega) rA_16 rB_16
  ·refine New.mk fun b17 W17 e17 hb17_17 z17 c17=>?_
   have d17:=Chg.then d0 c17
   have s17:=c17.size
   refine ⟨d17,?_⟩
   refine ⟨?_,?_⟩
   ·refine cA d17 fun rA W18 rA_18 c18=>?_
    have d18:=Chg.then d17 c18
    have s18:=c18.size
    have hb17_18:=c18.heap hb17_17 fun h=>h
    refine ⟨d18,?_⟩
    refine ⟨?_,?_⟩
    ·refine cB d18 fun rB W19 rB_19 c19=>?_
     have d19:=Chg.then d18 c19
     have s19:=c19.size
     have hb17_19:=c19.heap hb17_18 fun h=>h
     have rA_19:=rA_18.nil c19
     refine ⟨d19,?_⟩
     refine New.mk fun b20 W20 e20 hb20_20 z20 c20=>?_
     have d20:=Chg.then d19 c20
     have s20:=c20.size
     have hb17_20:=c20.heap hb17_19 fun h=>h
     have rA_20:=rA_19.nil c20
     have rB_20:=rB_19.nil c20
     refine ⟨d20,?_⟩
     exact fin d20 hb17_20 hb20_20 (by omega) (by omega) (by omega) rA_20 rB_20
    ·refine New.mk fun b21 W21 e21 hb21_21 z21 c21=>?_
     have d21:=Chg.then d18 c21
     have s21:=c21.size
     have hb17_21:=c21.heap hb17_18 fun h=>h
     have rA_21:=rA_18.nil c21
     refine ⟨d21,?_⟩
     refine cB d21 fun rB W22 rB_22 c22=>?_
     have d22:=Chg.then d21 c22
     have s22:=c22.size
     have hb17_22:=c22.heap hb17_21 fun h=>h
     have hb21_22:=c22.heap hb21_21 fun h=>h
     have rA_22:=rA_21.nil c22
     refine ⟨d22,?_⟩
     exact fin d22 hb17_22 hb21_22 (by omega) (by omega) (by omega) rA_22 rB_22
   ·refine New.mk fun b23 W23 e23 hb23_23 z23 c23=>?_
    have d23:=Chg.then d17 c23
    have s23:=c23.size
    have hb17_23:=c23.heap hb17_17 fun h=>h
    refine ⟨d23,?_⟩
    refine cA d23 fun rA W24 rA_24 c24=>?_
    have d24:=Chg.then d23 c24
    have s24:=c24.size
    have hb17_24:=c24.heap hb17_23 fun h=>h
    have hb23_24:=c24.heap hb23_23 fun h=>h
    refine ⟨d24,?_⟩
    refine cB d24 fun rB W25 rB_25 c25=>?_
    have d25:=Chg.then d24 c25
    have s25:=c25.size
    have hb17_25:=c25.heap hb17_24 fun h=>h
    have hb23_25:=c25.heap hb23_24 fun h=>h
    have rA_25:=rA_24.nil c25
    refine ⟨d25,?_⟩
    exact fin d25 hb17_25 hb23_25 (by omega) (by omega) (by omega) rA_25 rB_25
  ·refine New.mk fun b26 W26 e26 hb26_26 z26 c26=>?_
   have d26:=Chg.then d0 c26
   have s26:=c26.size
   refine ⟨d26,?_⟩
   refine ⟨?_,?_⟩
   ·refine cA d26 fun rA W27 rA_27 c27=>?_
    have d27:=Chg.then d26 c27
    have s27:=c27.size
    have hb26_27:=c27.heap hb26_26 fun h=>h
    refine ⟨d27,?_⟩
    refine ⟨?_,?_⟩
    ·refine cB d27 fun rB W28 rB_28 c28=>?_
     have d28:=Chg.then d27 c28
     have s28:=c28.size
     have hb26_28:=c28.heap hb26_27 fun h=>h
     have rA_28:=rA_27.nil c28
     refine ⟨d28,?_⟩
     refine New.mk fun b29 W29 e29 hb29_29 z29 c29=>?_
     have d29:=Chg.then d28 c29
     have s29:=c29.size
     have hb26_29:=c29.heap hb26_28 fun h=>h
     have rA_29:=rA_28.nil c29
     have rB_29:=rB_28.nil c29
     refine ⟨d29,?_⟩
     exact fin d29 hb29_29 hb26_29 (by omega) (by omega) (by omega) rA_29 rB_29
    ·refine New.mk fun b30 W30 e30 hb30_30 z30 c30=>?_
     have d30:=Chg.then d27 c30
     have s30:=c30.size
     have hb26_30:=c30.heap hb26_27 fun h=>h
     have rA_30:=rA_27.nil c30
     refine ⟨d30,?_⟩
     refine cB d30 fun rB W31 rB_31 c31=>?_
     have d31:=Chg.then d30 c31
     have s31:=c31.size
     have hb26_31:=c31.heap hb26_30 fun h=>h
     have hb30_31:=c31.heap hb30_30 fun h=>h
     have rA_31:=rA_30.nil c31
     refine ⟨d31,?_⟩
     exact fin d31 hb30_31 hb26_31 (by omega) (by omega) (by omega) rA_31 rB_31
   ·refine New.mk fun b32 W32 e32 hb32_32 z32 c32=>?_
    have d32:=Chg.then d26 c32
    have s32:=c32.size
    have hb26_32:=c32.heap hb26_26 fun h=>h
    refine ⟨d32,?_⟩
    refine cA d32 fun rA W33 rA_33 c33=>?_
    have d33:=Chg.then d32 c33
    have s33:=c33.size
    have hb26_33:=c33.heap hb26_32 fun h=>h
    have hb32_33:=c33.heap hb32_32 fun h=>h
    refine ⟨d33,?_⟩
    refine cB d33 fun rB W34 rB_34 c34=>?_
    have d34:=Chg.then d33 c34
    have s34:=c34.size
    have hb26_34:=c34.heap hb26_33 fun h=>h
    have hb32_34:=c34.heap hb32_33 fun h=>h
    have rA_34:=rA_33.nil c34
    refine ⟨d34,?_⟩
    exact fin d34 hb32_34 hb26_34 (by omega) (by omega) (by omega) rA_34 rB_34
end Go.Proofs.YtffdjfkekdoeaaaDoor.Fo
end
section
set_option maxRecDepth 8000
set_option maxHeartbeats 4000000
namespace Go.Proofs.YtffdjfkekdoeaaaDoor.Fo
open Fw Wd Rf Pl
theorem equal_ret {w:World} {x y:Int × Int × Sl × Sl × Unit} {a:Aut} (ha:AutIn w x a) (hb:AutIn w y a) :
  Ret Tryd.prog 43 #[.agg #[.int .i64 x.1,.int .i64 x.2.1,x.2.2.1.v,x.2.2.2.1.v],.agg #[.int .i64 y.1,.int .i64 y.2.1,y.2.2.1.v,y.2.2.2.1.v]] (.sc .bool) w fun z w'=>z = true ∧ Chg Nil w w':=by
 obtain ⟨x1,x2,sa,sn,_⟩:=x
 obtain ⟨y1,y2,ta,tn,_⟩:=y
 have e1:x1 = a.sym:=ha.sym
 have e2:x2 = a.start:=ha.start
 have e3:y1 = a.sym:=hb.sym
 have e4:y2 = a.start:=hb.start
 have hma:a.acc.length ≤ 9223372036854775807:=ha.hacc
 have hmn:a.next.length ≤ 9223372036854775807:=ha.hnext
 refine cayleylaw21_equal.calls x1 x2 sa sn y1 y2 ta tn ?_
 unfold cayleylaw21_equal.sh
 refine New.mk fun b1 w1 hb1 hh1 hs1 hc1=>?_
 refine New.mk fun b3 w2 hb3 hh3 hs3 hc3=>?_
 have h12:=hc3.heap hh1 fun h=>h
 have hc02:=hc1.then hc3
 obtain ⟨hacc,_,_,sls,hsn,hsl,hrd,_⟩:=ha.rd
 obtain ⟨hacc',_,_,tls,htn,htl,hrd',_⟩:=hb.rd
 have hsn:RdT w tL sn sls:=hsn
 have htn:RdT w tL tn tls:=htn
 have na:sa.n = a.acc.length:=hacc.len
 have nb:ta.n = a.acc.length:=hacc'.len
 have nn:sn.n = a.next.length:=by rw [hsn.len,hsl]
 have nm:tn.n = a.next.length:=by rw [htn.len,htl]
 have lA:∀ {W:World},Chg Nil w2 W → ∀ {K:Sl → Prop} (j:Nat) (q:Sl),(#[Value.int .i64 x1,.int .i64 x2,sa.v,sn.v]:Array Value)[j]? = some q.v → K q → LoadT (.sc .sl) W ((at0 b1).add j) K:=fun {W} hW {K} j q hq kk=>
  LoadT.sc (s:=.sl) (x:=q) (by rw [show at0 b1 = Addr.mk b1 0 none from rfl,cellOf (hW.heap h12 fun h=>h)]; exact hq) kk
 have lB:∀ {W:World},Chg Nil w2 W → ∀ {K:Sl → Prop} (j:Nat) (q:Sl),(#[Value.int .i64 y1,.int .i64 y2,ta.v,tn.v]:Array Value)[j]? = some q.v → K q → LoadT (.sc .sl) W ((at0 b3).add j) K:=fun {W} hW {K} j q hq kk=>
  LoadT.sc (s:=.sl) (x:=q) (by rw [show at0 b3 = Addr.mk b3 0 none from rfl,cellOf (hW.heap hh3 fun h=>h)]; exact hq) kk
 refine Join.by' (fun z W=>z = (at0 b1,at0 b3,()) ∧ W = w2) ?_ ?_
 rotate_left
 ·intro J hJ
  refine LoadT.sc (s:=.int .i64) (x:=x1) (by rw [cellOf h12]; rfl) ?_
  refine LoadT.sc (s:=.int .i64) (x:=y1) (by rw [cellOf hh3]; rfl) ?_
  refine Br.f (by rw [e1,e3]; simp) ?_
  refine LoadT.sc (s:=.int .i64) (x:=x2) (by rw [cellOf h12]; rfl) ?_
  refine LoadT.sc (s:=.int .i64) (x:=y2) (by rw [cellOf hh3]; rfl) ?_
  refine Br.f (by rw [e2,e4]; simp) ?_
  refine lA (Chg.refl _) 2 sa rfl (lB (Chg.refl _) 2 ta rfl ?_)
  refine Br.f (by rw [na,nb]; simp) ?_
  refine lA (Chg.refl _) 3 sn rfl (lB (Chg.refl _) 3 tn rfl ?_)
  refine Br.f (by rw [nn,nm]; simp) ?_
  exact hJ _ _ ⟨rfl,rfl⟩
 rintro z W g ⟨rfl,hW⟩
 rw [hW]; clear hW
 dsimp only
 refine LoopT.mk (fun z W=>∃ i:Nat,i ≤ a.acc.length ∧ z = (at0 b1,at0 b3,(i:Int),()) ∧ Chg Nil w2 W) (fun z _=>a.acc.length - z.2.2.1.toNat) ⟨0,Nat.zero_le _,rfl,Chg.refl _⟩ ?_
 rintro z g W ⟨i,hi,rfl,hW⟩
 dsimp only
 refine lA hW 2 sa rfl ?_
 refine Br.dec (fun hlt=>?_) (fun hge=>?_)
 ·have hlt:(i:Int) < ((sa.n:Nat):Int):=hlt
  have hd:Chg Nil w2 W.drew:=hW.then (Chg.drew W)
  obtain ⟨v,hv⟩:∃ q,a.acc[i]? = some q:=⟨_,List.getElem?_eq_getElem (by omega)⟩
  refine lA hd 2 sa rfl ?_
  refine RdT.get (t:=.sc .bool) (hacc.chg (hc02.then hd) fun _ _ h=>h) i rfl hv ?_
  refine lB hd 2 ta rfl ?_
  refine RdT.get (t:=.sc .bool) (hacc'.chg (hc02.then hd) fun _ _ h=>h) i rfl hv ?_
  refine Br.f (by simp) ⟨⟨i + 1,by omega,by rw [wrap64 (by omega) (by omega)]; rfl,hd⟩,?_⟩
  show a.acc.length - (IntKind.wrap .i64 ((i:Int) + 1)).toNat < a.acc.length - ((i:Int)).toNat
  rw [wrap64 (by omega) (by omega)]; omega
 clear hge hi
 refine LoopT.mk (fun z W=>∃ i:Nat,i ≤ a.next.length ∧ z = (at0 b1,at0 b3,(i:Int),()) ∧ Chg Nil w2 W) (fun z _=>a.next.length - z.2.2.1.toNat) ⟨0,Nat.zero_le _,rfl,hW⟩ ?_
 clear hW i g
 rintro z g W ⟨i,hi,rfl,hW⟩
 dsimp only
 refine lA hW 3 sn rfl ?_
 refine Br.dec (fun hlt=>?_) (fun hge=>⟨true,rfl,rfl,hc02.then hW⟩)
 have hlt:(i:Int) < ((sn.n:Nat):Int):=hlt
 have hd:Chg Nil w2 W.drew:=hW.then (Chg.drew W)
 obtain ⟨row,hv⟩:∃ q,a.next[i]? = some q:=⟨_,List.getElem?_eq_getElem (by omega)⟩
 obtain ⟨s1,hs1'⟩:∃ q,sls[i]? = some q:=⟨_,List.getElem?_eq_getElem (by omega)⟩
 obtain ⟨s2,hs2'⟩:∃ q,tls[i]? = some q:=⟨_,List.getElem?_eq_getElem (by omega)⟩
 have hr1:=hrd i s1 row hs1' hv
 have hr2:=hrd' i s2 row hs2' hv
 have hmr:row.length ≤ 9223372036854775807:=ha.hrow row (List.mem_of_getElem? hv)
 have gA:∀ {W:World},Chg Nil w2 W → ∀ {K:Sl → Prop},K s1 → Idx sn.a sn.n 1 (i:Int) fun ad=>LoadT (.sc .sl) W ad K:=fun hW K kk=>RdT.get (t:=tL) (hsn.chg (hc02.then hW) fun _ _ h=>h) i rfl hs1' kk
 have gB:∀ {W:World},Chg Nil w2 W → ∀ {K:Sl → Prop},K s2 → Idx tn.a tn.n 1 (i:Int) fun ad=>LoadT (.sc .sl) W ad K:=fun hW K kk=>RdT.get (t:=tL) (htn.chg (hc02.then hW) fun _ _ h=>h) i rfl hs2' kk
 refine lA hd 3 sn rfl (gA hd (lB hd 3 tn rfl (gB hd ?_)))
 have n1:s1.n = row.length:=hr1.len
 have n2:s2.n = row.length:=hr2.len
 refine Br.f (by rw [n1,n2]; simp) ?_
 refine LoopT.mk (fun z W=>∃ j:Nat,j ≤ row.length ∧ z = (at0 b1,at0 b3,(i:Int),(j:Int),()) ∧ Chg Nil w2 W) (fun z _=>row.length - z.2.2.2.1.toNat) ⟨0,Nat.zero_le _,rfl,hd⟩ ?_
 rintro z g2 W2 ⟨j,hj,rfl,hW2⟩
 dsimp only
 refine lA hW2 3 sn rfl (gA hW2 ?_)
 refine Br.dec (fun hlt2=>?_) (fun hge=>?_)
 ·have hlt2:(j:Int) < ((s1.n:Nat):Int):=hlt2
  have hd2:Chg Nil w2 W2.drew:=hW2.then (Chg.drew W2)
  obtain ⟨v,hv2⟩:∃ q,row[j]? = some q:=⟨_,List.getElem?_eq_getElem (by omega)⟩
  refine lA hd2 3 sn rfl (gA hd2 ?_)
  refine RdT.get (t:=tI) (hr1.chg (hc02.then hd2) fun _ _ h=>h) j rfl hv2 ?_
  refine lB hd2 3 tn rfl (gB hd2 ?_)
  refine RdT.get (t:=tI) (hr2.chg (hc02.then hd2) fun _ _ h=>h) j rfl hv2 ?_
  refine Br.f (by simp) ⟨⟨j + 1,by omega,by rw [wrap64 (by omega) (by omega)]; rfl,hd2⟩,?_⟩
  show row.length - (IntKind.wrap .i64 ((j:Int) + 1)).toNat < row.length - ((j:Int)).toNat
  rw [wrap64 (by omega) (by omega)]; omega
 ·refine ⟨⟨i + 1,by omega,by rw [wrap64 (by omega) (by omega)]; rfl,hW2⟩,?_⟩
  show a.next.length - (IntKind.wrap .i64 ((i:Int) + 1)).toNat < a.next.length - ((i:Int)).toNat
  rw [wrap64 (by omega) (by omega)]; omega
end Go.Proofs.YtffdjfkekdoeaaaDoor.Fo
end
section
set_option maxRecDepth 4000
set_option maxHeartbeats 2000000
namespace Go.Proofs.YtffdjfkekdoeaaaDoor.Pl
open Fo Rf Wd
structure FoldL (k:Nat) (L:List Nat → Prop) (o:Option (List Row)):Prop where
 ok:∃ δ v,FoldedD k δ v o ∧ ∀ l,Rd l → (Lg δ v l ↔ L l)
def conjD (u:List Nat) (δ:Nat → Nat → Nat → Prop) (p x q:Nat):Prop:=
 (u[p]? = some x ∧ q = p + 1) ∨ (∃ y,u[q]? = some y ∧ x = y ^^^ 1 ∧ p = q + 1) ∨ (u.length ≤ p ∧ u.length ≤ q ∧ δ (p - u.length) x (q - u.length))
theorem take_at {u:List Nat} {i x:Nat} (h:u[i]? = some x):u.take (i + 1) = u.take i ++ [x]:=by rw [List.take_add_one,h]; rfl
theorem conj_lang {u:List Nat} {δ:Nat → Nat → Nat → Prop} (hb:∀ s x t,δ s x t → δ t (x ^^^ 1) s) (l:List Nat):Lg (conjD u δ) 0 l ↔ ∃ h,Run δ 0 h 0 ∧ Same (u ++ h ++ inv u) l:=by
 have pre:∀ i,i ≤ u.length → Run (conjD u δ) 0 (u.take i) i:=fun i=>by
  induction i with
  | zero=>intro _; rw [List.take_zero]; exact .nil 0
  | succ i ih=>
   intro hi
   have hx:u[i]? = some u[i]:=List.getElem?_eq_getElem (by omega)
   rw [take_at hx]
   exact (ih (by omega)).app (.one (.inl ⟨hx,rfl⟩))
 have back:∀ p x q,conjD u δ p x q → conjD u δ q (x ^^^ 1) p:=fun p x q h=>by
  rcases h with ⟨h1,rfl⟩ | ⟨y,h1,rfl,rfl⟩ | ⟨h1,h2,h3⟩
  ·exact .inr (.inl ⟨x,h1,rfl,rfl⟩)
  ·exact .inl ⟨by rw [xor_two]; exact h1,rfl⟩
  ·exact .inr (.inr ⟨h2,h1,hb _ _ _ h3⟩)
 constructor
 ·rintro ⟨p,hp,hs⟩
  -- what is read up to a vertex
  let P:Nat → List Nat → Prop:=fun v p=>(v < u.length → ∃ h,Run δ 0 h 0 ∧ Same p (u ++ h ++ inv u ++ u.take v)) ∧ (u.length ≤ v → ∃ h,Run δ 0 h (v - u.length) ∧ Same p (u ++ h))
  have step:∀ {v x q:Nat} {p:List Nat},P v p → conjD u δ v x q → P q (p ++ [x]):=by
   intro v x q p hP hd
   rcases hd with ⟨h1,rfl⟩ | ⟨y,h1,rfl,rfl⟩ | ⟨h1,h2,h3⟩
   ·have hlt:=(List.getElem?_eq_some_iff.1 h1).1
    obtain ⟨h,h4,h5⟩:=hP.1 hlt
    refine ⟨fun h6=>⟨h,h4,?_⟩,fun h6=>⟨h,?_,?_⟩⟩
    ·rw [take_at h1,← List.append_assoc]
     exact h5.app (Same.refl _)
    ·have:v + 1 - u.length = 0:=by omega
     rw [this]; exact h4
    ·have e:u.take v ++ [x] = u:=by rw [← take_at h1]; exact List.take_of_length_le (by omega)
     have:=h5.app (Same.refl [x])
     rw [List.append_assoc _ (u.take v) [x],e] at this
     refine this.trans ?_
     have e2:u ++ h ++ inv u ++ u = u ++ h ++ (inv u ++ u) ++ []:=by simp
     rw [e2]
     have:=same_mid (a:=u ++ h) (same_inv' u) []
     simpa using this
   ·have hlt:=(List.getElem?_eq_some_iff.1 h1).1
    have he:=take_at h1
    refine ⟨fun h6=>?_,fun h6=>by omega⟩
    by_cases hq:q + 1 < u.length
    ·obtain ⟨h,h4,h5⟩:=hP.1 hq
     refine ⟨h,h4,?_⟩
     have:=h5.app (Same.refl [y ^^^ 1])
     rw [he] at this
     refine this.trans ?_
     have e:u ++ h ++ inv u ++ (u.take q ++ [y]) ++ [y ^^^ 1] = (u ++ h ++ inv u ++ u.take q) ++ [y,y ^^^ 1] ++ []:=by simp
     rw [e]
     have:=same_mid (a:=u ++ h ++ inv u ++ u.take q) (same_pair y) []
     simpa using this
    ·obtain ⟨h,h4,h5⟩:=hP.2 (by omega)
     have e0:q + 1 - u.length = 0:=by omega
     rw [e0] at h4
     refine ⟨h,h4,(h5.app (Same.refl [y ^^^ 1])).trans ?_⟩
     have eu:u = u.take q ++ [y]:=by rw [← he]; exact (List.take_of_length_le (by omega)).symm
     have ei:inv u = [y ^^^ 1] ++ inv (u.take q):=by
      conv=>lhs; rw [eu]
      rw [inv_app]; rfl
     have e:u ++ h ++ inv u ++ u.take q = (u ++ h ++ [y ^^^ 1]) ++ (inv (u.take q) ++ u.take q) ++ []:=by rw [ei]; simp
     rw [e]
     have:=(same_mid (a:=u ++ h ++ [y ^^^ 1]) (same_inv' (u.take q)) []).symm
     simpa using this
   ·obtain ⟨h,h4,h5⟩:=hP.2 h1
    refine ⟨fun h6=>by omega,fun _=>⟨h ++ [x],h4.app (.one h3),?_⟩⟩
    rw [← List.append_assoc]
    exact h5.app (Same.refl _)
  have run:∀ {v q:Nat} {p r:List Nat},P v p → Run (conjD u δ) v r q → P q (p ++ r):=by
   intro v q p r hP hr
   induction hr generalizing p with
   | nil s=>rw [List.append_nil]; exact hP
   | @cons s x w t l h1 _ ih=>
    have:=ih (step hP h1)
    rwa [List.append_assoc,List.singleton_append] at this
  have h0:P 0 []:=⟨fun _=>⟨[],.nil 0,by
    rw [List.append_nil,List.take_zero,List.append_nil]; exact (same_inv u).symm⟩,fun hz=>⟨[],by rw [Nat.zero_sub]; exact .nil 0,by
    have:u = []:=List.length_eq_zero_iff.1 (by omega)
    subst this; exact Same.refl _⟩⟩
  have hf:=run h0 hp
  rw [List.nil_append] at hf
  by_cases hz:0 < u.length
  ·obtain ⟨h,h1,h2⟩:=hf.1 hz
   rw [List.take_zero,List.append_nil] at h2
   exact ⟨h,h1,h2.symm.trans hs⟩
  ·obtain ⟨h,h1,h2⟩:=hf.2 (by omega)
   have:u = []:=List.length_eq_zero_iff.1 (by omega)
   subst this
   refine ⟨h,by simpa using h1,?_⟩
   have e:inv ([]:List Nat) = []:=rfl
   rw [e,List.append_nil]
   exact h2.symm.trans hs
 ·rintro ⟨h,h1,h2⟩
  have hpu:=pre u.length (Nat.le_refl _)
  rw [List.take_length] at hpu
  have hm:Run (conjD u δ) u.length h u.length:=by
   have:=h1.mono (f:=fun v=>u.length + v) (ε:=conjD u δ) (fun s x t hd=>.inr (.inr ⟨by omega,by omega,by
    rw [Nat.add_sub_cancel_left,Nat.add_sub_cancel_left]; exact hd⟩))
   simpa using this
  exact ⟨u ++ h ++ inv u,(hpu.app hm).app (hpu.rev back),h2⟩
def pv (n s t len i:Nat):Nat:=if i = 0 then s else if i < len then n + (i - 1) else t
theorem pathE_iff:∀ (w:List Nat) (n s t p y q:Nat),(p,y,q) ∈ pathE n s w t ↔ ∃ i x,w[i]? = some x ∧ ((p = pv n s t w.length i ∧ y = x ∧ q = pv n s t w.length (i + 1)) ∨ (p = pv n s t w.length (i + 1) ∧ y = x ^^^ 1 ∧ q = pv n s t w.length i))
 | [],n,s,t,p,y,q=>by simp [pathE]
 | [x],n,s,t,p,y,q=>by
  simp only [pathE,List.mem_cons,List.not_mem_nil,or_false,Prod.mk.injEq]
  constructor
  ·rintro (⟨rfl,rfl,rfl⟩ | ⟨rfl,rfl,rfl⟩)
   ·exact ⟨0,y,rfl,.inl ⟨rfl,rfl,rfl⟩⟩
   ·exact ⟨0,x,rfl,.inr ⟨rfl,rfl,rfl⟩⟩
  ·rintro ⟨i,z,h1,h2⟩
   cases i with
   | succ i=>simp at h1
   | zero=>
    simp only [List.getElem?_cons_zero,Option.some.injEq] at h1
    subst h1
    rcases h2 with ⟨rfl,rfl,rfl⟩ | ⟨rfl,rfl,rfl⟩
    ·exact .inl ⟨rfl,rfl,rfl⟩
    ·exact .inr ⟨rfl,rfl,rfl⟩
 | x :: z :: l,n,s,t,p,y,q=>by
  have hp:pathE n s (x :: z :: l) t = (s,x,n) :: (n,x ^^^ 1,s) :: pathE (n + 1) n (z :: l) t:=rfl
  have hv0:pv n s t (x :: z :: l).length 0 = s:=rfl
  have hv1:pv n s t (x :: z :: l).length 1 = n:=by unfold pv; rw [if_neg (by omega),if_pos (by simp)]; omega
  have hvs:∀ i,i ≤ (z :: l).length → pv (n + 1) n t (z :: l).length i = pv n s t (x :: z :: l).length (i + 1):=fun i hi=>by
   have hL:(x :: z :: l).length = (z :: l).length + 1:=rfl
   have h1:1 ≤ (z :: l).length:=by simp
   rw [hL]
   generalize (z :: l).length = L at *
   unfold pv
   rw [if_neg (show ¬ i + 1 = 0 by omega)]
   by_cases h:i = 0
   ·rw [if_pos h,if_pos (by omega)]; omega
   ·rw [if_neg h]
    by_cases h2:i < L
    ·rw [if_pos h2,if_pos (by omega)]; omega
    ·rw [if_neg h2,if_neg (by omega)]
  rw [hp]
  simp only [List.mem_cons,Prod.mk.injEq]
  rw [pathE_iff (z :: l) (n + 1) n t p y q]
  constructor
  ·rintro (⟨rfl,rfl,rfl⟩ | ⟨rfl,rfl,rfl⟩ | ⟨i,x',h1,h2⟩)
   ·exact ⟨0,y,rfl,.inl ⟨rfl,rfl,hv1.symm⟩⟩
   ·exact ⟨0,x,rfl,.inr ⟨hv1.symm,rfl,rfl⟩⟩
   ·have hi:=(List.getElem?_eq_some_iff.1 h1).1
    refine ⟨i + 1,x',h1,?_⟩
    rw [hvs i (by omega),hvs (i + 1) (by omega)] at h2
    exact h2
  ·rintro ⟨i,x',h1,h2⟩
   cases i with
   | zero=>
    simp only [List.getElem?_cons_zero,Option.some.injEq] at h1
    subst h1
    rw [hv0,hv1] at h2
    rcases h2 with ⟨rfl,rfl,rfl⟩ | ⟨rfl,rfl,rfl⟩
    ·exact .inl ⟨rfl,rfl,rfl⟩
    ·exact .inr (.inl ⟨rfl,rfl,rfl⟩)
   | succ i=>
    have h1:(z :: l)[i]? = some x':=h1
    have hi:=(List.getElem?_eq_some_iff.1 h1).1
    refine .inr (.inr ⟨i,x',h1,?_⟩)
    rw [hvs i (by omega),hvs (i + 1) (by omega)]
    exact h2
theorem conj_homs {u:List Nat} {δ:Nat → Nat → Nat → Prop} (hb:∀ s x t,δ s x t → δ t (x ^^^ 1) s) {ε:Nat → Nat → Nat → Prop} {n b:Nat} {f:Nat → Nat} (hu:u ≠ [] ∨ b = 0)
  (hε:∀ p y q,ε p y q ↔ (p,y,q) ∈ pathE n 0 u b ∨ ∃ s x t,δ s x t ∧ p = f s ∧ y = x ∧ q = f t) (hf0:f 0 = b)
  {g:Nat → Nat} (hg:∀ i,i ≤ u.length → g (pv n 0 b u.length i) = i) (hgf:∀ s,g (f s) = u.length + s) (l:List Nat):Lg ε 0 l ↔ ∃ h,Run δ 0 h 0 ∧ Same (u ++ h ++ inv u) l:=by
 rw [← conj_lang hb]
 have hlast:pv n 0 b u.length u.length = b:=by
  unfold pv
  split
  ·rename_i h
   rcases hu with hu | hu
   ·exact absurd (List.length_eq_zero_iff.1 h) hu
   ·exact hu.symm
  ·rw [if_neg (by omega)]
 refine (lg_hom (δ:=conjD u δ) (ε:=ε) (f:=fun v=>if v ≤ u.length then pv n 0 b u.length v else f (v - u.length)) (g:=g) ?_ ?_ ?_ ?_ l).symm
 ·intro p x q hd
  rw [hε]
  rcases hd with ⟨h1,rfl⟩ | ⟨y,h1,rfl,rfl⟩ | ⟨h1,h2,h3⟩
  ·have hlt:=(List.getElem?_eq_some_iff.1 h1).1
   rw [if_pos (by omega),if_pos (by omega)]
   exact .inl ((pathE_iff ..).2 ⟨p,x,h1,.inl ⟨rfl,rfl,rfl⟩⟩)
  ·have hlt:=(List.getElem?_eq_some_iff.1 h1).1
   rw [if_pos (by omega),if_pos (by omega)]
   exact .inl ((pathE_iff ..).2 ⟨q,y,h1,.inr ⟨rfl,rfl,rfl⟩⟩)
  ·have hv:∀ v,u.length ≤ v → (if v ≤ u.length then pv n 0 b u.length v else f (v - u.length)) = f (v - u.length):=fun v hv=>by
    split
    ·have:v = u.length:=by omega
     subst this
     rw [hlast,Nat.sub_self,hf0]
    ·rfl
   rw [hv p h1,hv q h2]
   exact .inr ⟨_,x,_,h3,rfl,rfl,rfl⟩
 ·intro p y q hd
  rw [hε] at hd
  rcases hd with hd | ⟨s,x,t,h1,rfl,rfl,rfl⟩
  ·obtain ⟨i,x,h1,h2⟩:=(pathE_iff ..).1 hd
   have hlt:=(List.getElem?_eq_some_iff.1 h1).1
   rcases h2 with ⟨rfl,rfl,rfl⟩ | ⟨rfl,rfl,rfl⟩
   ·rw [hg i (by omega),hg (i + 1) (by omega)]
    exact .inl ⟨h1,rfl⟩
   ·rw [hg i (by omega),hg (i + 1) (by omega)]
    exact .inr (.inl ⟨x,h1,rfl,rfl⟩)
  ·rw [hgf,hgf]
   exact .inr (.inr ⟨by omega,by omega,by rw [Nat.add_sub_cancel_left,Nat.add_sub_cancel_left]; exact h1⟩)
 ·rw [if_pos (Nat.zero_le _)]; rfl
 ·have:=hg 0 (Nat.zero_le _)
  exact this
end Go.Proofs.YtffdjfkekdoeaaaDoor.Pl
end
section
set_option maxRecDepth 8000
set_option maxHeartbeats 4000000
namespace Go.Proofs.YtffdjfkekdoeaaaDoor.Rf
open Fw Wd Fo Pl
theorem zero4':(Tryd.prog.info? 4).bind (·.zero) = some (.bool false):=by kernel_rfl
theorem bytes_eq (a b:ByteArray):(a.toList == b.toList) = decide (a = b):=by
 by_cases h:a = b
 ·subst h; simp
 ·rw [decide_eq_false h]
  refine beq_eq_false_iff_ne.2 fun he=>h ?_
  rw [ByteArray.toList_eq,ByteArray.toList_eq] at he
  exact ByteArray.ext (Array.toList_inj.1 he)
end Go.Proofs.YtffdjfkekdoeaaaDoor.Rf
end
section
set_option maxRecDepth 8000
set_option maxHeartbeats 4000000
namespace Go.Proofs.YtffdjfkekdoeaaaDoor.Fo
open Fw Wd Rf Pl
def conjL (k:Int) (a:Aut) (u l:List Nat):Prop:=∃ h,Run (Dl k a) 0 h 0 ∧ Same (u ++ h ++ Pl.inv u) l
inductive ConjIs (k:Int) (a:Aut) (s:ByteArray):FoldR → Prop
 | err:examF k [a] [s] ≠ 0 → ConjIs k a s (.err (examF k [a] [s]))
 | ok {o:Option (List Row)}:examF k [a] [s] = 0 → FoldL k.toNat (conjL k a (wordF s)) o → ConjIs k a s (resOf (2 * k.toNat) o)
theorem exam_one {k:Int} {a:Aut} {s:ByteArray} (h:examF k [a] [s] = 0):(1 ≤ k ∧ k ≤ 8) ∧ a.check k = 0 ∧ checkF k s = 0:=by
 have hk:=exam_rank h
 unfold examF at h
 rw [if_neg (by simpa using hk)] at h
 by_cases h1:a.check k = 0
 ·by_cases h2:checkF k s = 0
  ·exact ⟨hk,h1,h2⟩
  ·simp [h1,h2] at h
 ·simp [h1] at h
theorem word_nil {k:Int} {s:ByteArray} (hs:checkF k s = 0):(ReduceF s = ⟨#[]⟩) ↔ wordF s = []:=by
 obtain ⟨h1,_⟩:=idxs_word hs
 unfold Idxs at h1
 constructor
 ·intro h
  rw [h] at h1
  have:=congrArg List.length h1
  simp at this
  exact List.length_eq_zero_iff.1 this.symm
 ·intro h
  rw [h] at h1
  have h2:(ReduceF s).data.toList = []:=by simpa using h1
  generalize ReduceF s = r at h2
  cases r with
  | mk d=>cases d with
   | mk l=>simp only at h2; rw [h2]
theorem Conjugate_ret {w:World} (hl:Laid w) {k:Int} {x:Int × Int × Sl × Sl × Unit} {a:Aut} (ha:AutIn w x a) (s:ByteArray) :
  RetN Tryd.prog 38 #[.int .i64 k,.agg #[.int .i64 x.1,.int .i64 x.2.1,x.2.2.1.v,x.2.2.2.1.v],.string s] [tA,tI] w fun z w'=>
   ∃ res,ConjIs k a s res ∧ Chg Nil w w' ∧ AutIn w' z.1 (autR res).1 ∧ z.2.1 = (autR res).2:=by
 obtain ⟨x1,x2,sa,sn,_⟩:=x
 refine fold_Conjugate.calls k x1 x2 sa sn s ?_
 unfold fold_Conjugate.sh
 refine New.mk fun b1 w1 hb1 hh1 hs1 hc1=>?_
 refine New.mk fun b3 w2 hb3 hh3 hs3 hc3=>?_
 have h1:w2.heap[b1]? = some _:=hc3.heap hh1 fun h=>h
 refine LoadT.mk tA (x:=(x1,x2,sa,sn,())) (fun j v hv=>by rw [cellOf h1]; simpa [Ty.cells] using hv) ?_
 refine New.mk fun b6 w3 hb6 hh6 hs6 hc6=>?_
 refine New.mk fun b8 w4 hb8 hh8 hs8 hc8=>?_
 have hc04:=((hc1.then hc3).then hc6).then hc8
 have hz4:=(hc6.then hc8).heap hh3 fun h=>h
 refine Ret.call (exam_ret (sl:=⟨some ⟨b6,0,none⟩,1,1⟩) (sw:=⟨some ⟨b8,0,none⟩,1,1⟩) (xs:=[(x1,x2,sa,sn,())]) (ats:=[a]) (ws:=[s]) (hl.nil hc04) (rd_lit (hc8.heap hh6 fun h=>h) rfl rfl) rfl (fun i y b hy hb=>by
  cases i with
  | zero=>simp at hy hb; subst hy; subst hb; exact ha.nil hc04
  | succ i=>simp at hy) (rd_lit hh8 rfl rfl) (by simp) (by simp)) ?_
 rintro _ w5 ⟨rfl,hc4⟩
 have hc05:=hc04.then hc4
 have hz5:=hc4.heap hz4 fun h=>h
 have hlt3:w.heap.size ≤ b3:=by have:=hc1.size; omega
 refine Br.mk (fun hne=>?_) (fun heq=>?_)
 ·have hne':examF k [a] [s] ≠ 0:=by simpa using hne
  refine StoreN.whole (vs:=[.int .i64 0,.int .i64 0,.slice none 0 0,.slice none 0 0]) hz5 rfl fun w6 h6 hc6 _=>?_
  refine LoadT.mk tA (x:=(0,0,⟨none,0,0⟩,⟨none,0,0⟩,())) (fun j v hv=>by rw [cellOf h6]; simpa [Ty.cells] using hv) ?_
  exact ⟨((0,0,⟨none,0,0⟩,⟨none,0,0⟩,()),examF k [a] [s],()),rfl,_,.err hne',hc05.trans hc6 (fun _ _ h=>h) fun i hi he=>by have he:i = b3:=he; omega,autIn_zero w6,rfl⟩
 have hz:examF k [a] [s] = 0:=by simpa using heq
 obtain ⟨hk,hca,hs⟩:=exam_one hz
 obtain ⟨nk,rfl⟩:=Int.eq_ofNat_of_zero_le (show 0 ≤ k by omega)
 obtain ⟨_,_,na1,na2,_⟩:=check_spec hca
 have hA:=dl_aut hk.2 hca
 obtain ⟨hidx,hrsz⟩:=idxs_word hs
 have hwl:(wordF s).length ≤ 100000:=by
  have:=congrArg List.length hidx
  simp only [List.length_map] at this
  have h2:(ReduceF s).data.toList.length = (ReduceF s).size:=(size_list _).symm
  omega
 have hwx:∀ y ∈ wordF s,y < 2 * nk:=fun y hy=>by have:=wordF_lt hs y hy; omega
 refine Ret.call (Reduce_ret (hl.nil hc05) s) ?_
 rintro _ w6 ⟨rfl,hc6'⟩
 have hc06:=hc05.then hc6'
 refine Ret.call (start_ret nk (by omega) (by omega)) ?_
 rintro _ w7 ⟨fb,M,rfl,hr7,hc7,hf7⟩
 have hc67:=hc7
 have hm0:(start0 (2 * nk)).m = 2 * nk:=rfl
 have hp0:(start0 (2 * nk)).par.length = 1:=rfl
 have hz7:=(hc6'.then hc7).heap hz5 fun h=>h
 have h17:w7.heap[b1]? = some _:=((((hc6.then hc8).then hc4).then hc6').then hc7).heap h1 fun h=>h
 have h00:0 < w6.heap.size:=by obtain ⟨_,_,h⟩:=hl.nil hc06; exact lt_of_heap h
 -- behind the path
 refine Join.by' (fun y W=>∃ (base:Nat) (E:List Edg) (st:St) (M1:Mem),y = (at0 b1,at0 b3,some (at0 fb),(base:Int),()) ∧ Fo.Rep W fb st M1 ∧ Chg Nil w6 W ∧ (∀ q,M1.foot fb q → w6.heap.size ≤ q) ∧ Pl.Inv E st ∧ Both E ∧ st.m = 2 * nk ∧
   ((wordF s = [] ∧ base = 0 ∧ E = [] ∧ st.par.length = 1) ∨ (wordF s ≠ [] ∧ base = 1 ∧ E = pathE 2 0 (wordF s) 1 ++ [] ∧ st.par.length = 2 + ((wordF s).length - 1)))) ?_ ?_
 ·rintro y W g ⟨base,E,st,M1,rfl,hrW,hcW,hfW,hI,hB,hm,hor⟩
  dsimp only
  have hsz:base < st.par.length ∧ st.par.length ≤ 200000:=by
   rcases hor with ⟨_,h2,_,h4⟩ | ⟨_,h2,_,h4⟩ <;> omega
  have h1W:W.heap[b1]? = some _:=((((hc6.then hc8).then hc4).then hc6').then hcW).heap h1 fun h=>h
  have hzW:=(hc6'.then hcW).heap hz5 fun h=>h
  refine LoadT.mk tA (x:=(x1,x2,sa,sn,())) (fun j v hv=>by rw [show at0 b1 = Addr.mk b1 0 none from rfl,cellOf h1W]; simpa [Ty.cells] using hv) ?_
  refine RetN.call (graft_ret (w0:=w6) (k:=nk) (x:=(x1,x2,sa,sn,())) (start:=base) hrW hcW hfW hI hB (by omega) hm (ha.nil hc06) hca hsz.1 (by omega)) ?_
  rintro _ w8 ⟨E1,st1,⟨⟨M2,hr8,hf8⟩,hc8'⟩,hI1,hB1,hm1,hp1,hE1⟩
  have hN8:Chg Nil w6 w8:=hcW.trans hc8' (fun _ _ h=>h) fun i hi hk=>by have:=hfW i hk; omega
  have hf08:∀ q,M2.foot fb q → w6.heap.size ≤ q:=fun q hq=>by
   rcases hf8 q hq with h | h
   ·exact hfW q h
   ·have:=hcW.size; omega
  refine RetN.call (made_lang (w0:=w6) (k:=nk) (v:=0) hr8 hN8 hf08 hI1 hB1 (by omega) (by rw [hm1,hm]) (by omega) (by omega)) ?_
  rintro ⟨⟨z1,z2,ua,un,_⟩,z3,_⟩ w9 ⟨o,hF,hN9,_,hAu,hz3⟩
  have hz9:=(hc6'.then hN9).heap hz5 fun h=>h
  refine StoreN.whole (vs:=[.int .i64 z1,.int .i64 z2,ua.v,un.v]) hz9 rfl fun w10 h10 hc10 _=>?_
  refine LoadT.mk tA (x:=(z1,z2,ua,un,())) (fun j v hv=>by rw [show at0 b3 = Addr.mk b3 0 none from rfl,cellOf h10]; simpa [Ty.cells] using hv) ?_
  have hL:FoldL nk (conjL (nk:Int) a (wordF s)) o:=by
   refine ⟨_,0,hF,fun l _=>?_⟩
   rcases hor with ⟨u0,rfl,rfl,p1⟩ | ⟨u0,rfl,rfl,p1⟩
   ·unfold conjL
    rw [u0]
    refine conj_homs (δ:=Dl (nk:Int) a) (n:=2) (b:=0) (f:=fun s=>s) (g:=fun s=>s) hA.inv (.inr rfl) (fun p y q=>?_) rfl (fun i hi=>?_) (fun s=>?_) l
    ·show (p,y,q) ∈ E1 ↔ _
     rw [hE1,p1]
     have hid:∀ s,atN 0 1 s = s:=fun s=>by unfold atN; split <;> omega
     simp only [hid,List.not_mem_nil,false_or,pathE]
    ·have:i = 0:=by simpa using hi
     subst this; rfl
    ·simp
   ·have hlen:0 < (wordF s).length:=List.length_pos_iff.2 u0
    refine conj_homs (δ:=Dl (nk:Int) a) (n:=2) (b:=1) (f:=atN 1 st.par.length) (g:=fun v=>if v = 1 then (wordF s).length else if v ≤ (wordF s).length then v - 1 else v) hA.inv (.inl u0) (fun p y q=>?_) rfl (fun i hi=>?_) (fun s'=>?_) l
    ·show (p,y,q) ∈ E1 ↔ _
     rw [hE1,List.append_nil]
    ·unfold pv
     by_cases h0:i = 0
     ·subst h0
      rw [if_pos rfl,if_neg (by omega),if_pos (by omega)]
     ·rw [if_neg h0]
      by_cases h2:i < (wordF s).length
      ·rw [if_pos h2,if_neg (by omega),if_pos (by omega)]; omega
      ·rw [if_neg h2,if_pos rfl]; omega
    ·unfold atN
     by_cases h0:s' = 0
     ·subst h0
      rw [if_pos rfl,if_pos rfl]; omega
     ·rw [if_neg h0,if_neg (by omega),if_neg (by omega)]; omega
  refine ⟨((z1,z2,ua,un,()),z3,()),rfl,_,ConjIs.ok (k:=(nk:Int)) hz hL,(hc06.then hN9).trans hc10 (fun _ _ h=>h) fun i hi he=>by have he:i = b3:=he; omega,hAu w10 _ hc10 fun q hq=>?_,hz3⟩
  have hq:q = b3:=hq
  have:=lt_of_heap hz5
  have:=hc6'.size
  have:=hN8.size
  omega
 ·intro J hJ
  have hcond:(!((ReduceF s).toList == (ByteArray.mk #[]).toList)) = decide (wordF s ≠ []):=by
   rw [bytes_eq]
   by_cases h:wordF s = []
   ·rw [(word_nil hs).2 h]; simp [h]
   ·have:¬ ReduceF s = ⟨#[]⟩:=fun he=>h ((word_nil hs).1 he)
    simp [h,this]
  rw [hcond]
  refine Br.dec (fun h=>?_) (fun h=>?_)
  ·obtain ⟨st1,hs1,hI1,hm1,hp1⟩:=state_ev (start_inv (2 * nk)) (by rw [hp0]; unfold big; omega)
   rw [hp0] at hp1
   refine Ret.call (state_ret hr7 hs1) ?_
   rintro _ w8 ⟨rfl,⟨⟨M1,hr8,hf8⟩,hc8'⟩⟩
   have hN8:Chg Nil w6 w8:=hc7.trans hc8' (fun _ _ h=>h) fun i hi hk=>by have:=hf7 i hk; omega
   have hf08:∀ q,M1.foot fb q → w6.heap.size ≤ q:=fun q hq=>by
    rcases hf8 q hq with h | h
    ·exact hf7 q h
    ·have:=hc7.size; omega
   have hmul:(st1.par.length + (wordF s).length) * (st1.m + 1) ≤ 100002 * 17:=Nat.mul_le_mul (by omega) (by rw [hm1,hm0]; omega)
   obtain ⟨st2,⟨K,hp2⟩,hI2,hm2,hpl2⟩:=path_ev (wordF s) [] st1 0 1 hI1 (by omega) (by omega) (fun y hy=>by
    rw [hm1,hm0]; exact ⟨hwx y hy,Pl.xor_lt (by omega) (hwx y hy)⟩) (by rw [hm1,hm0] at *; unfold big; omega)
   rw [hp0]
   refine RetN.call (path_ret (hl.nil (hc06.then hN8)) hr8 (fun h0=>by have:=hf08 0 h0; omega) (s:=0) (t:=1) (by omega) hidx (hp2 K (Nat.le_refl _))) fun _ w9 hs9=>?_
   obtain ⟨⟨M2,hr9,hf9⟩,hc9⟩:=hs9
   refine hJ _ _ ⟨1,_,st2,M2,rfl,hr9,hN8.trans hc9 (fun _ _ h=>h) fun i hi hk=>by have:=hf08 i hk; omega,fun q hq=>?_,hI2,?_,by rw [hm2,hm1,hm0],.inr ⟨h,rfl,by rw [hp1],by rw [hpl2,hp1]⟩⟩
   ·rcases hf9 q hq with h | h
    ·exact hf08 q h
    ·have:=hN8.size; omega
   ·exact Both.app (pathE_both _ _ _ _) Both.nil
  ·have hnil:wordF s = []:=Classical.byContradiction h
   exact hJ _ _ ⟨0,[],_,M,rfl,hr7,hc7,hf7,start_inv _,Both.nil,hm0,.inl ⟨hnil,rfl,rfl,hp0⟩⟩
end Go.Proofs.YtffdjfkekdoeaaaDoor.Fo
end
section
set_option maxRecDepth 8000
set_option maxHeartbeats 8000000
namespace Go.Proofs.YtffdjfkekdoeaaaDoor.Fo
open Fw Wd Rf Pl
structure Prd (k:Int) (a b:Aut) (q:List (Nat × Nat)):Prop where
 nodup:q.Nodup
 first:q[0]? = some (0,0)
 lt:∀ p ∈ q,p.1 < a.next.length ∧ p.2 < b.next.length
 closed:∀ (u s t y s' t':Nat),q[u]? = some (s,t) → Dl k a s y s' → Dl k b t y t' → ∃ v:Nat,q[v]? = some (s',t')
def prodD (k:Int) (a b:Aut) (q:List (Nat × Nat)) (u y v:Nat):Prop:=∃ s t s' t',q[u]? = some (s,t) ∧ q[v]? = some (s',t') ∧ Dl k a s y s' ∧ Dl k b t y t'
inductive IntIs (k:Int) (a b:Aut):FoldR → Prop
 | err:examF k [a,b] [] ≠ 0 → IntIs k a b (.err (examF k [a,b] []))
 | ok {q:List (Nat × Nat)} {o:Option (List Row)}:examF k [a,b] [] = 0 → Prd k a b q → FoldedD k.toNat (prodD k a b q) 0 o → IntIs k a b (resOf (2 * k.toNat) o)
structure PI (k:Int) (a b:Aut) (q:List (Nat × Nat)) (E:List Edg) (i:Nat):Prop where
 nodup:q.Nodup
 first:q[0]? = some (0,0)
 lt:∀ p ∈ q,p.1 < a.next.length ∧ p.2 < b.next.length
 snd:∀ u y v,(u,y,v) ∈ E → prodD k a b q u y v
 cmp:∀ (u s t y s' t':Nat),u < i → q[u]? = some (s,t) → Dl k a s y s' → Dl k b t y t' → ∃ v:Nat,q[v]? = some (s',t') ∧ (u,y,v) ∈ E
theorem get_app {α:Type} {q:List α} {i:Nat} {x y:α} (h:q[i]? = some x):(q ++ [y])[i]? = some x:=by
 rw [List.getElem?_append_left (List.getElem?_eq_some_iff.1 h).1]; exact h
theorem pairs_len {q:List (Nat × Nat)} (hn:q.Nodup) (hl:∀ p ∈ q,p.1 < 20 ∧ p.2 < 20):q.length ≤ 400:=by
 have:=nodup_len 400 (q.map fun p=>p.1 * 20 + p.2) ?_ ?_
 ·simpa using this
 ·rw [List.Nodup,List.pairwise_map]
  refine List.Pairwise.imp_of_mem (fun {x y} hx hy hne he=>hne ?_) hn
  have h1:=hl x hx
  have h2:=hl y hy
  apply Prod.ext <;> omega
 ·intro v hv
  obtain ⟨p,hp,rfl⟩:=List.mem_map.1 hv
  have:=hl p hp
  omega
def qk (q:List (Nat × Nat)):List (Int × Int):=q.map fun p=>((p.1:Int),(p.2:Int))
theorem qk_mem {q:List (Nat × Nat)} {s t:Nat}:((s:Int),(t:Int)) ∈ qk q ↔ (s,t) ∈ q:=by
 unfold qk
 rw [List.mem_map]
 constructor
 ·rintro ⟨⟨u,v⟩,h1,h2⟩
  simp only [Prod.mk.injEq] at h2
  have e1:u = s:=by omega
  have e2:v = t:=by omega
  subst e1 e2; exact h1
 ·intro h; exact ⟨_,h,rfl⟩
theorem qk_nodup {q:List (Nat × Nat)} (h:q.Nodup):(qk q).Nodup:=by
 unfold qk
 rw [List.Nodup,List.pairwise_map]
 refine List.Pairwise.imp (fun {x y} hne he=>hne ?_) h
 simp only [Prod.mk.injEq] at he
 apply Prod.ext <;> omega
theorem qk_idx {q:List (Nat × Nat)} {s t:Nat} (h:(s,t) ∈ q):q[(qk q).idxOf ((s:Int),(t:Int))]? = some (s,t):=by
 have hm:=(qk_mem (q:=q)).2 h
 have hlt:=List.idxOf_lt_length_iff.2 hm
 have hg:(qk q)[(qk q).idxOf ((s:Int),(t:Int))]? = some ((s:Int),(t:Int)):=by rw [List.getElem?_eq_getElem hlt,List.getElem_idxOf hlt]
 generalize (qk q).idxOf ((s:Int),(t:Int)) = i at *
 unfold qk at hg
 rw [List.getElem?_map] at hg
 cases hq:q[i]? with
 | none=>rw [hq] at hg; cases hg
 | some p=>
  rw [hq] at hg
  simp only [Option.map_some,Option.some.injEq,Prod.mk.injEq] at hg
  congr 1
  apply Prod.ext
  ·show p.1 = s
   omega
  ·show p.2 = t
   omega
structure Ix (w0 W:World) (rs:List Nat) (fb:Nat) (st:St) (M:Mem) (mb qb:Nat) (sq:Sl) (qm q:List (Nat × Nat)) (cs:List (Nat × Array Value × TypeId)):Prop where
 chg:Chg Nil w0 W
 mks:Marks W rs
 mB:∀ r ∈ rs,w0.heap.size ≤ r
 cells:∀ p ∈ cs,W.heap[p.1]? = some (.cells p.2.1 p.2.2 (0,0))
 cq:W.heap[qb]? = some (.cells #[sq.v] 106 (0,0))
 map:MapP W mb (numL (qk qm))
 lo:w0.heap.size ≤ qb ∧ w0.heap.size ≤ mb ∧ ∀ k,sq.own k → w0.heap.size ≤ k
 rep:Fo.Rep W fb st M
 foot:∀ k,M.foot fb k → w0.heap.size ≤ k
 own:OwnT W 96 tP sq (q.map ofP)
 ap:∀ k,M.foot fb k → k ≠ qb ∧ ¬ sq.own k ∧ ∀ p ∈ cs,p.1 ≠ k
 sep:∀ k,sq.own k → k ≠ qb ∧ ∀ p ∈ cs,p.1 ≠ k
 qn:∀ p ∈ cs,p.1 ≠ qb
section
variable {w0 W W':World} {rs:List Nat} {fb mb qb:Nat} {st st2:St} {M:Mem} {sq:Sl} {qm q:List (Nat × Nat)} {cs:List (Nat × Array Value × TypeId)}
theorem Ix.nil (h:Ix w0 W rs fb st M mb qb sq qm q cs) (hc:Chg Nil W W'):Ix w0 W' rs fb st M mb qb sq qm q cs:=
 { h with chg:=h.chg.then hc,mks:=h.mks.chg hc (fun _ _ h=>h),cells:=fun p hp=>hc.heap (h.cells p hp) fun h=>h,cq:=hc.heap h.cq fun h=>h,map:=h.map.chg hc fun h=>h,rep:=h.rep.nil hc,own:=h.own.chg hc fun _ _ h=>h }
theorem Ix.turn {B:Nat} (h:Ix w0 W rs fb st M mb qb sq qm q cs) (t:Turn B W W') (hB:w0.heap.size ≤ B):Ix w0 W' rs fb st M mb qb sq qm q cs:=
 { h with chg:=h.chg.turn t hB,mks:=h.mks.turn t,cells:=fun p hp=>t.cells (h.cells p hp),cq:=t.cells h.cq,map:=h.map.turn t,rep:=Rep.turn h.rep t,own:=Fo.OwnT.turn h.own t }
theorem Ix.mapNe (h:Ix w0 W rs fb st M mb qb sq qm q cs) {k:Nat} {c:Array Value} {e:TypeId} {f:Nat × Nat} (hk:W.heap[k]? = some (.cells c e f)):k ≠ mb:=fun he=>by
 obtain ⟨es,cl,hm,_⟩:=h.map
 rw [he,hm] at hk; cases hk
theorem Ix.step (h:Ix w0 W rs fb st M mb qb sq qm q cs) (k:Fo.Step fb M W W' st2):∃ M2,Ix w0 W' rs fb st2 M2 mb qb sq qm q cs:=by
 obtain ⟨⟨M2,hr2,hf2⟩,hc2⟩:=k
 have hle:=h.chg.size
 have hlt:=h.own.lt
 refine ⟨M2,{ chg:=h.chg.trans hc2 (fun _ _ h=>h) (fun i hi hk=>by have:=h.foot i hk; omega),mks:=h.mks.chg hc2 (fun r hr hk=>?_),mB:=h.mB
              cells:=fun p hp=>hc2.heap (h.cells p hp) fun hk=>(h.ap _ hk).2.2 p hp rfl,cq:=hc2.heap h.cq (fun hk=>(h.ap _ hk).1 rfl)
              map:=h.map.chg hc2 fun hk=>?_,lo:=h.lo,rep:=hr2,foot:=fun k hk=>?_,own:=h.own.chg hc2 (fun a ha hk=>(h.ap _ hk).2.1 ⟨a,ha,rfl⟩),ap:=fun k hk=>?_,sep:=h.sep,qn:=h.qn }⟩
 ·obtain ⟨c,e,hc,_⟩:=Rep.foot_cells h.rep hk
  have:=h.mks.2 r hr
  rw [hc] at this; cases this
 ·obtain ⟨c,e,hc,_⟩:=Rep.foot_cells h.rep hk
  exact h.mapNe hc rfl
 ·rcases hf2 k hk with h1 | h1
  ·exact h.foot k h1
  ·omega
 ·rcases hf2 k hk with h1 | h1
  ·exact h.ap k h1
  ·have lq:=lt_of_heap h.cq
   refine ⟨by omega,fun ⟨a,ha,he⟩=>?_,fun p hp=>?_⟩
   ·have:=hlt a ha
    omega
   ·have:=lt_of_heap (h.cells p hp); omega
theorem Ix.mark (h:Ix w0 W rs fb st M mb qb sq qm q cs) {d:Nat} (hd:W.heap[d]? = some (.deferred (some []))) (hB:w0.heap.size ≤ d) (hn:d ∉ rs):Ix w0 W (d :: rs) fb st M mb qb sq qm q cs:=
 { h with mks:=h.mks.cons hd hn,mB:=fun r hr=>by rcases List.mem_cons.1 hr with rfl | hr; exact hB; exact h.mB r hr }
theorem Ix.sub (h:Ix w0 W rs fb st M mb qb sq qm q cs) {cs':List (Nat × Array Value × TypeId)} (hs:∀ p ∈ cs',p ∈ cs):Ix w0 W rs fb st M mb qb sq qm q cs':=
 { h with cells:=fun p hp=>h.cells p (hs p hp),ap:=fun k hk=>⟨(h.ap k hk).1,(h.ap k hk).2.1,fun p hp=>(h.ap k hk).2.2 p (hs p hp)⟩,sep:=fun k hk=>⟨(h.sep k hk).1,fun p hp=>(h.sep k hk).2 p (hs p hp)⟩,qn:=fun p hp=>h.qn p (hs p hp) }
theorem Ix.add {V:World} (h:Ix w0 W rs fb st M mb qb sq qm q cs) (hV:Ix w0 V rs fb st M mb qb sq qm q cs) {b:Nat} {c:Array Value} {e:TypeId} (hb:W.heap[b]? = some (.cells c e (0,0))) (hn:V.heap.size ≤ b):Ix w0 W rs fb st M mb qb sq qm q ((b,c,e) :: cs):=by
 have hlt:=hV.own.lt
 have lq:=lt_of_heap hV.cq
 refine { h with cells:=fun p hp=>?_,ap:=fun k hk=>⟨(h.ap k hk).1,(h.ap k hk).2.1,fun p hp=>?_⟩,sep:=fun k hk=>⟨(h.sep k hk).1,fun p hp=>?_⟩,qn:=fun p hp=>?_ }
 ·rcases List.mem_cons.1 hp with rfl | hp
  ·exact hb
  ·exact h.cells p hp
 ·rcases List.mem_cons.1 hp with rfl | hp
  ·have:=Fo.Rep.lt hV.rep k hk
   show b ≠ k
   omega
  ·exact (h.ap k hk).2.2 p hp
 ·rcases List.mem_cons.1 hp with rfl | hp
  ·obtain ⟨a,ha,he⟩:=hk
   have:=hlt a ha
   show b ≠ k
   omega
  ·exact (h.sep k hk).2 p hp
 ·rcases List.mem_cons.1 hp with rfl | hp
  ·show b ≠ qb
   omega
  ·exact h.qn p hp
theorem Ix.mapTo (h:Ix w0 W rs fb st M mb qb sq qm q cs) {qm':List (Nat × Nat)} (hc:Chg (· = mb) W W') (hm:MapP W' mb (numL (qk qm'))):Ix w0 W' rs fb st M mb qb sq qm' q cs:=by
 have ne:∀ {k:Nat} {c:Array Value} {e:TypeId} {f:Nat × Nat},W.heap[k]? = some (.cells c e f) → ¬ (k = mb):=fun hk=>h.mapNe hk
 exact { chg:=h.chg.trans hc (fun _ _ h=>h) (fun i hi hk=>by have hk:i = mb:=hk; have:=h.lo.2.1; omega),mks:=h.mks.chg hc (fun r hr hk=>by
          have hk:r = mb:=hk
          obtain ⟨es,cl,hmm,_⟩:=h.map
          have:=h.mks.2 r hr
          rw [hk,hmm] at this; cases this),mB:=h.mB
         cells:=fun p hp=>hc.heap (h.cells p hp) (ne (h.cells p hp)),cq:=hc.heap h.cq (ne h.cq),map:=hm,lo:=h.lo
         rep:=h.rep.chg hc fun k hk he=>by obtain ⟨c,e,hcc,_⟩:=Rep.foot_cells h.rep hk; exact ne hcc he
         foot:=h.foot,own:=h.own.chg hc fun a ha he=>by obtain ⟨c,hcc⟩:=h.own.elem ⟨a,ha,rfl⟩; exact ne hcc he
         ap:=h.ap,sep:=h.sep,qn:=h.qn }
theorem Ix.push {W3 W4:World} {sq':Sl} {q':List (Nat × Nat)} (h:Ix w0 W rs fb st M mb qb sq qm q cs) (ho:OwnT W3 96 tP sq' (q'.map ofP)) (hc3:Chg sq.own W W3) (hown:∀ i,sq'.own i → sq.own i ∨ W.heap.size ≤ i) (hc4:Chg (· = qb) W3 W4) (hq:W4.heap[qb]? = some (.cells #[sq'.v] 106 (0,0))) :
  Ix w0 W4 rs fb st M mb qb sq' qm q' cs:=by
 have hle:=h.chg.size
 have lq:=lt_of_heap h.cq
 have hn:∀ k,sq'.own k → k ≠ qb:=fun k hk=>by
  rcases hown k hk with h1 | h1
  ·exact (h.sep k h1).1
  ·omega
 have mo:¬ sq.own mb:=fun hk=>by obtain ⟨c,hcc⟩:=h.own.elem hk; exact h.mapNe hcc rfl
 have mq:mb ≠ qb:=fun he=>h.mapNe h.cq he.symm
 exact { chg:=(h.chg.trans hc3 (fun _ _ h=>h) (fun i hi hk=>by have:=h.lo.2.2 i hk; omega)).trans hc4 (fun _ _ h=>h) (fun i hi he=>by have he:i = qb:=he; have:=h.lo.1; omega)
         mks:=(h.mks.chg hc3 (fun r hr hk=>by
          obtain ⟨c,hcc⟩:=h.own.elem hk
          have:=h.mks.2 r hr
          rw [hcc] at this; cases this)).chg hc4 (fun r hr he=>by
          have he:r = qb:=he
          have:=h.mks.2 r hr
          rw [he,h.cq] at this; cases this),mB:=h.mB
         cells:=fun p hp=>hc4.heap (hc3.heap (h.cells p hp) fun hk=>(h.sep _ hk).2 p hp rfl) fun he=>h.qn p hp he
         cq:=hq,map:=(h.map.chg hc3 mo).chg hc4 mq
         lo:=⟨h.lo.1,h.lo.2.1,fun k hk=>by
          rcases hown k hk with h1 | h1
          ·exact h.lo.2.2 k h1
          ·omega⟩
         rep:=(h.rep.chg hc3 fun k hk ho=>(h.ap k hk).2.1 ho).chg hc4 fun k hk he=>(h.ap k hk).1 he
         foot:=h.foot,own:=ho.chg hc4 fun a ha he=>hn _ ⟨a,ha,rfl⟩ he
         ap:=fun k hk=>⟨(h.ap k hk).1,fun ho'=>by
          rcases hown k ho' with h1 | h1
          ·exact (h.ap k hk).2.1 h1
          ·have:=Fo.Rep.lt h.rep k hk; omega,(h.ap k hk).2.2⟩
         sep:=fun k hk=>⟨hn k hk,fun p hp=>by
          rcases hown k hk with h1 | h1
          ·exact (h.sep k h1).2 p hp
          ·have:=lt_of_heap (h.cells p hp); omega⟩
         qn:=h.qn }
end
end Go.Proofs.YtffdjfkekdoeaaaDoor.Fo
end
section
set_option maxRecDepth 8000
set_option maxHeartbeats 8000000
namespace Go.Proofs.YtffdjfkekdoeaaaDoor.Fo
open Fw Wd Rf Pl
theorem edge_in {k:Int} {a:Aut} (hc:a.check k = 0) {s y s':Nat} (h:Dl k a s y s') {row:List Int} (hrow:a.next[s]? = some row):((y:Int),(s':Int),()) ∈ edgesFrom 0 row:=by
 obtain ⟨r,g1,g2,g3,g4,g5⟩:=getN_row hc h.1 h.2.1
 rw [hrow] at g1
 cases g1
 have he:=edges_of row 0 y g2 (by rw [← g3,h.2.2]; omega)
 rw [Nat.zero_add,← g3,h.2.2] at he
 exact he
theorem in_edge {k:Int} {a:Aut} (hc:a.check k = 0) {s:Nat} {y t:Int} {u:Unit} {row:List Int} (hrow:a.next[s]? = some row) (h:(y,t,u) ∈ edgesFrom 0 row):∃ ny nt:Nat,y = (ny:Int) ∧ t = (nt:Int) ∧ Dl k a s ny nt:=by
 obtain ⟨i,g1,g2,g3⟩:=Pl.edges_mem row 0 _ h
 dsimp only at g1 g2 g3
 rw [Nat.zero_add] at g2
 obtain ⟨nt,rfl⟩:=Int.eq_ofNat_of_zero_le g3
 have hlt:=(List.getElem?_eq_some_iff.1 g1).1
 have hs:=(List.getElem?_eq_some_iff.1 hrow).1
 obtain ⟨_,_,_,_,_,_,hrows⟩:=check_spec hc
 obtain ⟨r1,r2⟩:=hrows _ (List.mem_of_getElem? hrow)
 refine ⟨i,nt,g2,rfl,hs,by omega,?_⟩
 unfold getN
 rw [List.getD_eq_getElem?_getD (l:=a.next),hrow]
 show row.getD i 0 = _
 rw [List.getD_eq_getElem?_getD,g1]; rfl
theorem Intersect_ret {w:World} (hl:Laid w) {k:Int} {x y:Int × Int × Sl × Sl × Unit} {a b:Aut} (ha:AutIn w x a) (hb:AutIn w y b) (ha20:a.next.length ≤ 20) (hb20:b.next.length ≤ 20) :
  RetN Tryd.prog 33 #[.int .i64 k,.agg #[.int .i64 x.1,.int .i64 x.2.1,x.2.2.1.v,x.2.2.2.1.v],.agg #[.int .i64 y.1,.int .i64 y.2.1,y.2.2.1.v,y.2.2.2.1.v]] [tA,tI] w fun z w'=>
   ∃ res,IntIs k a b res ∧ Chg Nil w w' ∧ AutIn w' z.1 (autR res).1 ∧ z.2.1 = (autR res).2:=by
 obtain ⟨x1,x2,sa,sn,_⟩:=x
 obtain ⟨y1,y2,ta,tn,_⟩:=y
 refine fold_Intersect.calls k x1 x2 sa sn y1 y2 ta tn ?_
 unfold fold_Intersect.sh
 refine New.mk fun b1 w1 hb1 hh1 hs1 hc1=>?_
 refine New.mk fun b3 w2 hb3 hh3 hs3 hc3=>?_
 refine New.mk fun b5 w3 hb5 hh5 hs5 hc5=>?_
 refine New.mk fun b7 w4 hb7 hh7 hs7 hc7=>?_
 have h14:w4.heap[b1]? = some _:=hc7.heap (hc5.heap (hc3.heap hh1 fun h=>h) fun h=>h) fun h=>h
 have h34:w4.heap[b3]? = some _:=hc7.heap (hc5.heap hh3 fun h=>h) fun h=>h
 have h54:w4.heap[b5]? = some _:=hc7.heap hh5 fun h=>h
 refine LoadT.mk tA (x:=(x1,x2,sa,sn,())) (fun j v hv=>by rw [cellOf h14]; simpa [Ty.cells] using hv) ?_
 refine LoadT.mk tA (x:=(y1,y2,ta,tn,())) (fun j v hv=>by rw [cellOf h34]; simpa [Ty.cells] using hv) ?_
 refine New.mk fun b11 w5 hb11 hh11 hs11 hc11=>?_
 have hc05:=(((hc1.then hc3).then hc5).then hc7).then hc11
 refine Ret.call (exam_ret (sl:=⟨some ⟨b11,0,none⟩,2,2⟩) (sw:=⟨none,0,0⟩) (xs:=[(x1,x2,sa,sn,()),(y1,y2,ta,tn,())]) (ats:=[a,b]) (ws:=[]) (hl.nil hc05) (rd_lit hh11 rfl rfl) rfl (fun i z c hz hc=>by
  match i,hz,hc with
  | 0,hz,hc=>simp at hz hc; subst hz; subst hc; exact ha.nil hc05
  | 1,hz,hc=>simp at hz hc; subst hz; subst hc; exact hb.nil hc05
  | i + 2,hz,hc=>simp at hz) (RdT.nil _ _ _ _) (by simp) (by simp)) ?_
 rintro _ w6 ⟨rfl,hc6⟩
 have hc06:=hc05.then hc6
 have hcc:=hc11.then hc6
 have h16:=hcc.heap h14 fun h=>h
 have h36:=hcc.heap h34 fun h=>h
 have h56:=hcc.heap h54 fun h=>h
 have h76:=hcc.heap hh7 fun h=>h
 have z1:=hc1.size
 have z3:=hc3.size
 have z5:=hc5.size
 have z7:=hc7.size
 generalize hav:(#[.int .i64 x1,.int .i64 x2,.slice sa.a sa.n sa.c,.slice sn.a sn.n sn.c]:Array Value) = av at *
 generalize hbv:(#[.int .i64 y1,.int .i64 y2,.slice ta.a ta.n ta.c,.slice tn.a tn.n tn.c]:Array Value) = bv at *
 refine Br.mk (fun hne=>?_) (fun heq=>?_)
 ·have hne':examF k [a,b] [] ≠ 0:=by simpa using hne
  refine StoreN.whole (vs:=[.int .i64 0,.int .i64 0,.slice none 0 0,.slice none 0 0]) h56 rfl fun w7 h7 hc7' _=>?_
  have h77:=hc7'.heap h76 fun he=>by have he:b7 = b5:=he; omega
  refine Store1.at0' h77 (by show 0 < 1; decide) rfl fun w8 h8 hc8 _=>?_
  have h58:=hc8.heap h7 fun he=>by have he:b5 = b7:=he; omega
  refine LoadT.mk tA (x:=(0,0,⟨none,0,0⟩,⟨none,0,0⟩,())) (fun j v hv=>by rw [cellOf h58]; simpa [Ty.cells] using hv) ?_
  refine LoadT.sc (s:=.int .i64) (x:=examF k [a,b] []) (by rw [cellOf0 h8]; rfl) ?_
  exact ⟨((0,0,⟨none,0,0⟩,⟨none,0,0⟩,()),examF k [a,b] [],()),rfl,_,.err hne',(hc06.trans hc7' (fun _ _ h=>h) fun i hi he=>by have he:i = b5:=he; omega).trans hc8 (fun _ _ h=>h) fun i hi he=>by have he:i = b7:=he; omega,autIn_zero w8,rfl⟩
 have hz:examF k [a,b] [] = 0:=by simpa using heq
 have hk:=exam_rank hz
 obtain ⟨hca,hcb⟩:=(exam_two hk).1 hz
 obtain ⟨nk,rfl⟩:=Int.eq_ofNat_of_zero_le (show 0 ≤ k by omega)
 obtain ⟨_,_,na1,na2,_,_,hrowsA⟩:=check_spec hca
 obtain ⟨_,_,nb1,nb2,_,_,hrowsB⟩:=check_spec hcb
 have hAa:=dl_aut hk.2 hca
 have hAb:=dl_aut hk.2 hcb
 refine New.mk fun b20 w7 hb20 hh20 hs20 hc20=>?_
 obtain ⟨w8,hrun8,hm8,hc8⟩:=updateP_new under91 (w:=w7) (mb:=b20) (l:=[]) ⟨#[],0,hh20,rfl⟩ (t:=((0:Int),(0:Int))) (by simp) (.int .i64 0)
 refine ⟨w8,hrun8,?_⟩
 refine New.mk fun b23 w9 hb23 hh23 hs23 hc23=>?_
 refine Store1.at0' hh23 (by show 0 < 1; decide) rfl fun w10 hh23' hc23' hsz23=>?_
 refine New.mk fun b26 w11 hb26 hh26 hs26 hc26=>?_
 refine New.mk fun b28 w12 hb28 hh28 hs28 hc28=>?_
 refine Store1.at0' hh28 (by show 0 < 1; decide) rfl fun w13 hh28' hc28' hsz28=>?_
 have l20:=lt_of_heap hh20
 have z8:=hc8.size
 have l23:=lt_of_heap hh23
 have l26:=lt_of_heap hh26
 have l28:=lt_of_heap hh28
 have z20:=hc20.size
 have z23:=hc23.size
 have z26:=hc26.size
 have z28:=hc28.size
 have l16:=lt_of_heap h16
 have l36:=lt_of_heap h36
 have l56:=lt_of_heap h56
 have l76:=lt_of_heap h76
 -- from w6 on
 have hN8:Chg Nil w6 w8:=hc20.trans hc8 (fun _ _ h=>h) fun i hi he=>by have he:i = b20:=he; omega
 have hN10:Chg Nil w8 w10:=hc23.trans hc23' (fun _ _ h=>h) fun i hi he=>by have he:i = b23:=he; omega
 have hN13:Chg Nil w10 w13:=(hc26.then hc28).trans hc28' (fun _ _ h=>h) fun i hi he=>by have he:i = b28:=he; omega
 have hN613:=(hN8.then hN10).then hN13
 have hc013:=hc06.then hN613
 refine Ret.call (start_ret nk (by omega) (by omega)) ?_
 rintro _ w14 ⟨fb,M,rfl,hr14,hc14,hf14⟩
 refine New.mk fun b34 w15 hb34 hh34 hs34 hc34=>?_
 refine Store1.at0' hh34 (by show 0 < 1; decide) rfl fun w16 hh34' hc34' hsz34=>?_
 refine New.mk fun b37 w17 hb37 hh37 hs37 hc37=>?_
 refine Store1.at0' hh37 (by show 0 < 1; decide) rfl fun w18 hh37' hc37' hsz37=>?_
 have z14:=hc14.size
 have z34:=hc34.size
 have z37:=hc37.size
 have l34:=lt_of_heap hh34
 have l37:=lt_of_heap hh37
 have z10:=hN10.size
 have z13:=hN13.size
 have hN16:Chg Nil w14 w16:=hc34.trans hc34' (fun _ _ h=>h) fun i hi he=>by have he:i = b34:=he; omega
 have hN18:Chg Nil w16 w18:=hc37.trans hc37' (fun _ _ h=>h) fun i hi he=>by have he:i = b37:=he; omega
 have hN1318:=(hc14.then hN16).then hN18
 have hN618:=hN613.then hN1318
 have hfl:=Fo.Rep.lt hr14
 obtain ⟨cs0,hcs0⟩:∃ l:List (Nat × Array Value × TypeId),l = [(b1,av,27),(b3,bv,27),(b5,#[.int .i64 0,.int .i64 0,.slice none 0 0,.slice none 0 0],27),(b7,#[.int .i64 0],28),(b23,#[.map (some b20)],91),(b34,#[.pointer (some (at0 fb))],76)]:=⟨_,rfl⟩
 have m1:(b1,av,27) ∈ cs0:=by rw [hcs0]; simp
 have m3:(b3,bv,27) ∈ cs0:=by rw [hcs0]; simp
 have m5:(b5,#[.int .i64 0,.int .i64 0,.slice none 0 0,.slice none 0 0],27) ∈ cs0:=by rw [hcs0]; simp
 have m7:(b7,#[.int .i64 0],28) ∈ cs0:=by rw [hcs0]; simp
 have m23:(b23,#[.map (some b20)],91) ∈ cs0:=by rw [hcs0]; simp
 have m34:(b34,#[.pointer (some (at0 fb))],76) ∈ cs0:=by rw [hcs0]; simp
 have hI0:Ix w6 w18 [] fb (start0 (2 * nk)) M b20 b28 ⟨some ⟨b26,0,none⟩,1,1⟩ [(0,0)] [(0,0)] ((b37,#[.int .i64 (0:Int)],3) :: cs0):=by
  have hmem:∀ p ∈ cs0,p.1 < w6.heap.size ∨ (p.1 = b23) ∨ p.1 = b34:=fun p hp=>by
   rw [hcs0] at hp
   simp only [List.mem_cons,List.not_mem_nil,or_false] at hp
   rcases hp with rfl | rfl | rfl | rfl | rfl | rfl
   ·exact .inl l16
   ·exact .inl l36
   ·exact .inl l56
   ·exact .inl l76
   ·exact .inr (.inl rfl)
   ·exact .inr (.inr rfl)
  have ho:∀ k,(⟨some ⟨b26,0,none⟩,1,1⟩:Sl).own k → k = b26:=fun k ⟨ad,had,he⟩=>by cases had; exact he.symm
  have h26:w18.heap[b26]? = some (.cells #[.int .i64 0,.int .i64 0] 96 (0,0)):=hN1318.heap (hc28'.heap (hc28.heap hh26 fun h=>h) fun he=>by have he:b26 = b28:=he; omega) fun h=>h
  have hm18:MapP w18 b20 (numL (qk [(0,0)])):=MapP.chg (S:=Nil) hm8 ((hN10.then hN13).then hN1318) fun h=>h
  exact { chg:=hN618,mks:=⟨List.nodup_nil,fun r hr=>by simp at hr⟩,mB:=by simp
          cells:=fun p hp=>by
           rcases List.mem_cons.1 hp with rfl | hp
           ·exact hh37'
           ·rw [hcs0] at hp
            simp only [List.mem_cons,List.not_mem_nil,or_false] at hp
            rcases hp with rfl | rfl | rfl | rfl | rfl | rfl
            ·exact hN618.heap h16 fun h=>h
            ·exact hN618.heap h36 fun h=>h
            ·exact hN618.heap h56 fun h=>h
            ·exact hN618.heap h76 fun h=>h
            ·exact (hN13.then hN1318).heap hh23' fun h=>h
            ·exact hN18.heap hh34' fun h=>h
          cq:=hN1318.heap hh28' fun h=>h,map:=hm18
          lo:=⟨by omega,by omega,fun k hk=>by rw [ho k hk]; omega⟩
          rep:=hr14.nil (hN16.then hN18),foot:=fun k hk=>by have:=hf14 k hk; omega
          own:=own_lit (t:=tP) h26 (by decide) rfl rfl (by decide)
          ap:=fun k hk=>by
           have h1:=hf14 k hk
           have h2:=hfl k hk
           refine ⟨by omega,fun hk'=>by have:=ho k hk'; omega,fun p hp=>?_⟩
           rcases List.mem_cons.1 hp with rfl | hp
           ·show b37 ≠ k
            omega
           ·rcases hmem p hp with h | h | h <;> omega
          sep:=fun k hk=>by
           have:=ho k hk
           refine ⟨by omega,fun p hp=>?_⟩
           rcases List.mem_cons.1 hp with rfl | hp
           ·show b37 ≠ k
            omega
           ·rcases hmem p hp with h | h | h <;> omega
          qn:=fun p hp=>by
           rcases List.mem_cons.1 hp with rfl | hp
           ·show b37 ≠ b28
            omega
           ·rcases hmem p hp with h | h | h <;> omega }
 have hc618:w6.heap.size ≤ w18.heap.size:=hN618.size
 clear hm8 hrun8 hh37' hh37 hh34' hh34 hh28' hh28 hh26 hh23' hh23 hh20
 have hm0:(start0 (2 * nk)).m = 2 * nk:=rfl
 have hPI0:PI (nk:Int) a b [(0,0)] [] 0:=⟨by simp,rfl,by simp; omega,fun u y v h=>by simp at h,fun u s t y s' t' h=>by omega⟩
 obtain ⟨_,_,_,slsA,hrnA,hslA,hrwsA,_⟩:=ha.rd
 obtain ⟨_,_,_,slsB,hrnB,hslB,hrwsB,_⟩:=hb.rd
 have hrnA:RdT w (.sc .sl) sn slsA:=hrnA
 have hrnB:RdT w (.sc .sl) tn slsB:=hrnB
 -- the queue
 refine ⟨fun y ds V=>∃ (i:Nat) (rs:List Nat) (st:St) (M1:Mem) (q:List (Nat × Nat)) (sq:Sl) (ci:Nat) (E:List Edg),y = (at0 b1,at0 b3,at0 b5,at0 b7,at0 b23,at0 b28,at0 b34,at0 ci,()) ∧ ds = marksOf rs ∧
   Ix w6 V rs fb st M1 b20 b28 sq q q ((ci,#[.int .i64 (i:Int)],3) :: cs0) ∧ Pl.Inv E st ∧ Both E ∧ st.m = 2 * nk ∧ st.par.length = q.length ∧ i ≤ q.length ∧ PI (nk:Int) a b q E i,
  fun y V=>match V.cell? y.2.2.2.2.2.2.2.1 with | some (.int _ i)=>401 - i.toNat | _=>0,
  ⟨0,[],_,M,_,_,b37,[],rfl,rfl,hI0,start_inv _,Both.nil,hm0,rfl,Nat.zero_le _,hPI0⟩,?_⟩
 clear hI0 hPI0
 rintro y ds g2 V ⟨i,rs,st,M1,q,sq,ci,E,rfl,rfl,hV,hI,hB,hm,hpl,hiq,hPI⟩
 dsimp only
 have hql:q.length ≤ 400:=pairs_len hPI.nodup fun p hp=>by have:=hPI.lt p hp; omega
 have hsn:sq.n = q.length:=by have:=hV.own.len; simpa using this
 have cci:∀ {W:World},W.heap[ci]? = some (.cells #[.int .i64 (i:Int)] 3 (0,0)) → W.cell? (at0 ci) = some (.int .i64 (i:Int)):=fun h=>by rw [show at0 ci = Addr.mk ci 0 none from rfl,cellOf0 h]; rfl
 have cqb:∀ {W:World} {s:Sl},W.heap[b28]? = some (.cells #[s.v] 106 (0,0)) → W.cell? (at0 b28) = some (.slice s.a s.n s.c):=fun h=>by rw [show at0 b28 = Addr.mk b28 0 none from rfl,cellOf0 h]; rfl
 have c34:∀ {W:World},W.heap[b34]? = some (.cells #[.pointer (some (at0 fb))] 76 (0,0)) → W.cell? (at0 b34) = some (.pointer (some (at0 fb))):=fun h=>by rw [show at0 b34 = Addr.mk b34 0 none from rfl,cellOf0 h]; rfl
 have c23:∀ {W:World},W.heap[b23]? = some (.cells #[.map (some b20)] 91 (0,0)) → W.cell? (at0 b23) = some (.map (some b20)):=fun h=>by rw [show at0 b23 = Addr.mk b23 0 none from rfl,cellOf0 h]; rfl
 refine LoadT.sc (s:=.int .i64) (x:=(i:Int)) (cci (hV.cells _ (List.mem_cons_self))) ?_
 refine LoadT.sc (s:=.sl) (x:=sq) (cqb hV.cq) ?_
 refine Br.dec (fun hlt=>?_) (fun hge=>?_)
 ·have hlt:(i:Int) < ((sq.n:Nat):Int):=hlt
  have hlt':i < q.length:=by rw [hsn] at hlt; omega
  have hVd:=hV.nil (Chg.drew V)
  obtain ⟨⟨s,t⟩,hst⟩:∃ p,q[i]? = some p:=⟨_,List.getElem?_eq_getElem hlt'⟩
  obtain ⟨hsl,htl⟩:=hPI.lt _ (List.mem_of_getElem? hst)
  dsimp only at hsl htl
  have hpair:∀ {q:List (Nat × Nat)},q[i]? = some (s,t) → (q.map ofP)[i]? = some ((s:Int),(t:Int),()):=fun h=>by rw [List.getElem?_map,h]; rfl
  refine LoadT.mk tA (x:=(x1,x2,sa,sn,())) (fun j v hv=>by rw [show at0 b1 = Addr.mk b1 0 none from rfl,cellOf (hVd.cells _ (List.mem_cons_of_mem _ m1)),← hav]; simpa [Ty.cells] using hv) ?_
  refine LoadT.sc (s:=.sl) (x:=sq) (cqb hVd.cq) ?_
  refine LoadT.sc (s:=.int .i64) (x:=(i:Int)) (cci (hVd.cells _ (List.mem_cons_self))) ?_
  refine hVd.own.rd.idx (t:=tP) i rfl (hpair hst) fun ad had=>?_
  refine Idx.mk 0 rfl (by decide) ?_
  refine LoadT.sc (s:=.int .i64) (x:=(s:Int)) (by have:=had 0 _ rfl; rw [Fw.add0] at this; rw [Nat.zero_mul,Fw.add0]; exact this) ?_
  refine Ret.call (edges_ret (v0:=x1) (v1:=x2) (sa:=sa) (sn:=sn) (s:Int)) ?_
  rintro _ V3 ⟨q1,q3,rfl,hq1,hq3,hc23,hB1,hB3⟩
  have hq1:V3.heap[q1]? = some (.cells av 27 (0,0)):=by rw [← hav]; exact hq1
  have hV3:=hVd.nil hc23
  have hV3':=(hV3.add hVd hq3 hB3)
  have hV4:Ix w6 V3 rs fb st M1 b20 b28 sq q q ((q1,av,27) :: (q3,#[.int .i64 (s:Int)],3) :: (ci,#[.int .i64 (i:Int)],3) :: cs0):=by
   have h1:=hV3.add hVd hq1 hB1
   refine { hV3' with cells:=fun p hp=>?_,ap:=fun k hk=>⟨(hV3'.ap k hk).1,(hV3'.ap k hk).2.1,fun p hp=>?_⟩,sep:=fun k hk=>⟨(hV3'.sep k hk).1,fun p hp=>?_⟩,qn:=fun p hp=>?_ }
   ·rcases List.mem_cons.1 hp with rfl | hp
    ·exact hq1
    ·exact hV3'.cells p hp
   ·rcases List.mem_cons.1 hp with rfl | hp
    ·exact (h1.ap k hk).2.2 _ List.mem_cons_self
    ·exact (hV3'.ap k hk).2.2 p hp
   ·rcases List.mem_cons.1 hp with rfl | hp
    ·exact (h1.sep k hk).2 _ List.mem_cons_self
    ·exact (hV3'.sep k hk).2 p hp
   ·rcases List.mem_cons.1 hp with rfl | hp
    ·exact h1.qn _ List.mem_cons_self
    ·exact hV3'.qn p hp
  obtain ⟨rowA,hrA⟩:∃ r,a.next[s]? = some r:=⟨_,List.getElem?_eq_getElem hsl⟩
  obtain ⟨rowB,hrB⟩:∃ r,b.next[t]? = some r:=⟨_,List.getElem?_eq_getElem htl⟩
  obtain ⟨rslA,hrsA⟩:∃ r,slsA[s]? = some r:=⟨_,List.getElem?_eq_getElem (by rw [hslA]; exact hsl)⟩
  obtain ⟨rslB,hrsB⟩:∃ r,slsB[t]? = some r:=⟨_,List.getElem?_eq_getElem (by rw [hslB]; exact htl)⟩
  have hrrA:=hrwsA s rslA rowA hrsA hrA
  have hrrB:=hrwsB t rslB rowB hrsB hrB
  obtain ⟨hrlA,_⟩:=hrowsA rowA (List.mem_of_getElem? hrA)
  obtain ⟨hrlB,hrvB⟩:=hrowsB rowB (List.mem_of_getElem? hrB)
  have hsz3:w6.heap.size ≤ V3.heap.size:=hV4.chg.size
  have hsz0:w.heap.size ≤ w6.heap.size:=hc06.size
  refine ⟨edgesFrom 0 rowA,_,fun n U=>∃ (st3:St) (M3:Mem) (q3':List (Nat × Nat)) (sq3:Sl) (E3:List Edg),Ix w6 U rs fb st3 M3 b20 b28 sq3 q3' q3' ((q1,av,27) :: (q3,#[.int .i64 (s:Int)],3) :: (ci,#[.int .i64 (i:Int)],3) :: cs0) ∧
    Pl.Inv E3 st3 ∧ Both E3 ∧ st3.m = 2 * nk ∧ st3.par.length = q3'.length ∧ q3'[i]? = some (s,t) ∧ PI (nk:Int) a b q3' E3 i ∧
    ∀ (ex et:Nat) (t':Nat),((ex:Int),(et:Int),()) ∈ (edgesFrom 0 rowA).take n → Dl (nk:Int) b t ex t' → ∃ v:Nat,q3'[v]? = some (et,t') ∧ (i,ex,v) ∈ E3,
   fun c U=>False,edges_gives (q0:=at0 q1) (q1:=at0 q3) (sn:=sn) (rsl:=rslA) (sls:=slsA) (s:=s) (row:=rowA) (by omega),?_,?_,?_,?_,?_,?_,?_⟩
  ·rintro n U ⟨st3,M3,q3',sq3,E3,hU,_⟩
   have hN:=hc06.then hU.chg
   exact ⟨by rw [cellOf (hU.cells _ List.mem_cons_self),← hav]; rfl,by rw [cellOf0 (hU.cells _ (List.mem_cons_of_mem _ List.mem_cons_self))]; rfl,hrnA.chg hN (fun _ _ h=>h),hrsA,hrrA.chg hN (fun _ _ h=>h)⟩
  ·rintro n U U' ⟨st3,M3,q3',sq3,E3,hU,hrest⟩ ht
   exact ⟨st3,M3,q3',sq3,E3,hU.turn ht hsz3,hrest⟩
  ·rintro c U U' hf ht
   exact hf
  ·exact ⟨st,M1,q,sq,E,hV4,hI,hB,hm,hpl,hst,hPI,fun ex et t' h=>by simp at h⟩
  ·rintro n ⟨ex,et,eu⟩ U hx ⟨st3,M3,q3',sq3,E3,hU,hI3,hB3',hm3,hp3,hst3,hPI3,hcmp⟩
   obtain ⟨nx,nt,rfl,rfl,hdl⟩:=in_edge hca hrA (List.mem_of_getElem? hx)
   have htake:(edgesFrom 0 rowA).take (n + 1) = (edgesFrom 0 rowA).take n ++ [((nx:Int),(nt:Int),eu)]:=by rw [List.take_add_one,hx]; rfl
   have hq3l:q3'.length ≤ 400:=pairs_len hPI3.nodup fun p hp=>by have:=hPI3.lt p hp; omega
   have hsn3:sq3.n = q3'.length:=by have:=hU.own.len; simpa using this
   have hUd:=hU.nil (Chg.drew U)
   have hN:=hc06.then hUd.chg
   have mci:(ci,#[.int .i64 (i:Int)],3) ∈ (q1,av,27) :: (q3,#[.int .i64 (s:Int)],3) :: (ci,#[.int .i64 (i:Int)],3) :: cs0:=by simp
   have mc0:∀ {p},p ∈ cs0 → p ∈ (q1,av,27) :: (q3,#[.int .i64 (s:Int)],3) :: (ci,#[.int .i64 (i:Int)],3) :: cs0:=fun h=>by simp [h]
   have hnxl:nx < rowB.length:=by have:=hdl.2.1; omega
   have hxv:rowB[nx]? = some rowB[nx]:=List.getElem?_eq_getElem hnxl
   have hgB:getN b.next t nx = rowB[nx]:=by
    unfold getN
    rw [List.getD_eq_getElem?_getD (l:=b.next),hrB]
    show rowB.getD nx 0 = _
    rw [List.getD_eq_getElem?_getD,hxv]; rfl
   have hvb:=hrvB _ (List.getElem_mem hnxl)
   refine LoadT.sc (s:=.sl) (x:=tn) (by rw [show at0 b3 = Addr.mk b3 0 none from rfl,cellOf (hUd.cells _ (mc0 m3)),← hbv]; rfl) ?_
   refine LoadT.sc (s:=.sl) (x:=sq3) (cqb hUd.cq) ?_
   refine LoadT.sc (s:=.int .i64) (x:=(i:Int)) (cci (hUd.cells _ mci)) ?_
   refine hUd.own.rd.idx (t:=tP) i rfl (hpair hst3) fun ad had=>?_
   refine Idx.mk 1 rfl (by decide) ?_
   refine LoadT.sc (s:=.int .i64) (x:=(t:Int)) (had 1 _ rfl) ?_
   refine (hrnB.chg (S:=Nil) hN fun _ _ h=>h).get (t:=.sc .sl) t rfl hrsB ?_
   refine (hrrB.chg (S:=Nil) hN fun _ _ h=>h).get (t:=tI) nx rfl hxv ?_
   refine Br.dec (fun hneg=>?_) (fun hpos=>?_)
   ·have hneg:rowB[nx] < 0:=hneg
    refine ⟨fun k o hk _=>hk,st3,M3,q3',sq3,E3,hUd,hI3,hB3',hm3,hp3,hst3,hPI3,fun ex et t' hmem hd=>?_⟩
    rw [htake] at hmem
    rcases List.mem_append.1 hmem with hmem | hmem
    ·exact hcmp ex et t' hmem hd
    ·simp only [List.mem_singleton,Prod.mk.injEq] at hmem
     have:ex = nx:=by omega
     subst this
     have:=hd.2.2
     omega
   have hpos:¬ rowB[nx] < 0:=hpos
   obtain ⟨nb,hnb⟩:=Int.eq_ofNat_of_zero_le (show 0 ≤ rowB[nx] by omega)
   have hdb:Dl (nk:Int) b t nx nb:=⟨htl,hdl.2.1,by rw [hgB,hnb]⟩
   have hdet:∀ t',Dl (nk:Int) b t nx t' → t' = nb:=fun t' h=>hAb.det _ _ _ _ h hdb
   have hbnd:nt < a.next.length ∧ nb < b.next.length:=⟨(edge_bas hk.2 hca hdl.1 hdl.2.1 hdl.2.2).1,(edge_bas hk.2 hcb hdb.1 hdb.2.1 hdb.2.2).1⟩
   rw [hnb]
   refine New.mk fun b74 U1 hb74 hn74 hs74 hc74=>?_
   refine StoreN.whole (vs:=[.int .i64 (nt:Int),.int .i64 (nb:Int)]) hn74 rfl fun U2 hh74 hc74' _=>?_
   have hNU2:Chg Nil U.drew U2:=hc74.trans hc74' (fun _ _ h=>h) fun i hi he=>by have he:i = b74:=he; omega
   have hU2:=hUd.nil hNU2
   have hU2':Ix w6 U2 rs fb st3 M3 b20 b28 sq3 q3' q3' ((b74,#[.int .i64 (nt:Int),.int .i64 (nb:Int)],96) :: (q1,av,27) :: (q3,#[.int .i64 (s:Int)],3) :: (ci,#[.int .i64 (i:Int)],3) :: cs0):=hU2.add hUd hh74 (by omega)
   have ms:∀ {p},p ∈ (q1,av,27) :: (q3,#[.int .i64 (s:Int)],3) :: (ci,#[.int .i64 (i:Int)],3) :: cs0 → p ∈ (b74,#[.int .i64 (nt:Int),.int .i64 (nb:Int)],96) :: (q1,av,27) :: (q3,#[.int .i64 (s:Int)],3) :: (ci,#[.int .i64 (i:Int)],3) :: cs0:=fun h=>List.mem_cons_of_mem _ h
   refine LoadT.sc (s:=.map) (x:=some b20) (c23 (hU2.cells _ (mc0 m23))) ?_
   refine LoadT.mk tP (x:=((nt:Int),(nb:Int),())) (fun j v hv=>by rw [cellOf hh74]; simpa [Ty.cells] using hv) ?_
   -- behind the choice of the state
   have hmul:∀ {st':St},st'.m = 2 * nk → st'.par.length ≤ 401 → st'.par.length * (st'.m + 1) + 2 + st'.m < big:=fun {st'} h1 h2=>by
    have:=Nat.mul_le_mul h2 (show st'.m + 1 ≤ 17 by omega)
    unfold big; omega
   have fin:∀ (st4:St) (M4:Mem) (q4:List (Nat × Nat)) (sq4:Sl) (j:Nat) (U3:World),Ix w6 U3 rs fb st4 M4 b20 b28 sq4 q4 q4 ((q1,av,27) :: (q3,#[.int .i64 (s:Int)],3) :: (ci,#[.int .i64 (i:Int)],3) :: cs0) → KeepL U U3 → Pl.Inv E3 st4 → st4.m = 2 * nk → st4.par.length = q4.length →
     q4[j]? = some (nt,nb) → q4[i]? = some (s,t) → (∀ (u:Nat) p,q3'[u]? = some p → q4[u]? = some p) → q4.Nodup → (∀ p ∈ q4,p.1 < a.next.length ∧ p.2 < b.next.length) → q4.length ≤ 400 →
     LoadT (.sc .ptr) U3 (at0 b34) fun x102=>LoadT (.sc (.int .i64)) U3 (at0 ci) fun x103=>CallN Tryd.prog 67 #[(.pointer x102),(.int .i64 x103),(.int .i64 (nx:Int)),(.int .i64 (j:Int))] [] U3 (fun r104 w105=>KeepL U w105 ∧ ∃ (st3:St) (M3:Mem) (q3':List (Nat × Nat)) (sq3:Sl) (E3:List Edg),Ix w6 w105 rs fb st3 M3 b20 b28 sq3 q3' q3' ((q1,av,27) :: (q3,#[.int .i64 (s:Int)],3) :: (ci,#[.int .i64 (i:Int)],3) :: cs0) ∧
      Pl.Inv E3 st3 ∧ Both E3 ∧ st3.m = 2 * nk ∧ st3.par.length = q3'.length ∧ q3'[i]? = some (s,t) ∧ PI (nk:Int) a b q3' E3 i ∧
      ∀ (ex et:Nat) (t':Nat),((ex:Int),(et:Int),()) ∈ (edgesFrom 0 rowA).take (n + 1) → Dl (nk:Int) b t ex t' → ∃ v:Nat,q3'[v]? = some (et,t') ∧ (i,ex,v) ∈ E3) (fun h106 w105=>False):=by
    intro st4 M4 q4 sq4 j U3 hU3 hkeep hI4 hm4 hp4 hj hi4 hext hnd4 hlt4 hq4l
    refine LoadT.sc (s:=.ptr) (x:=some (at0 fb)) (c34 (hU3.cells _ (mc0 m34))) ?_
    refine LoadT.sc (s:=.int .i64) (x:=(i:Int)) (cci (hU3.cells _ mci)) ?_
    have hxm:nx < st4.m:=by rw [hm4]; have:=hdl.2.1; omega
    have hil:i < q4.length:=(List.getElem?_eq_some_iff.1 hi4).1
    have hjl:j < q4.length:=(List.getElem?_eq_some_iff.1 hj).1
    obtain ⟨st5,⟨K,hl5⟩,hI5,hm5,hp5⟩:=link_ev hI4 (s:=i) (t:=j) (by omega) (by omega) hxm (by rw [hm4] at hxm ⊢; exact Pl.xor_lt (by omega) hxm) (hmul hm4 (by omega))
    refine RetN.call (link_ret hU3.rep (hl5 K (Nat.le_refl _))) fun _ U4 hs5=>?_
    have hst5:=hs5.step
    have hk4:=Rep.keepL hU3.rep hst5.chg
    obtain ⟨M5,hU4⟩:=hU3.step hst5
    refine ⟨fun z o hz ho=>hk4 z o (hkeep z o hz ho) ho,st5,M5,q4,sq4,_,hU4,hI5,Both.app (Both.pair _ _ _) hB3',by rw [hm5,hm4],by rw [hp5,hp4],hi4,?_,?_⟩
    ·refine ⟨hnd4,hext 0 _ hPI3.first,hlt4,fun u y v hmem=>?_,fun u s0 t0 y s' t' hu hq0 h1 h2=>?_⟩
     ·simp only [List.mem_cons,Prod.mk.injEq,List.append_eq,List.cons_append,List.nil_append] at hmem
      rcases hmem with ⟨rfl,rfl,rfl⟩ | ⟨rfl,rfl,rfl⟩ | hmem
      ·exact ⟨s,t,nt,nb,hi4,hj,hdl,hdb⟩
      ·exact ⟨nt,nb,s,t,hj,hi4,hAa.inv _ _ _ hdl,hAb.inv _ _ _ hdb⟩
      ·obtain ⟨c1,c2,c3,c4,c5,c6,c7⟩:=hPI3.snd u y v hmem
       exact ⟨c1,c2,c3,c4,hext _ _ c5,hext _ _ c6,c7⟩
     ·have hu3:u < q3'.length:=by have:=(List.getElem?_eq_some_iff.1 hst3).1; omega
      have e1:q3'[u]? = some q3'[u]:=List.getElem?_eq_getElem hu3
      have e2:=hext u _ e1
      rw [hq0] at e2
      rw [← e2] at e1
      obtain ⟨v,v1,v2⟩:=hPI3.cmp u s0 t0 y s' t' hu e1 h1 h2
      exact ⟨v,hext _ _ v1,by simp [v2]⟩
    ·intro ex et t' hmem hd
     rw [htake] at hmem
     rcases List.mem_append.1 hmem with hmem | hmem
     ·obtain ⟨v,v1,v2⟩:=hcmp ex et t' hmem hd
      exact ⟨v,hext _ _ v1,by simp [v2]⟩
     ·simp only [List.mem_singleton,Prod.mk.injEq] at hmem
      have e1:ex = nx:=by omega
      have e2:et = nt:=by omega
      subst e1 e2
      rw [hdet t' hd]
      exact ⟨j,hj,by simp⟩
   have hkU2:KeepL U U2:=fun z o hz ho=>hNU2.heap (w:=U.drew) hz fun h=>h
   by_cases hin:(nt,nb) ∈ q3'
   ·refine ⟨((((qk q3').idxOf ((nt:Int),(nb:Int)):Nat):Int),true,()),U2,lookup_num_in (qk_nodup hPI3.nodup) hU2.map (qk_mem.2 hin),?_⟩
    refine Join.by' (fun z W=>z = (at0 b34,at0 ci,(nx:Int),(((qk q3').idxOf ((nt:Int),(nb:Int)):Nat):Int),()) ∧ W = U2) ?_ ?_
    ·rintro z W g ⟨rfl,hW⟩
     rw [hW]; clear hW
     exact fin st3 M3 q3' sq3 _ U2 hU2 hkU2 hI3 hm3 hp3 (qk_idx hin) hst3 (fun _ _ h=>h) hPI3.nodup hPI3.lt hq3l
    ·intro J hJ
     exact Br.f rfl (hJ _ _ ⟨rfl,rfl⟩)
   ·have hnk:((nt:Int),(nb:Int)) ∉ qk q3':=fun h=>hin (qk_mem.1 h)
    refine ⟨((0:Int),false,()),U2,lookup_num_out hU2.map hnk,?_⟩
    have hnd4:(q3' ++ [(nt,nb)]).Nodup:=List.nodup_append.2 ⟨hPI3.nodup,by simp,fun x hx y hy he=>by simp only [List.mem_singleton] at hy; subst hy; subst he; exact hin hx⟩
    have hlt4:∀ p ∈ q3' ++ [(nt,nb)],p.1 < a.next.length ∧ p.2 < b.next.length:=fun p hp=>by
     rcases List.mem_append.1 hp with hp | hp
     ·exact hPI3.lt p hp
     ·simp only [List.mem_singleton] at hp; subst hp; exact hbnd
    have hq4l:(q3' ++ [(nt,nb)]).length ≤ 400:=pairs_len hnd4 fun p hp=>by have:=hlt4 p hp; omega
    refine Join.by' (fun z W=>∃ (st4:St) (M4:Mem) (sq4:Sl),z = (at0 b34,at0 ci,(nx:Int),((q3'.length:Nat):Int),()) ∧ Ix w6 W rs fb st4 M4 b20 b28 sq4 (q3' ++ [(nt,nb)]) (q3' ++ [(nt,nb)]) ((q1,av,27) :: (q3,#[.int .i64 (s:Int)],3) :: (ci,#[.int .i64 (i:Int)],3) :: cs0) ∧ KeepL U W ∧
      Pl.Inv E3 st4 ∧ st4.m = 2 * nk ∧ st4.par.length = q3'.length + 1) ?_ ?_
    ·rintro z W g ⟨st4,M4,sq4,rfl,hW,hkW,hI4,hm4,hp4⟩
     exact fin st4 M4 _ sq4 q3'.length W hW hkW hI4 hm4 (by rw [hp4]; simp) (by simp) (get_app hst3) (fun _ _ h=>get_app h) hnd4 hlt4 hq4l
    ·intro J hJ
     refine Br.t rfl ?_
     refine LoadT.sc (s:=.ptr) (x:=some (at0 fb)) (c34 (hU2.cells _ (mc0 m34))) ?_
     obtain ⟨st4,hs4,hI4,hm4,hp4⟩:=state_ev hI3 (by unfold big; omega)
     refine Ret.call (state_ret hU2'.rep hs4) ?_
     rintro _ U3 ⟨rfl,hst4⟩
     have hk3:=Rep.keepL hU2'.rep hst4.chg
     obtain ⟨M4,hU3⟩:=hU2'.step hst4
     refine LoadT.sc (s:=.map) (x:=some b20) (c23 (hU3.cells _ (ms (mc0 m23)))) ?_
     refine LoadT.mk tP (x:=((nt:Int),(nb:Int),())) (fun j v hv=>by rw [cellOf (hU3.cells _ List.mem_cons_self)]; simpa [Ty.cells] using hv) ?_
     obtain ⟨U4,hrun4,hm4',hc4⟩:=updateP_new under91 hU3.map (t:=((nt:Int),(nb:Int))) (numL_new hnk) (.int .i64 ((st3.par.length:Nat):Int))
     have hkl:(qk q3').length = st3.par.length:=by rw [hp3]; unfold qk; simp
     rw [← hkl,numL_append] at hm4'
     have hqa:qk q3' ++ [((nt:Int),(nb:Int))] = qk (q3' ++ [(nt,nb)]):=by unfold qk; simp
     rw [hqa] at hm4'
     refine ⟨U4,hrun4,?_⟩
     have hU4:=hU3.mapTo hc4 hm4'
     refine LoadT.sc (s:=.sl) (x:=sq3) (cqb hU4.cq) ?_
     refine LoadT.mk tP (x:=((nt:Int),(nb:Int),())) (fun j v hv=>by rw [cellOf (hU4.cells _ List.mem_cons_self)]; simpa [Ty.cells] using hv) ?_
     refine New.mk fun b93 U5 hb93 hn93 _ hc93=>?_
     have hU5:=hU4.nil hc93
     have hml:(q3'.map ofP).length = q3'.length:=List.length_map ..
     refine OwnT.append (t:=tP) (m:=1) ok106 rfl (by decide) hU5.own [((nt:Int),(nb:Int),())] rfl (by decide) (fun i v hv=>by rw [cellOf hn93]; simpa [Ty.cells] using hv) (by rw [hml]; omega) (by rw [hml]; simp only [maxLen]; omega) fun sq4 U6 ho6 hc6 hown6=>?_
     have hqb6:=hc6.heap hU5.cq fun hk=>(hU5.sep _ hk).1 rfl
     refine Store1.at0' hqb6 (by show 0 < 1; decide) rfl fun U7 hqb7 hc7 _=>?_
     have ho6':OwnT U6 96 tP sq4 ((q3' ++ [(nt,nb)]).map ofP):=by rw [List.map_append]; exact ho6
     have hU7:=hU5.push ho6' hc6 hown6 hc7 hqb7
     have hsn4:sq4.n = q3'.length + 1:=by have:=ho6.len; simpa using this
     refine LoadT.sc (s:=.sl) (x:=sq4) (cqb hU7.cq) ?_
     refine Br.no (by rw [hsn4]; omega) ?_
     have hk7:KeepL U U7:=by
      intro z o hz ho
      have g3:=hk3 z o (hkU2 z o hz ho) ho
      have nm:¬ z = b20:=fun he=>by
       obtain ⟨es,cl,hmm,_⟩:=hU3.map
       rw [he,hmm] at g3; cases g3; cases ho
      have g5:=hc93.heap (hc4.heap g3 nm) fun h=>h
      have g6:=hc6.heap g5 fun hk=>by
       obtain ⟨c,hcc⟩:=hU5.own.elem hk
       rw [hcc] at g5; cases g5; cases ho
      exact hc7.heap g6 fun he=>by
       have he:z = b28:=he
       rw [he,hqb6] at g6; cases g6; cases ho
     refine hJ _ _ ⟨st4,M4,sq4,?_,hU7.sub fun p hp=>ms hp,hk7,hI4,by rw [hm4,hm3],by rw [hp4,hp3]⟩
     rw [hp3]
  ·rintro d U hd hlo ⟨st3,M3,q3',sq3,E3,hU,hI3,hB3',hm3,hp3,hst3,hPI3,hcmp⟩
   have hnr:d ∉ rs:=fun hr=>by have:=lt_of_heap (hV4.mks.2 d hr); omega
   have hq3l:q3'.length ≤ 400:=pairs_len hPI3.nodup fun p hp=>by have:=hPI3.lt p hp; omega
   have mci:(ci,#[.int .i64 (i:Int)],3) ∈ (q1,av,27) :: (q3,#[.int .i64 (s:Int)],3) :: (ci,#[.int .i64 (i:Int)],3) :: cs0:=by simp
   have hUm:=hU.mark hd (by omega) hnr
   refine LoadT.sc (s:=.int .i64) (x:=(i:Int)) (cci (hU.cells _ mci)) ?_
   refine New.mk fun b108 U1 hb108 hn108 _ hc108=>?_
   refine Store1.at0' hn108 (by show 0 < 1; decide) rfl fun U2 hh108 hc108' _=>?_
   refine LoadT.sc (s:=.int .i64) (x:=(i:Int)) (by rw [cellOf0 hh108]; rfl) ?_
   have hil:i < q3'.length:=(List.getElem?_eq_some_iff.1 hst3).1
   rw [wrap64 (x:=(i:Int) + 1) (by omega) (by omega)]
   refine Store1.at0' hh108 (by show 0 < 1; decide) rfl fun U3 hh108' hc108'' _=>?_
   have hNU:Chg Nil U U3:=(hc108.trans hc108' (fun _ _ h=>h) fun i hi he=>by have he:i = b108:=he; omega).trans hc108'' (fun _ _ h=>h) fun i hi he=>by have he:i = b108:=he; omega
   have hU3:=hUm.nil hNU
   have hU4:=(hU3.add hUm hh108' (by omega)).sub (cs':=(b108,#[.int .i64 ((i + 1:Nat):Int)],3) :: cs0) fun p hp=>by
    rcases List.mem_cons.1 hp with rfl | hp
    ·simp
    ·simp [hp]
   refine ⟨⟨i + 1,d :: rs,st3,M3,q3',sq3,b108,E3,rfl,rfl,hU4,hI3,hB3',hm3,hp3,hil,⟨hPI3.nodup,hPI3.first,hPI3.lt,hPI3.snd,fun u s0 t0 y s' t' hu hq0 h1 h2=>?_⟩⟩,?_⟩
   ·by_cases hui:u < i
    ·exact hPI3.cmp u s0 t0 y s' t' hui hq0 h1 h2
    ·have:u = i:=by omega
     subst this
     rw [hst3] at hq0
     cases hq0
     refine hcmp y s' t' ?_ h2
     rw [List.take_length]
     exact edge_in hca h1 hrA
   ·rw [cellOf0 hh108',cci (hV.cells _ List.mem_cons_self)]
    show 401 - ((i:Int) + 1).toNat < 401 - ((i:Int)).toNat
    omega
  ·rintro c d U hd hlo hf
   exact hf.elim
 ·have hiq':i = q.length:=by have h:¬ (i:Int) < ((sq.n:Nat):Int):=hge; rw [hsn] at h; omega
  have h0q:0 < q.length:=(List.getElem?_eq_some_iff.1 hPI.first).1
  refine LoadT.sc (s:=.ptr) (x:=some (at0 fb)) (c34 (hV.cells _ (List.mem_cons_of_mem _ m34))) ?_
  refine RetN.call (made_lang (w0:=w6) (k:=nk) (v:=0) hV.rep hV.chg hV.foot hI hB (by omega) hm (by omega) (by omega)) ?_
  rintro ⟨⟨z1,z2,ua,un,_⟩,z3,_⟩ V1 ⟨o,hF,hN1,hcF,hAu,hz3⟩
  have h5V:=hN1.heap h56 fun h=>h
  have h7V:=hN1.heap h76 fun h=>h
  refine StoreN.whole (vs:=[.int .i64 z1,.int .i64 z2,ua.v,un.v]) h5V rfl fun V2 hh5' hc5' _=>?_
  have h7V2:=hc5'.heap h7V fun he=>by have he:b7 = b5:=he; omega
  refine Store1.at0' h7V2 (by show 0 < 1; decide) rfl fun V3 hh7' hc7' _=>?_
  have h5V3:=hc7'.heap hh5' fun he=>by have he:b5 = b7:=he; omega
  have hmk1:Marks V1 rs:=hV.mks.chg hcF fun r hr hk=>by
   obtain ⟨c,e,hcc,_⟩:=Rep.foot_cells hV.rep hk
   have:=hV.mks.2 r hr
   rw [hcc] at this; cases this
  have hmk3:Marks V3 rs:=(hmk1.chg hc5' fun r hr he=>by
   have he:r = b5:=he
   have:=hmk1.2 r hr
   rw [he,h5V] at this; cases this).chg hc7' fun r hr he=>by
   have he:r = b7:=he
   have:=hmk1.2 r hr
   rw [he,h7V] at this; cases this
  refine retM_marks rs V3 hmk3 fun V4 hc4=>?_
  have h5V4:=hc4.heap h5V3 fun hr=>by have:=hmk3.2 _ hr; rw [h5V3] at this; cases this
  have h7V4:=hc4.heap hh7' fun hr=>by have:=hmk3.2 _ hr; rw [hh7'] at this; cases this
  refine LoadT.mk tA (x:=(z1,z2,ua,un,())) (fun j v hv=>by rw [show at0 b5 = Addr.mk b5 0 none from rfl,cellOf h5V4]; simpa [Ty.cells] using hv) ?_
  refine LoadT.sc (s:=.int .i64) (x:=z3) (by rw [show at0 b7 = Addr.mk b7 0 none from rfl,cellOf0 h7V4]; rfl) ?_
  have hP:Prd (nk:Int) a b q:=⟨hPI.nodup,hPI.first,hPI.lt,fun u s t y s' t' h1 h2 h3=>by
   obtain ⟨v,v1,_⟩:=hPI.cmp u s t y s' t' (by rw [hiq']; exact (List.getElem?_eq_some_iff.1 h1).1) h1 h2 h3
   exact ⟨v,v1⟩⟩
  have hFD:FoldedD nk (prodD (nk:Int) a b q) 0 o:=foldedD_iff hF fun u y v=>by
   show (u,y,v) ∈ E ↔ _
   refine ⟨hPI.snd u y v,?_⟩
   rintro ⟨s,t,s',t',h1,h2,h3,h4⟩
   obtain ⟨v',v1,v2⟩:=hPI.cmp u s t y s' t' (by rw [hiq']; exact (List.getElem?_eq_some_iff.1 h1).1) h1 h3 h4
   have hv:v' = v:=by
    exact (List.getElem?_inj (List.getElem?_eq_some_iff.1 v1).1 hPI.nodup).1 (v1.trans h2.symm)
   rw [← hv]; exact v2
  have hres:=IntIs.ok (k:=(nk:Int)) hz hP hFD
  have hS:Chg (fun k=>k = b5 ∨ k = b7 ∨ k ∈ rs) V1 V4:=((hc5'.mono fun _ _ h=>.inl h).then (hc7'.mono fun _ _ h=>.inr (.inl h))).then (hc4.mono fun _ _ h=>.inr (.inr h))
  refine ⟨((z1,z2,ua,un,()),z3,()),rfl,_,hres,?_,hAu V4 _ hS fun r hr=>?_,hz3⟩
  ·refine (hc06.then hN1).trans hS (fun _ _ h=>h) fun j hj hr=>?_
   rcases hr with hr | hr | hr
   ·omega
   ·omega
   ·have:=hV.mB j hr; have:=hc06.size; omega
  ·have:=hV.chg.size
   rcases hr with hr | hr | hr
   ·omega
   ·omega
   ·exact lt_of_heap (hV.mks.2 r hr)
end Go.Proofs.YtffdjfkekdoeaaaDoor.Fo
end
section
set_option maxRecDepth 8000
set_option maxHeartbeats 4000000
namespace Go.Proofs.YtffdjfkekdoeaaaDoor.Fo
open Go.ChangeShapes Go.WideShapes Go.ChangeAt Go.Deep
open Fw Wd
theorem rd_rowsW {H:Type} {enc:TypeId × Value → H} {W:World} {held:Bool} {fuel:Nat} {v:Value} {y:DataW H × List MemPlace} (h:DataW.trod enc Tryd.prog W 0 (fun _=>true) held fuel 25 [v] = some y) (hw:∀ n ∈ y.1.weights Tryd.prog 25,n ≤ reachBytes) :
  ∃ (s:Sl) (sls:List Sl) (l:List (List Int)),v = s.v ∧ RdT W (.sc .sl) s sls ∧ sls.length = l.length ∧ (∀ (i:Nat) (s:Sl) (r:List Int),sls[i]? = some s → l[i]? = some r → RdT W tI s r) ∧ l.length ≤ maxLen ∧ (∀ r ∈ l,r.length ≤ maxLen) ∧ ∀ r ∈ l,r.length * 8 ≤ 140737488351232:=by
 rcases open_int_rows under25 under85 under3 (by kernel_rfl) (by kernel_rfl) h with ⟨hv,_⟩ | ⟨a,len,cap,A,L,C,Z,hv,_,hl,hm,hy,hc⟩
 ·simp only [List.cons.injEq,and_true] at hv
  subst hv
  exact ⟨⟨none,0,0⟩,[],[],rfl,RdT.nil _ _ _ _,rfl,fun i s r hi=>by simp at hi,Nat.zero_le _,by simp,by simp⟩
 ·simp only [List.cons.injEq,and_true] at hv
  subst hv
  refine ⟨⟨some a,len,cap⟩,(List.range len).map fun r=>⟨A r,L r,C r⟩,(List.range len).map fun r=>(Z r).take (L r),rfl,⟨by simp,fun i x hx=>⟨a,rfl,fun j u hu=>?_⟩⟩,by simp,fun i s r hs hr=>?_,by simp; omega,fun r hr=>?_,fun r hr=>?_⟩
  ·obtain ⟨hi,rfl⟩:=list_ofFn_get len _ i x hx
   cases j with
   | succ j=>simp [Ty.cells] at hu
   | zero=>
    simp only [Ty.cells,List.getElem?_cons_zero,Option.some.injEq] at hu
    subst hu
    rw [add0,show i * Ty.sz (.sc .sl) = i by simp [Ty.sz]]
    exact (hc i (by omega)).1
  ·obtain ⟨hi,rfl⟩:=list_ofFn_get len _ i s hs
   obtain ⟨_,rfl⟩:=list_ofFn_get len _ i r hr
   obtain ⟨_,q1,q2,q3,_,q5,q6⟩:=hc i (by omega)
   refine ⟨by simp; omega,fun j x hx=>?_⟩
   rw [List.getElem?_take] at hx
   split at hx
   ·rename_i hj
    cases hA:A i with
    | none=>have:=q5 hA; omega
    | some a'=>
     refine ⟨a',rfl,fun m u hu=>?_⟩
     cases m with
     | succ m=>simp [Ty.cells] at hu
     | zero=>
      simp only [Ty.cells,List.getElem?_cons_zero,Option.some.injEq] at hu
      subst hu
      rw [add0,show j * Ty.sz tI = j by simp [Ty.sz]]
      have:=(q6 a' hA).2 j (by omega)
      rw [this,List.getD_eq_getElem?_getD,hx]; rfl
   ·cases hx
  ·obtain ⟨i,hi,rfl⟩:=List.mem_map.1 hr
   obtain ⟨_,q1,q2,q3,_⟩:=hc i (by have:=List.mem_range.1 hi; omega)
   simp; omega
  ·obtain ⟨i,hi,rfl⟩:=List.mem_map.1 hr
   have hil:=List.mem_range.1 hi
   obtain ⟨_,q1,q2,q3,_,q5,q6⟩:=hc i (by omega)
   have b3:Tryd.prog.bytesOf 3 = 8:=by kernel_rfl
   cases hA:A i with
   | none=>have:=q5 hA; simp; omega
   | some a'=>
    have:=hw ((L i + (C i - L i)) * 8) (by
     rw [hy]
     simp only [DataW.weights,under25,List.mem_cons,List.mem_append]
     refine .inr (.inl (weights_all (List.mem_map.2 ⟨i,hi,rfl⟩) _ ?_))
     simp only [intRow,hA,DataW.weights,under85,List.mem_cons,b3]
     refine .inl ?_
     simp [lits,q3]
     omega)
    have hr:reachBytes = 140737488351232:=rfl
    simp; omega
theorem open_autW {H:Type} {enc:TypeId × Value → H} {W:World} {base:Nat} {v:Value} {d:DataW H} {p:List MemPlace} (hv:Value.okWide Tryd.prog W .any base 27 v) (h:DataW.Trod enc Tryd.prog W 0 (fun _=>true) true 27 v d p) (hw:∀ n ∈ d.weights Tryd.prog 27,n ≤ reachBytes) :
  ∃ (x:Int × Int × Sl × Sl × Unit) (a:Aut),v = .agg #[.int .i64 x.1,.int .i64 x.2.1,x.2.2.1.v,x.2.2.2.1.v] ∧ AutIn W x a ∧ ∀ r ∈ a.next,r.length * 8 ≤ 140737488351232:=by
 have hs:Tryd.prog.underlying 27 = some (.struct (Tryd.prog.fieldsOf 27)):=by kernel_rfl
 have hone:oneCellFields Tryd.prog (Tryd.prog.fieldsOf 27) = true:=by kernel_rfl
 have hC:Tryd.prog.cellsOf 27 = 4:=by kernel_rfl
 have hty:(Tryd.prog.fieldsOf 27).map (·.type) = #[3,3,24,25]:=by kernel_rfl
 have c4:Tryd.prog.cellsOf 4 = 1:=by kernel_rfl
 have c85:Tryd.prog.cellsOf 85 = 1:=by kernel_rfl
 have c3:Tryd.prog.cellsOf 3 = 1:=by kernel_rfl
 obtain ⟨f0,f1,f2,f3,hf⟩:=Joins.array4 (cs:=Tryd.prog.fieldsOf 27) (by kernel_rfl)
 rw [hf] at hs hone hty
 simp only [List.map_toArray,List.map_cons,List.map_nil,Array.mk.injEq,List.cons.injEq,and_true] at hty
 obtain ⟨t0,t1,t2,t3⟩:=hty
 obtain ⟨v0,v1,v2,v3,y0,y1,y2,y3,n,rfl,rfl,rfl,h0,h1,h2,h3⟩:=Joins.open_agg4 hs hone hC hv h
 rw [t0] at h0
 rw [t1] at h1
 rw [t2] at h2
 rw [t3] at h3
 obtain ⟨k0,e0,_⟩:=DataW.trod_int under3 h0
 obtain ⟨k1,e1,_⟩:=DataW.trod_int under3 h1
 simp only [List.cons.injEq,and_true] at e0 e1
 obtain ⟨sa,acc,rfl,hacc,hl⟩:=rd_bools h2
 have hty2:(Tryd.prog.fieldsOf 27).toList.map (·.type) = [3,3,24,25]:=by kernel_rfl
 rw [hf] at hty2
 obtain ⟨sn,sls,next,rfl,hn,hsl,hrow,hln,hlr,hlw⟩:=rd_rowsW h3 (fun n hn=>hw n (by
  simp only [DataW.weights,hs]
  rw [hty2]
  simp only [DataW.weightsEach,List.mem_append]
  exact .inr (.inr (.inr (.inl hn)))))
 subst e0; subst e1
 exact ⟨(k0,k1,sa,sn,()),⟨k0,k1,acc,next⟩,rfl,⟨rfl,rfl,⟨hacc,fun _ _=>Nat.zero_le _,fun _ _=>Nat.zero_le _,sls,hn,hsl,hrow,fun _ _ _ _=>Nat.zero_le _⟩,hl,hln,hlr⟩,hlw⟩
end Go.Proofs.YtffdjfkekdoeaaaDoor.Fo
end
