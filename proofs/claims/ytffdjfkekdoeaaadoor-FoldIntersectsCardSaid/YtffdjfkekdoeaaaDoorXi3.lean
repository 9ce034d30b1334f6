/- Parts of a proof, laid one behind the other by our own merge.py: FmFold FmEdges FmFsa FmCheck FmCheck2 FmExam FmIndex FmLeads FmMember FmPairs FmGrownM FmGrown FmGrown1 FmGrown2 FmBasis FmExpress Sh3 LwSane LwRow Sh2 RfWord RfReduce RfSame. -/
import Derived.Test.YtffdjfkekdoeaaaDoorXi2
import Derived.Test.YtffdjfkekdoeaaaDoorXi1
import Derived.Test.YtffdjfkekdoeaaaDoorProg
import Derived.KernelRfl
import Derived.Laws.StructEq
import Derived.Test.YtffdjfkekdoeaaaDoorRows
import Derived.ProofKit
import Derived.LaidMore
import Derived.OpenShut
import Derived.ShutString
import Derived.Stop.Joined
import Derived.Below
import Derived.SizedLaws
import Derived.Carry
import Derived.Lib.LaidTab
import Derived.Lib.SmallJoins
import Derived.Deep.Matrix
import Derived.Deep.Grids
import Derived.Deep.Strs
set_option linter.unusedVariables false
set_option linter.unusedSimpArgs false
section
set_option maxRecDepth 4000
set_option maxHeartbeats 1600000
namespace Go.Proofs.YtffdjfkekdoeaaaDoor.Fo
open Fw Wd
theorem isRank_ret (w:World) (k:Int):Ret Tryd.prog 44 #[.int .i64 k] (.sc .bool) w fun x w'=>x = decide (1 ≤ k ∧ k ≤ 8) ∧ w' = w:=by
 refine fold_isRank.calls _ ?_
 unfold fold_isRank.sh
 refine Br.dec (fun h=>⟨_,rfl,?_,rfl⟩) (fun h=>⟨_,rfl,?_,rfl⟩)
 ·have h1:1 ≤ k:=h
  simp [h1]
 ·have h1:¬ 1 ≤ k:=h
  simp [h1]
def wordF (s:ByteArray):List Nat:=(redF s.data.toList).map fun b=>(idxF (ofB b)).toNat
inductive FoldR where
 | ok (m:Nat) (nexts:List Row)
 | err (c:Int)
def sizes (gens:List ByteArray):Nat:=(gens.map (·.size)).sum
def FoldF (K:Nat) (k:Int) (gens:List ByteArray):Option FoldR:=
 if ¬ (1 ≤ k ∧ k ≤ 8) then some (.err 1)
 else if 200 < gens.length ∨ 20000 < sizes gens then some (.err 2)
 else if gens.any (fun s=>checkF k s != 0) then some (.err 4)
 else match allF K (start0 (2 * k.toNat)) (gens.map wordF) with
  | none=>none
  | some st=>
   if st.next.length ≤ big ∧ 0 < st.m then
    match madeF K st 0 with
    | none=>none
    | some none=>some (.err 2)
    | some (some nexts)=>some (.ok st.m nexts)
   else none
def foldPost (w:World) (res:FoldR) (e:Ending) (w':World):Prop:=
 Chg Nil w w' ∧ match res with
  | .ok m nexts=>∃ sa sn,e = .returned (.tuple #[.agg #[.int .i64 (m:Int),.int .i64 0,sa.v,sn.v],.int .i64 0]) ∧ AutR w.heap.size w' sa sn (accF nexts.length) (nexts.map (·.map ofO))
  | .err c=>e = .returned (.tuple #[.agg #[.int .i64 0,.int .i64 0,.slice none 0 0,.slice none 0 0],.int .i64 c])
theorem redStep_mem {P:UInt8 → Prop} {out:List UInt8} {c:UInt8} (h:∀ b ∈ out,P b) (hc:P c):∀ b ∈ redStep out c,P b:=by
 unfold redStep
 split
 ·exact fun b hb=>h b ((List.dropLast_sublist out).mem hb)
 ·intro b hb
  rcases List.mem_append.1 hb with hb | hb
  ·exact h b hb
  ·simp only [List.mem_singleton] at hb; subst hb; exact hc
theorem redFold_mem {P:UInt8 → Prop}:∀ (l out:List UInt8),(∀ b ∈ out,P b) → (∀ b ∈ l,P b) → ∀ b ∈ l.foldl redStep out,P b
 | [],out,h,_=>h
 | c :: l,out,h,hl=>redFold_mem l (redStep out c) (redStep_mem h (hl c (by simp))) fun b hb=>hl b (by simp [hb])
theorem check_bad {k:Int} {s:ByteArray} (h:checkF k s = 0):1 ≤ k ∧ k ≤ 8 ∧ s.size ≤ 100000 ∧ hasBad k s = false:=by
 unfold checkF at h
 split at h
 ·cases h
 ·split at h
  ·cases h
  ·split at h
   ·cases h
   ·rename_i h1 h2 h3
    exact ⟨by omega,by omega,by omega,by simpa using h3⟩
theorem bad_mono {k:Int} {c:Int} (hk:k ≤ 8) (h:badF k c = false):badF 8 c = false ∧ 0 ≤ idxF c:=by
 simp only [badF,Bool.or_eq_false_iff,decide_eq_false_iff_not] at h ⊢
 omega
theorem check8 {k:Int} {s:ByteArray} (h:checkF k s = 0):checkF 8 s = 0 ∧ ∀ b ∈ s.data.toList,0 ≤ idxF (ofB b):=by
 obtain ⟨h1,h2,h3,h4⟩:=check_bad h
 unfold hasBad at h4
 rw [List.any_eq_false] at h4
 have hb:∀ b ∈ s.data.toList,badF 8 (b.toNat:Int) = false ∧ 0 ≤ idxF (b.toNat:Int):=fun b hb=>bad_mono h2 (by simpa using h4 b hb)
 refine ⟨?_,fun b hx=>(hb b hx).2⟩
 unfold checkF
 rw [if_neg (by omega),if_neg (by omega),if_neg]
 unfold hasBad
 rw [Bool.not_eq_true,List.any_eq_false]
 exact fun b hx=>by simp [(hb b hx).1]
theorem idxs_word {k:Int} {s:ByteArray} (h:checkF k s = 0):Idxs (ReduceF s) (wordF s) ∧ (ReduceF s).size ≤ 100000:=by
 obtain ⟨h8,hi⟩:=check8 h
 have hr:ReduceF s = ⟨(redF s.data.toList).toArray⟩:=by rw [ReduceF,if_pos h8]
 rw [hr]
 constructor
 ·unfold Idxs wordF
  show (redF s.data.toList).map _ = _
  rw [List.map_map]
  refine List.map_congr_left fun b hb=>?_
  have:=redFold_mem (P:=fun b=>0 ≤ idxF (ofB b)) s.data.toList [] (by simp) hi b hb
  simp only [Function.comp,ofN]
  omega
 ·show (redF s.data.toList).toArray.size ≤ 100000
  have:=redFold_len s.data.toList []
  have:=(check_bad h).2.2.1
  simp [redF] at *
  omega
theorem sizes_snoc (l:List ByteArray) (s:ByteArray):sizes (l ++ [s]) = sizes l + s.size:=by simp [sizes]
theorem sizes_take (l:List ByteArray) (i:Nat):sizes (l.take i) ≤ sizes l:=by
 have:sizes l = sizes (l.take i) + sizes (l.drop i):=by
  conv=>lhs; rw [← List.take_append_drop i l]
  simp only [sizes,List.map_append,List.sum_append]
 omega
theorem Fold_ret {w:World} (hl:Laid w) {sl:Sl} {gens:List ByteArray} (hg:RdT w (.sc .str) sl gens) (hsum:gens.length ≤ 200 → sizes gens ≤ 4611686018427387904) (hlen:gens.length ≤ 9223372036854775807) {K:Nat} {k:Int} {res:FoldR} (hf:FoldF K k gens = some res) :
  Calls Tryd.prog 12 #[.int .i64 k,sl.v] w (foldPost w res):=by
 refine fold_Fold.calls _ _ ?_
 unfold fold_Fold.sh
 have hn:sl.n = gens.length:=hg.len
 refine New.mk fun b1 w1 hb1 hn1 hsz1 hc1=>?_
 refine Ret.call (isRank_ret w1 k) ?_
 rintro _ w1' ⟨rfl,hw1'⟩
 rw [hw1']
 clear hw1'
 unfold FoldF at hf
 -- an error
 have herr:∀ (wa:World) (c:Int) (cs:Array Value),Chg Nil w wa → wa.heap[b1]? = some (.cells cs 27 (0,0)) → cs.size = 4 → res = .err c →
   StoreN wa (Addr.mk b1 0 none) [(.int .i64 0),(.int .i64 0),(.slice none 0 0),(.slice none 0 0)] fun w6=>
   LoadT (.agg [.int .i64,.int .i64,.sl,.sl]) w6 (Addr.mk b1 0 none) fun x7=>
   foldPost w res (.returned (.tuple #[(.agg #[(.int .i64 x7.1),(.int .i64 x7.2.1),(.slice x7.2.2.1.a x7.2.2.1.n x7.2.2.1.c),(.slice x7.2.2.2.1.a x7.2.2.2.1.n x7.2.2.2.1.c)]),(.int .i64 c)])) w6:=by
  intro wa c cs hca hha hcs hres
  refine StoreN.whole hha (by rw [hcs]; rfl) fun w6 hh6 hc6 _=>?_
  refine LoadT.mk (.agg [.int .i64,.int .i64,.sl,.sl]) (x:=((0:Int),(0:Int),(⟨none,0,0⟩:Sl),(⟨none,0,0⟩:Sl),())) (fun j v hv=>by rw [cellOf hh6]; simpa [Ty.cells] using hv) ?_
  refine ⟨hca.trans hc6 (fun _ _ h=>h) fun i hi he=>(by have he:i = b1:=he; omega),?_⟩
  subst hres
  rfl
 split at hf
 ·rename_i hk
  cases hf
  refine Br.t (by rw [decide_eq_false hk]; rfl) ?_
  exact herr w1 1 _ hc1 hn1 rfl rfl
 rename_i hk
 have hk:1 ≤ k ∧ k ≤ 8:=by
  by_cases h:1 ≤ k ∧ k ≤ 8
  ·exact h
  ·exact absurd h hk
 refine Br.f (by rw [decide_eq_true hk]; rfl) ?_
 -- the sum
 refine LoopT.mk (fun x w'=>∃ (i:Nat) (sm:Int),i ≤ gens.length ∧ x = (k,sl,Addr.mk b1 0 none,sm,sl,((sl.n:Nat):Int),(i:Int),()) ∧ w' = w1 ∧ (gens.length ≤ 200 → sm = ((sizes (gens.take i):Nat):Int))) (fun x _=>gens.length - x.2.2.2.2.2.2.1.toNat) ⟨0,0,Nat.zero_le _,rfl,rfl,fun _=>rfl⟩ ?_
 rintro x g w1' ⟨i,sm,hi,rfl,hw1',hsm⟩
 rw [hw1']
 clear hw1'
 dsimp only
 have hg1:RdT w1 (.sc .str) sl gens:=hg.chg hc1 fun _ _ h=>h
 refine Br.dec (fun hlt=>?_) (fun hge=>?_)
 ·have hlt':i < gens.length:=by omega
  refine hg1.get (t:=.sc .str) i rfl (x:=gens[i]) (List.getElem?_eq_getElem hlt') ?_
  have ht:gens.take (i + 1) = gens.take i ++ [gens[i]]:=by rw [List.take_add_one,List.getElem?_eq_getElem hlt']; rfl
  have hss:sizes (gens.take (i + 1)) = sizes (gens.take i) + gens[i].size:=by rw [ht,sizes_snoc]
  have:=sizes_take gens (i + 1)
  rw [wrap64 (x:=(i:Int) + 1) (by omega) (by omega)]
  refine ⟨⟨i + 1,_,hlt',rfl,rfl,fun h200=>?_⟩,?_⟩
  ·have:=hsum h200
   rw [hsm h200,hss,wrap64 (by omega) (by omega)]; rfl
  ·show gens.length - (i + 1) < gens.length - i
   omega
 have hin:i = gens.length:=by omega
 subst hin
 rw [List.take_length] at hsm
 refine Join.by' (fun x w'=>∃ b:Bool,x = (k,sl,Addr.mk b1 0 none,b,()) ∧ w' = w1 ∧ (b = true ↔ (200 < gens.length ∨ 20000 < sizes gens))) ?_ ?_
 rotate_left
 ·intro J hJ
  refine Br.dec (fun h=>hJ _ _ ⟨true,rfl,rfl,?_⟩) (fun h=>hJ _ _ ⟨_,rfl,rfl,?_⟩)
  ·simp only [true_iff]; left; omega
  ·have:=hsm (by omega)
   rw [decide_eq_true_iff]; omega
 rintro x w1' g2 ⟨b,rfl,hw1',hb⟩
 rw [hw1']
 clear hw1'
 dsimp only
 split at hf
 ·rename_i hbig
  cases hf
  exact Br.t (hb.2 hbig) (herr w1 2 _ hc1 hn1 rfl rfl)
 rename_i hsmall
 refine Br.f (by cases b with | false=>rfl | true=>exact absurd (hb.1 rfl) hsmall) ?_
 -- the words are words
 refine LoopT.mk (fun x w'=>∃ i:Nat,i ≤ gens.length ∧ x = (k,sl,Addr.mk b1 0 none,sl,((sl.n:Nat):Int),(i:Int),()) ∧ Chg Nil w w' ∧ w'.heap[b1]? = some zeroAut ∧ ∀ s ∈ gens.take i,checkF k s = 0) (fun x _=>gens.length - x.2.2.2.2.2.1.toNat) ⟨0,Nat.zero_le _,rfl,hc1,hn1,by simp⟩ ?_
 rintro x g3 w2 ⟨i,hi,rfl,hc2,hz2,hok⟩
 dsimp only
 have hg2:RdT w2 (.sc .str) sl gens:=hg.chg hc2 fun _ _ h=>h
 refine Br.dec (fun hlt=>?_) (fun hge=>?_)
 ·have hlt':i < gens.length:=by omega
  refine hg2.get (t:=.sc .str) i rfl (x:=gens[i]) (List.getElem?_eq_getElem hlt') ?_
  refine Ret.call (check_ret (hl.nil hc2) k gens[i]) ?_
  rintro _ w3 ⟨rfl,hc3⟩
  refine Br.mk (fun hbad=>?_) (fun hgood=>?_)
  ·have hne:checkF k gens[i] ≠ 0:=by simpa using hbad
   have hany:gens.any (fun s=>checkF k s != 0) = true:=List.any_eq_true.2 ⟨gens[i],List.getElem_mem hlt',by simpa using hne⟩
   rw [if_pos hany] at hf
   cases hf
   exact herr w3 4 _ (hc2.then hc3) (hc3.heap hz2 fun h=>h) rfl rfl
  ·have hz:checkF k gens[i] = 0:=by simpa using hgood
   have ht:gens.take (i + 1) = gens.take i ++ [gens[i]]:=by rw [List.take_add_one,List.getElem?_eq_getElem hlt']; rfl
   refine ⟨⟨i + 1,hlt',?_,hc2.then hc3,hc3.heap hz2 fun h=>h,?_⟩,?_⟩
   ·rw [wrap64 (by omega) (by omega)]; rfl
   ·rw [ht]
    intro s hs
    rcases List.mem_append.1 hs with hs | hs
    ·exact hok s hs
    ·simp only [List.mem_singleton] at hs; subst hs; exact hz
   ·rw [wrap64 (by omega) (by omega)]
    show gens.length - (i + 1) < gens.length - i
    omega
 have hin:i = gens.length:=by omega
 subst hin
 rw [List.take_length] at hok
 have hany:gens.any (fun s=>checkF k s != 0) = false:=by
  rw [List.any_eq_false]; exact fun s hs=>by simp [hok s hs]
 rw [if_neg (by rw [hany]; simp)] at hf
 split at hf
 ·cases hf
 rename_i st hall
 split at hf
 case isFalse=>cases hf
 rename_i hst
 obtain ⟨kn,rfl⟩:=Int.eq_ofNat_of_zero_le (show 0 ≤ k by omega)
 refine Ret.call (start_ret kn (by omega) (by omega)) ?_
 rintro _ w3 ⟨fb,M,rfl,hr3,hc3,hf3⟩
 have hlt0:0 < w2.heap.size:=by obtain ⟨_,_,h⟩:=hl.nil hc2; exact lt_of_heap h
 have s2:=hc2.size
 have s3:=hc3.size
 have hb1lt:b1 < w2.heap.size:=lt_of_heap hz2
 have hz3:w3.heap[b1]? = some zeroAut:=hc3.heap hz2 fun h=>h
 have htn:((kn:Nat):Int).toNat = kn:=rfl
 rw [htn] at hall
 refine LoopT.mk (fun x w'=>∃ (i:Nat) (st1:St),i ≤ gens.length ∧ x = (Addr.mk b1 0 none,some (at0 fb),sl,((sl.n:Nat):Int),(i:Int),()) ∧ Step fb M w3 w' st1 ∧ allF K st1 ((gens.drop i).map wordF) = some st) (fun x _=>gens.length - x.2.2.2.2.1.toNat)
  ⟨0,start0 (2 * kn),Nat.zero_le _,rfl,⟨⟨M,hr3,fun _ h=>.inl h⟩,Chg.refl w3⟩,hall⟩ ?_
 rintro x g4 w4 ⟨i,st1,hi,rfl,⟨⟨M1,hr4,hf4⟩,hc4⟩,hall1⟩
 dsimp only
 have hM1:∀ k,M1.foot fb k → w2.heap.size ≤ k:=fun k hk=>by
  rcases hf4 k hk with h | h
  ·exact hf3 k h
  ·omega
 have hc24:Chg Nil w2 w4:=hc3.trans hc4 (fun _ _ h=>h) fun i hi hk=>by have:=hf3 i hk; omega
 have hc04:Chg Nil w w4:=hc2.then hc24
 have hz4:w4.heap[b1]? = some zeroAut:=hc24.heap hz2 fun h=>h
 have hg4:RdT w4 (.sc .str) sl gens:=hg.chg hc04 fun _ _ h=>h
 refine Br.dec (fun hlt=>?_) (fun hge=>?_)
 ·have hlt':i < gens.length:=by omega
  have hdrop:gens.drop i = gens[i] :: gens.drop (i + 1):=List.drop_eq_getElem_cons hlt'
  rw [hdrop,List.map_cons] at hall1
  simp only [allF] at hall1
  split at hall1
  ·cases hall1
  rename_i st2 hpath
  refine hg4.get (t:=.sc .str) i rfl (x:=gens[i]) (List.getElem?_eq_getElem hlt') ?_
  refine Ret.call (Reduce_ret (hl.nil hc04) gens[i]) ?_
  rintro _ w5 ⟨rfl,hc5⟩
  obtain ⟨hidx,hsz⟩:=idxs_word (hok gens[i] (List.getElem_mem hlt'))
  refine RetN.call (path_ret ((hl.nil hc04).nil hc5) (hr4.nil hc5) (fun h0=>by have:=hM1 0 h0; omega) (by omega) hidx hpath) fun _ w6 hs6=>?_
  refine ⟨⟨i + 1,st2,hlt',?_,hs6.pre (hc4.then hc5.nil) hf4,hall1⟩,?_⟩
  ·rw [wrap64 (by omega) (by omega)]; rfl
  ·rw [wrap64 (by omega) (by omega)]
   show gens.length - (i + 1) < gens.length - i
   omega
 have hin:i = gens.length:=by omega
 subst hin
 rw [List.drop_eq_nil_of_le (Nat.le_refl _),List.map_nil] at hall1
 simp only [allF,Option.some.injEq] at hall1
 subst hall1
 split at hf
 ·cases hf
 ·rename_i hmade
  cases hf
  refine Calls.mono (made_ret hr4 hst.1 hst.2 hmade) ?_
  rintro e w5 ⟨hc5,rfl⟩
  refine ⟨(((0:Int),(0:Int),(⟨none,0,0⟩:Sl),(⟨none,0,0⟩:Sl),()),(2:Int),()),rfl,?_⟩
  have hc25:Chg Nil w2 w5:=hc24.trans hc5 (fun _ _ h=>h) fun i hi hk=>by have:=hM1 i hk; omega
  exact herr w5 2 _ (hc2.then hc25) (hc25.heap hz2 fun h=>h) rfl rfl
 ·rename_i nexts hmade
  cases hf
  refine Calls.mono (made_ret hr4 hst.1 hst.2 hmade) ?_
  rintro e w5 ⟨hc5,sa,sn,rfl,haut⟩
  refine ⟨(((st1.m:Int),(0:Int),sa,sn,()),(0:Int),()),rfl,?_⟩
  have hc25:Chg Nil w2 w5:=hc24.trans hc5 (fun _ _ h=>h) fun i hi hk=>by have:=hM1 i hk; omega
  have hz5:w5.heap[b1]? = some zeroAut:=hc25.heap hz2 fun h=>h
  refine StoreN.whole (vs:=[.int .i64 (st1.m:Int),.int .i64 0,sa.v,sn.v]) hz5 rfl fun w6 hh6 hc6 _=>?_
  refine LoadT.mk (.agg [.int .i64,.int .i64,.sl,.sl]) (x:=((st1.m:Int),(0:Int),sa,sn,())) (fun j v hv=>by rw [cellOf hh6]; simpa [Ty.cells] using hv) ?_
  have s24:=hc24.size
  refine ⟨(hc2.then hc25).trans hc6 (fun _ _ h=>h) fun i hi he=>(by have he:i = b1:=he; omega),sa,sn,rfl,?_⟩
  exact (haut.chg hc6 fun k hk he=>by have he:k = b1:=he; omega).mono (by omega)
end Go.Proofs.YtffdjfkekdoeaaaDoor.Fo
end
section
set_option maxRecDepth 4000
namespace Go.Proofs.YtffdjfkekdoeaaaDoor.Fo
open Fw Wd
theorem YieldT.mono {P:Program} {l:Nat} {args:Array Value} {w:World} {K K':Bool → World → Prop} (h:YieldT P l args w K) (hk:∀ b w',K b w' → K' b w'):YieldT P l args w K':=by
 obtain ⟨f,tmps,assign,body,hr,h⟩:=h
 refine ⟨f,tmps,assign,body,hr,RoundIn.mono h fun e w' he=>?_⟩
 cases e with
 | returned v=>obtain ⟨b,hb,h⟩:=he; exact ⟨b,hb,hk b w' h⟩
 | panicked _=>exact he
 | outgrown=>exact he
def edgesFrom:Nat → List Int → List (Int × Int × Unit)
 | _,[]=>[]
 | y,t :: l=>if 0 ≤ t then ((y:Int),t,()) :: edgesFrom (y + 1) l else edgesFrom (y + 1) l
theorem edgesFrom_append:∀ (a b:List Int) (y:Nat),edgesFrom y (a ++ b) = edgesFrom y a ++ edgesFrom (y + a.length) b
 | [],b,y=>by simp [edgesFrom]
 | t :: a,b,y=>by
  rw [List.cons_append,edgesFrom,edgesFrom,edgesFrom_append a b (y + 1)]
  rw [show y + 1 + a.length = y + (t :: a).length by simp; omega]
  split <;> simp
theorem edges_gives {q0 q1:Addr} {sn rsl:Sl} {sls:List Sl} {s:Nat} {row:List Int} (hb:row.length ≤ 1000000000) :
  Gives Tryd.prog 88 #[] #[.pointer (some q0),.pointer (some q1)] [.sc (.int .i64),.sc (.int .i64)] (edgesFrom 0 row)
   (fun W=>W.cell? (q0.add 3) = some sn.v ∧ W.cell? q1 = some (.int .i64 (s:Int)) ∧ RdT W (.sc .sl) sn sls ∧ sls[s]? = some rsl ∧ RdT W tI rsl row):=by
 intro l J Jx W hC hJ hJx hy h0
 refine fold_edges_c1.calls l q0 q1 ?_
 unfold fold_edges_c1.sh
 obtain ⟨c1,c2,c3,c4,c5⟩:=hC 0 W h0
 refine LoadT.sc (s:=.sl) (x:=sn) c1 (LoadT.sc (s:=.int .i64) (x:=(s:Int)) c2 ?_)
 refine c3.get (t:=.sc .sl) s rfl c4 ?_
 have hn:rsl.n = row.length:=c5.len
 refine LoopT.mk (fun x w'=>∃ y:Nat,y ≤ row.length ∧ x = (l,rsl,((rsl.n:Nat):Int),(y:Int),()) ∧ J (edgesFrom 0 (row.take y)).length w') (fun x _=>row.length - x.2.2.2.1.toNat) ⟨0,Nat.zero_le _,rfl,h0⟩ ?_
 rintro x g w1 ⟨y,hyle,rfl,hj⟩
 dsimp only
 refine Br.dec (fun hlt=>?_) (fun hge=>?_)
 ·have hlt':y < row.length:=by omega
  obtain ⟨_,_,_,_,d5⟩:=hC _ w1 hj
  have hry:row[y]? = some row[y]:=List.getElem?_eq_getElem hlt'
  have ht:row.take (y + 1) = row.take y ++ [row[y]]:=by rw [List.take_add_one,hry]; rfl
  have hlen:(row.take y).length = y:=by simp; omega
  have hw:IntKind.wrap .i64 ((y:Int) + 1) = ((y + 1:Nat):Int):=by rw [wrap64 (by omega) (by omega)]; rfl
  have hmu:row.length - (y + 1) < row.length - y:=by omega
  have he:edgesFrom 0 (row.take (y + 1)) = edgesFrom 0 (row.take y) ++ edgesFrom y [row[y]]:=by rw [ht,edgesFrom_append,hlen,Nat.zero_add]
  refine d5.get (t:=tI) y rfl hry ?_
  rw [hw]
  refine Br.dec (fun hp=>?_) (fun hnp=>?_)
  ·have hp':0 ≤ row[y]:=hp
   have he1:edgesFrom y [row[y]] = [((y:Int),row[y],())]:=by simp [edgesFrom,hp']
   rw [he1] at he
   have hat:(edgesFrom 0 row)[(edgesFrom 0 (row.take y)).length]? = some ((y:Int),row[y],()):=by
    have hr:row = row.take (y + 1) ++ row.drop (y + 1):=(List.take_append_drop _ _).symm
    rw [show edgesFrom 0 row = edgesFrom 0 (row.take (y + 1) ++ row.drop (y + 1)) by rw [← hr],edgesFrom_append,he]
    simp
   refine YieldT.mono (hy _ _ w1 hat hj) fun b w2 hb=>?_
   rcases hb with ⟨rfl,hb⟩ | ⟨rfl,hb⟩
   ·refine Br.f rfl ⟨⟨y + 1,hlt',rfl,?_⟩,hmu⟩
    rw [he,List.length_append]; exact hb
   ·exact Br.t rfl ⟨rfl,.inr hb⟩
  ·have hnp':¬ 0 ≤ row[y]:=hnp
   have he1:edgesFrom y [row[y]] = []:=by simp [edgesFrom,hnp']
   rw [he1,List.append_nil] at he
   refine Br.f rfl ⟨⟨y + 1,hlt',rfl,?_⟩,hmu⟩
   rw [he]; exact hj
 ·have hyl:y = row.length:=by omega
  subst hyl
  rw [List.take_length] at hj
  exact ⟨rfl,.inl hj⟩
theorem edges_ret {w:World} {v0 v1:Int} {sa sn:Sl} (s:Int) :
  Ret Tryd.prog 64 #[.agg #[.int .i64 v0,.int .i64 v1,sa.v,sn.v],.int .i64 s] (.sc (.clo 88 2)) w fun x w'=>∃ b1 b3,x = (at0 b1,at0 b3,()) ∧ w'.heap[b1]? = some (.cells #[.int .i64 v0,.int .i64 v1,sa.v,sn.v] 27 (0,0)) ∧ w'.heap[b3]? = some (.cells #[.int .i64 s] 3 (0,0)) ∧
   Chg Nil w w' ∧ w.heap.size ≤ b1 ∧ w.heap.size ≤ b3:=by
 refine fold_edges.calls v0 v1 sa sn s ?_
 unfold fold_edges.sh
 refine New.mk fun b1 w1 hb1 hn1 hsz1 hc1=>?_
 refine New.mk fun b3 w2 hb3 hn3 hsz3 hc2=>?_
 have:=hc1.size
 exact ⟨_,rfl,b1,b3,rfl,hc2.heap hn1 fun h=>h,hn3,hc1.then hc2,by omega,by omega⟩
end Go.Proofs.YtffdjfkekdoeaaaDoor.Fo
end
section
set_option maxRecDepth 4000
set_option maxHeartbeats 1000000
namespace Go.Proofs.YtffdjfkekdoeaaaDoor.Fo
open Fw Wd
def badRow (sym n:Int) (row:List Int):Bool:=(row.length:Int) != sym || row.any fun t=>decide (t < -1) || decide (t ≥ n)
def fsaF (sym start:Int) (acc:List Bool) (next:List (List Int)):Int:=
 if sym < 1 ∨ sym > 400 ∨ (acc.length:Int) > 20000 ∨ next.length ≠ acc.length ∨ start < 0 ∨ start ≥ max (acc.length:Int) 1 then 60
 else if next.any (badRow sym acc.length) then 60 else 0
theorem max_run (w:World) (a b:Int):(Builtin.max_ #[3,3] 3 #[(.int .i64 a),(.int .i64 b)]).run Tryd.prog w = .ok (.int .i64 (max a b)) w:=by
 rw [run_max_int2]
 congr 2
 rw [Int.max_def]
 split <;> split <;> omega
theorem fsa_ret {w:World} {sym start:Int} {sa sn:Sl} {acc:List Bool} {next:List (List Int)} (h:AutR 0 w sa sn acc next) (hacc:acc.length ≤ maxLen) (hnext:next.length ≤ maxLen) (hrow:∀ r ∈ next,r.length ≤ maxLen) :
  Ret Tryd.prog 63 #[.agg #[.int .i64 sym,.int .i64 start,sa.v,sn.v]] tI w fun x w'=>x = fsaF sym start acc next ∧ Chg Nil w w':=by
 refine fsa_Check.calls sym start sa sn ?_
 unfold fsa_Check.sh
 refine New.mk fun b1 w1 hb1 hn1 hsz1 hc1=>?_
 have hml:maxLen = 9223372036854775807:=rfl
 have h1:=h.nil hc1
 obtain ⟨hra,_,_,sls,hrn,hsl,hrows,_⟩:=h1
 have hna:sa.n = acc.length:=hra.len
 have hnn:sn.n = next.length:=by rw [hrn.len,hsl]
 have c0:w1.cell? ((at0 b1).add 0) = some (.int .i64 sym):=by rw [cellOf hn1]; rfl
 have c1:w1.cell? ((at0 b1).add 1) = some (.int .i64 start):=by rw [cellOf hn1]; rfl
 have c2:w1.cell? ((at0 b1).add 2) = some sa.v:=by rw [cellOf hn1]; rfl
 have c3:w1.cell? ((at0 b1).add 3) = some sn.v:=by rw [cellOf hn1]; rfl
 refine LoadT.sc (s:=.sl) (x:=sa) c2 ?_
 rw [hna]
 refine Join.by' (fun x w'=>x = (at0 b1,(acc.length:Int),()) ∧ w' = w1 ∧ ¬ (sym < 1 ∨ sym > 400 ∨ (acc.length:Int) > 20000 ∨ next.length ≠ acc.length ∨ start < 0 ∨ start ≥ max (acc.length:Int) 1)) ?_ ?_
 ·rintro x w' g ⟨rfl,hw,hok⟩
  rw [hw]
  clear hw
  dsimp only
  have hf:fsaF sym start acc next = if next.any (badRow sym acc.length) then 60 else 0:=by unfold fsaF; rw [if_neg hok]
  rw [hf]
  refine LoadT.sc (s:=.sl) (x:=sn) c3 ?_
  refine LoopT.mk (fun x w'=>∃ i:Nat,i ≤ next.length ∧ x = (at0 b1,(acc.length:Int),sn,((sn.n:Nat):Int),(i:Int),()) ∧ w' = w1 ∧ (next.take i).any (badRow sym acc.length) = false) (fun x _=>next.length - x.2.2.2.2.1.toNat) ⟨0,Nat.zero_le _,rfl,rfl,rfl⟩ ?_
  rintro x g2 w2 ⟨i,hi,rfl,hw,hgood⟩
  rw [hw]
  clear hw
  dsimp only
  refine Br.dec (fun hlt=>?_) (fun hge=>?_)
  ·have hlt':i < next.length:=by omega
   have hri:next[i]? = some next[i]:=List.getElem?_eq_getElem hlt'
   obtain ⟨s,hs⟩:∃ s,sls[i]? = some s:=⟨_,List.getElem?_eq_getElem (by rw [hsl]; exact hlt')⟩
   have hr:=hrows i s _ hs hri
   have hsn:s.n = next[i].length:=hr.len
   have hrl:=hrow next[i] (List.getElem_mem hlt')
   have hany:∀ b,badRow sym acc.length next[i] = b → next.any (badRow sym acc.length) = true ∨ b = false:=fun b hb=>by
    cases b with
    | false=>exact .inr rfl
    | true=>exact .inl (List.any_eq_true.2 ⟨next[i],List.getElem_mem hlt',hb⟩)
   refine hrn.get (t:=.sc .sl) i rfl hs ?_
   refine LoadT.sc (s:=.int .i64) (x:=sym) c0 ?_
   refine Br.mk (fun hne=>?_) (fun heq=>?_)
   ·have hb:badRow sym acc.length next[i] = true:=by
     unfold badRow; rw [← hsn,hne,Bool.true_or]
    rcases hany true hb with h | h
    ·exact ⟨_,rfl,by rw [h]; rfl,hc1⟩
    ·cases h
   have hlen:(next[i].length:Int) = sym:=by rw [← hsn]; simpa using heq
   refine LoopT.mk (fun x w'=>∃ y:Nat,y ≤ next[i].length ∧ x = (at0 b1,(acc.length:Int),sn,((sn.n:Nat):Int),(i:Int),s,((s.n:Nat):Int),(y:Int),()) ∧ w' = w1 ∧ (next[i].take y).any (fun t=>decide (t < -1) || decide (t ≥ (acc.length:Int))) = false) (fun x _=>next[i].length - x.2.2.2.2.2.2.2.1.toNat) ⟨0,Nat.zero_le _,rfl,rfl,rfl⟩ ?_
   rintro x g3 w3 ⟨y,hy,rfl,hw,hgy⟩
   rw [hw]
   clear hw
   dsimp only
   refine Br.dec (fun hylt=>?_) (fun hyge=>?_)
   ·have hyl:y < next[i].length:=by omega
    have hyt:next[i][y]? = some next[i][y]:=List.getElem?_eq_getElem hyl
    have ht:next[i].take (y + 1) = next[i].take y ++ [next[i][y]]:=by rw [List.take_add_one,hyt]; rfl
    have hbadT:(decide (next[i][y] < -1) || decide (next[i][y] ≥ (acc.length:Int))) = true → next.any (badRow sym acc.length) = true:=fun hb=>by
     have:badRow sym acc.length next[i] = true:=by
      unfold badRow
      rw [Bool.or_eq_true]; right
      exact List.any_eq_true.2 ⟨next[i][y],List.getElem_mem hyl,hb⟩
     rcases hany true this with h | h
     ·exact h
     ·cases h
    refine hr.get (t:=tI) y rfl hyt ?_
    have hmu:next[i].length - (y + 1) < next[i].length - y:=by omega
    refine Br.dec (fun hlo=>Br.t rfl ⟨_,rfl,by rw [hbadT (by simp [hlo])]; rfl,hc1⟩) (fun hlo=>?_)
    refine Br.dec (fun hhi=>⟨_,rfl,by rw [hbadT (by simp [hhi])]; rfl,hc1⟩) (fun hhi=>?_)
    rw [wrap64 (by omega) (by omega)]
    refine ⟨⟨y + 1,hyl,rfl,rfl,?_⟩,hmu⟩
    rw [ht,List.any_append,hgy]
    simp [hlo,hhi]
   ·have hyl:y = next[i].length:=by omega
    rw [hyl,List.take_length] at hgy
    rw [wrap64 (by omega) (by omega)]
    have ht:next.take (i + 1) = next.take i ++ [next[i]]:=by rw [List.take_add_one,hri]; rfl
    refine ⟨⟨i + 1,hlt',rfl,rfl,?_⟩,?_⟩
    ·rw [ht,List.any_append,hgood]
     simp only [List.any_cons,List.any_nil,Bool.or_false,Bool.false_or]
     unfold badRow
     rw [hgy,hlen]; simp
    ·show next.length - (i + 1) < next.length - i
     omega
  ·have:i = next.length:=by omega
   rw [this,List.take_length] at hgood
   exact ⟨_,rfl,by rw [hgood]; rfl,hc1⟩
 ·intro J hJ
  have hbad:(sym < 1 ∨ sym > 400 ∨ (acc.length:Int) > 20000 ∨ next.length ≠ acc.length ∨ start < 0 ∨ start ≥ max (acc.length:Int) 1) → fsaF sym start acc next = 60:=fun h=>by unfold fsaF; rw [if_pos h]
  refine LoadT.sc (s:=.int .i64) (x:=sym) c0 ?_
  refine Br.dec (fun h=>Br.t rfl ⟨_,rfl,(hbad (.inl h)).symm,hc1⟩) (fun h1=>LoadT.sc (s:=.int .i64) (x:=sym) c0 ?_)
  refine Br.dec (fun h=>Br.t rfl ⟨_,rfl,(hbad (.inr (.inl h))).symm,hc1⟩) (fun h2=>?_)
  refine Br.dec (fun h=>Br.t rfl ⟨_,rfl,(hbad (.inr (.inr (.inl h)))).symm,hc1⟩) (fun h3=>?_)
  refine LoadT.sc (s:=.sl) (x:=sn) c3 ?_
  rw [hnn]
  refine Br.mk (fun h=>Br.t rfl ⟨_,rfl,(hbad (.inr (.inr (.inr (.inl fun he=>by rw [he] at h; simp at h))))).symm,hc1⟩) (fun h4=>?_)
  have h4':next.length = acc.length:=by have:(next.length:Int) = acc.length:=by simpa using h4
                                        omega
  refine LoadT.sc (s:=.int .i64) (x:=start) c1 ?_
  refine Br.dec (fun h=>Br.t rfl ⟨_,rfl,(hbad (.inr (.inr (.inr (.inr (.inl h)))))).symm,hc1⟩) (fun h5=>?_)
  refine LoadT.sc (s:=.int .i64) (x:=start) c1 ?_
  refine ⟨max (acc.length:Int) 1,w1,max_run w1 _ _,?_⟩
  refine Br.dec (fun h=>⟨_,rfl,(hbad (.inr (.inr (.inr (.inr (.inr h)))))).symm,hc1⟩) (fun h6=>?_)
  refine hJ _ _ ⟨rfl,rfl,?_⟩
  rintro (h | h | h | h | h | h)
  ·exact h1 h
  ·exact h2 h
  ·exact h3 h
  ·exact h h4'
  ·exact h5 h
  ·exact h6 h
end Go.Proofs.YtffdjfkekdoeaaaDoor.Fo
end
section
set_option maxRecDepth 4000
set_option maxHeartbeats 2000000
namespace Go.Proofs.YtffdjfkekdoeaaaDoor.Fo
open Fw Wd
theorem KeepL.of_chg {S:Nat → Prop} {W W':World} (h:Chg S W W') (hs:∀ k,S k → ∃ cs e f,W.heap[k]? = some (.cells cs e f)):KeepL W W':=fun k o hk ho=>by
 refine h.heap hk fun hS=>?_
 obtain ⟨cs,e,f,hc⟩:=hs k hS
 rw [hk] at hc; cases hc; cases ho
theorem Store1.at0' {w:World} {b:Nat} {cs:Array Value} {t:TypeId} (h:w.heap[b]? = some (.cells cs t (0,0))) (hk:0 < cs.size) {v:Value} {cs':Array Value} (hcs:cs.setIfInBounds 0 v = cs') {K:World → Prop}
  (hK:∀ w',w'.heap[b]? = some (.cells cs' t (0,0)) → Chg (· = b) w w' → w'.heap.size = w.heap.size → K w'):Store1 w (at0 b) v K:=by
 rw [← add0 (at0 b)]; exact Store1.at h 0 hk hcs hK
def toO (t:Int):Option Nat:=if t < 0 then none else some t.toNat
theorem ofO_toO {t:Int} (h:-1 ≤ t):ofO (toO t) = t:=by
 unfold toO; split
 ·simp [ofO]; omega
 ·simp [ofO]; omega
theorem row_toO {row:List Int} (h:∀ t ∈ row,-1 ≤ t):(row.map toO).map ofO = row:=by
 rw [List.map_map]
 conv=>rhs; rw [← List.map_id row]
 exact List.map_congr_left fun t ht=>ofO_toO (h t ht)
def scanE (next:List (List Int)) (s:Nat):List (Int × Int × Unit) → Nat → Option Nat
 | [],seen=>some seen
 | (x,t,_) :: l,seen=>if (next.getD t.toNat []).getD (x.toNat ^^^ 1) 0 ≠ (s:Int) ∨ t > (seen:Int) then none else scanE next s l (if t = (seen:Int) then seen + 1 else seen)
def scanR (acc:List Bool) (next:List (List Int)):Nat → List (List Int) → Nat → Option Nat
 | s,[],seen=>some seen
 | s,row :: l,seen=>
  if acc.getD s false ≠ (s == 0) ∨ (0 < s ∧ degF (row.map toO) < 2) ∨ seen ≤ s then none
  else match scanE next s (edgesFrom 0 row) seen with
   | none=>none
   | some seen'=>scanR acc next (s + 1) l seen'
def checkG (k sym start:Int) (acc:List Bool) (next:List (List Int)):Int:=
 if ¬ (1 ≤ k ∧ k ≤ 8) then 1
 else if fsaF sym start acc next ≠ 0 ∨ sym ≠ 2 * k ∨ next.length < 1 ∨ 2000 < next.length ∨ start ≠ 0 then 210
 else match scanR acc next 0 next 1 with
  | some seen=>if seen = next.length then 0 else 210
  | none=>210
theorem fsa_spec {sym start:Int} {acc:List Bool} {next:List (List Int)} (h:fsaF sym start acc next = 0) :
  next.length = acc.length ∧ ∀ r ∈ next,(r.length:Int) = sym ∧ ∀ t ∈ r,-1 ≤ t ∧ t < (next.length:Int):=by
 unfold fsaF at h
 split at h
 ·cases h
 rename_i hc
 split at h
 ·cases h
 rename_i hb
 have h1:next.length = acc.length:=by
  by_cases he:next.length = acc.length
  ·exact he
  ·exact absurd (.inr (.inr (.inr (.inl he)))) hc
 refine ⟨h1,fun r hr=>?_⟩
 have hb':next.any (badRow sym acc.length) = false:=by simpa using hb
 have:=List.any_eq_false.1 hb' r hr
 unfold badRow at this
 simp only [Bool.or_eq_true,not_or,bne_iff_ne,ne_eq,Decidable.not_not,Bool.not_eq_true] at this
 refine ⟨this.1,fun t ht=>?_⟩
 have h2:=List.any_eq_false.1 this.2 t ht
 simp only [Bool.or_eq_true,decide_eq_true_eq,not_or] at h2
 omega
theorem edges_len:∀ (l:List Int) (y:Nat),(edgesFrom y l).length ≤ l.length
 | [],y=>by simp [edgesFrom]
 | a :: l,y=>by
  rw [edgesFrom]
  have:=edges_len l (y + 1)
  split <;> simp <;> omega
theorem xor_fin:∀ n:Fin 9,∀ x:Fin 16,x.val < 2 * n.val → x.val ^^^ 1 < 2 * n.val:=by decide
theorem xor_even {x n:Nat} (hn:n ≤ 8) (h:x < 2 * n):x ^^^ 1 < 2 * n:=xor_fin ⟨n,by omega⟩ ⟨x,by omega⟩ h
theorem edges_mem:∀ (l:List Int) (y:Nat) (x t:Int) (u:Unit),(x,t,u) ∈ edgesFrom y l → 0 ≤ t ∧ t ∈ l ∧ (y:Int) ≤ x ∧ x < (y:Int) + l.length
 | [],y,x,t,u,h=>by simp [edgesFrom] at h
 | a :: l,y,x,t,u,h=>by
  rw [edgesFrom] at h
  split at h
  ·rename_i ha
   rcases List.mem_cons.1 h with h | h
   ·simp only [Prod.mk.injEq] at h
    obtain ⟨rfl,rfl,_⟩:=h
    exact ⟨ha,by simp,Int.le_refl _,by simp; omega⟩
   ·obtain ⟨h1,h2,h3,h4⟩:=edges_mem l (y + 1) x t u h
    exact ⟨h1,by simp [h2],by omega,by simp at h4 ⊢; omega⟩
  ·obtain ⟨h1,h2,h3,h4⟩:=edges_mem l (y + 1) x t u h
   exact ⟨h1,by simp [h2],by omega,by simp at h4 ⊢; omega⟩
end Go.Proofs.YtffdjfkekdoeaaaDoor.Fo
end
section
set_option maxRecDepth 4000
set_option maxHeartbeats 4000000
namespace Go.Proofs.YtffdjfkekdoeaaaDoor.Fo
open Fw Wd
theorem Check_ret {w:World} {k sym start:Int} {sa sn:Sl} {acc:List Bool} {next:List (List Int)} (h:AutR 0 w sa sn acc next) (hacc:acc.length ≤ maxLen) (hnext:next.length ≤ maxLen) (hrow:∀ r ∈ next,r.length ≤ maxLen) :
  Ret Tryd.prog 29 #[.int .i64 k,.agg #[.int .i64 sym,.int .i64 start,sa.v,sn.v]] tI w fun x w'=>x = checkG k sym start acc next ∧ Chg Nil w w':=by
 refine fold_Check.calls k sym start sa sn ?_
 unfold fold_Check.sh
 refine New.mk fun b1 w1 hb1 hn1 hsz1 hc1=>?_
 refine New.mk fun b3 w2 hb3 hn3 hsz3 hc2=>?_
 have s1:=hc1.size
 have hc02:=hc1.then hc2
 have h12:=hc2.heap hn1 fun h=>h
 generalize hres:checkG k sym start acc next = res
 -- an ending
 have fin:∀ (W:World) (rs:List Nat) (c v:Int),Chg Nil w W → W.heap[b3]? = some (.cells #[.int .i64 v] 28 (0,0)) → Marks W rs → (∀ r ∈ rs,w.heap.size ≤ r) → res = c →
   Store1 W (at0 b3) (.int .i64 c) fun w'=>RetM (marksOf rs) w' fun z=>LoadT (.sc (.int .i64)) z (at0 b3) fun x=>(∃ y:Int,(Ending.returned (.int .i64 x)) = .returned (tI.val y) ∧ y = res ∧ Chg Nil w z):=by
  intro W rs c v hc h3 hm hB hr
  refine Store1.at0' h3 (by show 0 < 1; decide) rfl fun w' hh hc' _=>?_
  have hnm:∀ r ∈ rs,r ≠ b3:=fun r hr he=>by
   have:=hm.2 r hr; subst he; rw [h3] at this; cases this
  refine retM_marks rs w' (hm.chg hc' fun r hr he=>hnm r hr he) fun z hz=>?_
  have hz3:=hz.heap hh fun hm=>hnm b3 hm rfl
  refine LoadT.sc (s:=.int .i64) (x:=c) (by rw [cellOf0 hz3]; rfl) ⟨c,rfl,hr.symm,(hc.trans hc' (fun _ _ h=>h) fun i hi he=>?_).trans hz (fun _ _ h=>h) fun i hi hk=>?_⟩
  ·have he:i = b3:=he; omega
  ·have:=hB i hk; omega
 refine Ret.call (isRank_ret w2 k) ?_
 rintro _ w2' ⟨rfl,hw⟩
 rw [hw]
 clear hw
 have hmk0:Marks w2 []:=⟨List.nodup_nil,fun r hr=>by simp at hr⟩
 by_cases hk:1 ≤ k ∧ k ≤ 8
 case neg=>
  refine Br.t (by rw [decide_eq_false hk]; rfl) ?_
  exact fin w2 [] 1 0 hc02 hn3 hmk0 (by simp) (by rw [← hres,checkG,if_pos hk])
 refine Br.f (by rw [decide_eq_true hk]; rfl) ?_
 have hres2:res = if fsaF sym start acc next ≠ 0 ∨ sym ≠ 2 * k ∨ next.length < 1 ∨ 2000 < next.length ∨ start ≠ 0 then 210
   else match scanR acc next 0 next 1 with | some seen=>if seen = next.length then 0 else 210 | none=>210:=by
  rw [← hres,checkG,if_neg (by simpa using hk)]
  (try rfl)
 have hbad:(fsaF sym start acc next ≠ 0 ∨ sym ≠ 2 * k ∨ next.length < 1 ∨ 2000 < next.length ∨ start ≠ 0) → res = 210:=fun h=>by rw [hres2,if_pos h]
 refine Join.by' (fun x W=>x = (at0 b1,at0 b3,()) ∧ Chg Nil w W ∧ W.heap[b1]? = some (.cells #[.int .i64 sym,.int .i64 start,sa.v,sn.v] 27 (0,0)) ∧ W.heap[b3]? = some (.cells #[.int .i64 0] 28 (0,0)) ∧ ¬ (fsaF sym start acc next ≠ 0 ∨ sym ≠ 2 * k ∨ next.length < 1 ∨ 2000 < next.length ∨ start ≠ 0)) ?_ ?_
 rotate_left
 ·intro J hJ
  refine LoadT.mk (.agg [.int .i64,.int .i64,.sl,.sl]) (x:=(sym,start,sa,sn,())) (fun j v hv=>by rw [cellOf h12]; simpa [Ty.cells] using hv) ?_
  refine Ret.call (fsa_ret (h.nil hc02) hacc hnext hrow) ?_
  rintro _ w3 ⟨rfl,hc3⟩
  have hc03:=hc02.then hc3
  have h13:=hc3.heap h12 fun h=>h
  have h33:=hc3.heap hn3 fun h=>h
  have hmk3:Marks w3 []:=⟨List.nodup_nil,fun r hr=>by simp at hr⟩
  have hr3:=(h.nil hc03)
  have hnn:sn.n = next.length:=by obtain ⟨_,_,_,sls,h4,h5,_⟩:=hr3; rw [h4.len,h5]
  refine Br.mk (fun hne=>Br.t rfl (fin w3 [] 210 0 hc03 h33 hmk3 (by simp) (hbad (.inl (by simpa using hne))))) (fun heq=>?_)
  have hz:fsaF sym start acc next = 0:=by simpa using heq
  refine LoadT.sc (s:=.int .i64) (x:=sym) (by rw [cellOf h13]; rfl) ?_
  rw [wrap64 (by omega) (by omega)]
  refine Br.mk (fun hne=>Br.t rfl (fin w3 [] 210 0 hc03 h33 hmk3 (by simp) (hbad (.inr (.inl (by simpa using hne)))))) (fun heq2=>?_)
  have hsym:sym = 2 * k:=by simpa using heq2
  refine LoadT.sc (s:=.sl) (x:=sn) (by rw [cellOf h13]; rfl) ?_
  rw [hnn]
  refine Br.dec (fun hlt=>Br.t rfl (fin w3 [] 210 0 hc03 h33 hmk3 (by simp) (hbad (.inr (.inr (.inl (by omega))))))) (fun hge=>LoadT.sc (s:=.sl) (x:=sn) (by rw [cellOf h13]; rfl) ?_)
  rw [hnn]
  refine Br.dec (fun hgt=>Br.t rfl (fin w3 [] 210 0 hc03 h33 hmk3 (by simp) (hbad (.inr (.inr (.inr (.inl (by omega)))))))) (fun hle=>LoadT.sc (s:=.int .i64) (x:=start) (by rw [cellOf h13]; rfl) ?_)
  refine Br.mk (fun hne=>fin w3 [] 210 0 hc03 h33 hmk3 (by simp) (hbad (.inr (.inr (.inr (.inr (by simpa using hne))))))) (fun heq3=>hJ _ _ ⟨rfl,hc03,h13,h33,?_⟩)
  have hst:start = 0:=by simpa using heq3
  rintro (h | h | h | h | h)
  ·exact h hz
  ·exact h hsym
  ·omega
  ·omega
  ·exact h hst
 rintro x w3 g ⟨rfl,hc03,h13,h33,hok⟩
 dsimp only
 rw [if_neg hok] at hres2
 have hfz:fsaF sym start acc next = 0:=by by_cases h:fsaF sym start acc next = 0; exact h; exact absurd (.inl h) hok
 have hsym:sym = 2 * k:=by by_cases h:sym = 2 * k; exact h; exact absurd (.inr (.inl h)) hok
 have hn1':1 ≤ next.length:=by by_cases h:next.length < 1; exact absurd (.inr (.inr (.inl h))) hok; omega
 have hn2':next.length ≤ 2000:=by by_cases h:2000 < next.length; exact absurd (.inr (.inr (.inr (.inl h)))) hok; omega
 obtain ⟨hla,hrows⟩:=fsa_spec hfz
 refine New.mk fun bs w4 hbs hns hszs hcs=>?_
 refine Store1.at0' hns (by show 0 < 1; decide) rfl fun w5 hs5 hc5 _=>?_
 have s3:=hc03.size
 have hbsB:w.heap.size ≤ bs:=by omega
 have hc05:Chg Nil w w5:=(hc03.then hcs).trans hc5 (fun _ _ h=>h) fun i hi he=>by have he:i = bs:=he; omega
 have h14:=hcs.heap h13 fun h=>h
 have h34:=hcs.heap h33 fun h=>h
 have h15:=hc5.heap h14 fun he=>ne_of_elem h14 hns (by decide) he
 have h35:=hc5.heap h34 fun he=>ne_of_elem h34 hns (by decide) he
 refine LoadT.sc (s:=.sl) (x:=sn) (by rw [cellOf h15]; rfl) ?_
 have hnn:sn.n = next.length:=by obtain ⟨_,_,_,sls,h4,h5,_⟩:=h; rw [h4.len,h5]
 refine ⟨fun x ds W=>∃ (s seen:Nat) (rs:List Nat),s ≤ next.length ∧ x = (at0 b1,at0 b3,at0 bs,sn,((sn.n:Nat):Int),(s:Int),()) ∧ ds = marksOf rs ∧ Chg Nil w W ∧ Marks W rs ∧ (∀ r ∈ rs,w.heap.size ≤ r) ∧
   W.heap[b1]? = some (.cells #[.int .i64 sym,.int .i64 start,sa.v,sn.v] 27 (0,0)) ∧ W.heap[b3]? = some (.cells #[.int .i64 0] 28 (0,0)) ∧ W.heap[bs]? = some (.cells #[.int .i64 (seen:Int)] 3 (0,0)) ∧ seen ≤ 1 + 16 * s ∧
   scanR acc next s (next.drop s) seen = scanR acc next 0 next 1,fun x _=>next.length - x.2.2.2.2.2.1.toNat,
  ⟨0,1,[],Nat.zero_le _,rfl,rfl,hc05,⟨List.nodup_nil,fun r hr=>by simp at hr⟩,by simp,h15,h35,hs5,by omega,rfl⟩,?_⟩
 rintro x ds g2 W ⟨s,seen,rs,hs,rfl,rfl,hcW,hmW,hmB,h1W,h3W,hsW,hseen,hscan⟩
 dsimp only
 have hrd:=h.nil hcW
 refine Br.dec (fun hlt=>?_) (fun hge=>?_)
 ·have hlt':s < next.length:=by omega
  obtain ⟨_,_,_,sls,hrn0,hsl,hrws0,_⟩:=id h
  have hrn:=hrn0.chg hcW fun _ _ h=>h
  have hrow':next[s]? = some next[s]:=List.getElem?_eq_getElem hlt'
  have hdrop:next.drop s = next[s] :: next.drop (s + 1):=List.drop_eq_getElem_cons hlt'
  generalize hR:next[s] = row at hdrop hrow'
  have hmem:row ∈ next:=List.mem_of_getElem? hrow'
  obtain ⟨hrlen,hrval⟩:=hrows row hmem
  have hrl:row.length ≤ 16:=by omega
  obtain ⟨sl,hsls⟩:∃ sl,sls[s]? = some sl:=⟨_,List.getElem?_eq_getElem (by rw [hsl]; exact hlt')⟩
  rw [hdrop] at hscan
  simp only [scanR] at hscan
  refine hrn.get (t:=.sc .sl) s rfl hsls ?_
  refine New.mk fun bv W1 hbv hnv hszv hcv=>?_
  refine Store1.at0' hnv (by show 0 < 1; decide) rfl fun W2 hv2 hc2' _=>?_
  have sW:=hcW.size
  have hbvB:w.heap.size ≤ bv:=by omega
  have hcW2:Chg Nil w W2:=(hcW.then hcv).trans hc2' (fun _ _ h=>h) fun i hi he=>by have he:i = bv:=he; omega
  have h1W1:=hcv.heap h1W fun h=>h
  have h3W1:=hcv.heap h3W fun h=>h
  have hsW1:=hcv.heap hsW fun h=>h
  have l1:=lt_of_heap h1W
  have l3:=lt_of_heap h3W
  have ls:=lt_of_heap hsW
  have h1W2:=hc2'.heap h1W1 fun he=>by have he:b1 = bv:=he; omega
  have h3W2:=hc2'.heap h3W1 fun he=>by have he:b3 = bv:=he; omega
  have hsW2:=hc2'.heap hsW1 fun he=>by have he:bs = bv:=he; omega
  have hmW2:Marks W2 rs:=(hmW.chg hcv fun _ _ h=>h).chg hc2' fun r hr he=>by
   have he:r = bv:=he
   have:=lt_of_heap (hmW.2 r hr); omega
  have hloopMu:next.length - (s + 1) < next.length - s:=by omega
  have hsucc:IntKind.wrap .i64 ((s:Int) + 1) = ((s + 1:Nat):Int):=by rw [wrap64 (by omega) (by omega)]; rfl
  refine Join.by' (fun x W3=>x = (at0 b1,at0 b3,at0 bs,at0 bv,sn,((sn.n:Nat):Int),(s:Int),()) ∧ Chg Nil w W3 ∧ Marks W3 rs ∧ W3.heap[b1]? = some (.cells #[.int .i64 sym,.int .i64 start,sa.v,sn.v] 27 (0,0)) ∧ W3.heap[b3]? = some (.cells #[.int .i64 0] 28 (0,0)) ∧
    W3.heap[bs]? = some (.cells #[.int .i64 (seen:Int)] 3 (0,0)) ∧ W3.heap[bv]? = some (.cells #[.int .i64 (s:Int)] 3 (0,0)) ∧ ¬ (acc.getD s false ≠ (s == 0) ∨ (0 < s ∧ degF (row.map toO) < 2) ∨ seen ≤ s)) ?_ ?_
  ·rintro x W3 g3 ⟨rfl,hc3,hm3,h13,h33,hs3,hv3,hgood⟩
   dsimp only
   rw [if_neg hgood] at hscan
   have hacceq:AutR 0 W3 sa sn acc next:=h.nil hc3
   refine LoadT.mk (.agg [.int .i64,.int .i64,.sl,.sl]) (x:=(sym,start,sa,sn,())) (fun j v hv=>by rw [cellOf h13]; simpa [Ty.cells] using hv) ?_
   refine LoadT.sc (s:=.int .i64) (x:=(s:Int)) (by rw [cellOf0 hv3]; rfl) ?_
   refine Ret.call (edges_ret (v0:=sym) (v1:=start) (sa:=sa) (sn:=sn) (s:Int)) ?_
   rintro _ W4 ⟨c1,c3,rfl,hc1',hc3',hc34,hB1,hB3⟩
   have hcW4:=hc3.then hc34
   have hm4:=hm3.chg hc34 fun _ _ h=>h
   have h14:=hc34.heap h13 fun h=>h
   have h34:=hc34.heap h33 fun h=>h
   have hs4:=hc34.heap hs3 fun h=>h
   have hv4:=hc34.heap hv3 fun h=>h
   have s4:=hcW4.size
   have hxs:∀ (i:Nat) (x t:Int) (u:Unit),(edgesFrom 0 row)[i]? = some (x,t,u) → 0 ≤ t ∧ t < (next.length:Int) ∧ 0 ≤ x ∧ x < sym:=fun i x t u hi=>by
    obtain ⟨e1,e2,e3,e4⟩:=edges_mem row 0 x t u (List.mem_of_getElem? hi)
    have:=hrval t e2
    omega
   -- what holds between two rounds
   refine ⟨edgesFrom 0 row,_,fun i V=>∃ sn':Nat,Chg Nil w V ∧ Marks V rs ∧ V.heap[b1]? = some (.cells #[.int .i64 sym,.int .i64 start,sa.v,sn.v] 27 (0,0)) ∧ V.heap[b3]? = some (.cells #[.int .i64 0] 28 (0,0)) ∧ V.heap[bs]? = some (.cells #[.int .i64 (sn':Int)] 3 (0,0)) ∧
     V.heap[bv]? = some (.cells #[.int .i64 (s:Int)] 3 (0,0)) ∧ V.heap[c1]? = some (.cells #[.int .i64 sym,.int .i64 start,sa.v,sn.v] 27 (0,0)) ∧ V.heap[c3]? = some (.cells #[.int .i64 (s:Int)] 3 (0,0)) ∧ sn' ≤ seen + i ∧
     scanE next s ((edgesFrom 0 row).drop i) sn' = scanE next s (edgesFrom 0 row) seen,
    fun c V=>c = .ret ∧ Chg Nil w V ∧ Marks V rs ∧ V.heap[b3]? = some (.cells #[.int .i64 210] 28 (0,0)) ∧ scanE next s (edgesFrom 0 row) seen = none,
    edges_gives (q0:=at0 c1) (q1:=at0 c3) (sn:=sn) (rsl:=sl) (sls:=sls) (s:=s) (row:=row) (by omega),?_,?_,?_,?_,?_,?_,?_⟩
   ·rintro i V ⟨sn',v1,v2,v3,v4,v5,v6,v7,v8,v9,v10⟩
    exact ⟨by rw [cellOf v7]; rfl,by rw [cellOf0 v8]; rfl,hrn0.chg v1 (fun _ _ h=>h),hsls,(hrws0 s sl row hsls hrow').chg v1 (fun _ _ h=>h)⟩
   ·rintro i V V' ⟨sn',v1,v2,v3,v4,v5,v6,v7,v8,v9,v10⟩ ht
    exact ⟨sn',v1.turn ht s4,v2.turn ht,ht.cells v3,ht.cells v4,ht.cells v5,ht.cells v6,ht.cells v7,ht.cells v8,v9,v10⟩
   ·rintro c V V' ⟨rfl,v1,v2,v3,v4⟩ ht
    exact ⟨rfl,v1.turn ht s4,v2.turn ht,ht.cells v3,v4⟩
   ·exact ⟨seen,hcW4,hm4,h14,h34,hs4,hv4,hc1',hc3',by omega,rfl⟩
   ·rintro i ⟨x,t,u⟩ V hx ⟨sn',v1,v2,v3,v4,v5,v6,v7,v8,v9,v10⟩
    obtain ⟨e1,e2,e3,e4⟩:=hxs i x t u hx
    obtain ⟨nt,rfl⟩:=Int.eq_ofNat_of_zero_le e1
    obtain ⟨nx,rfl⟩:=Int.eq_ofNat_of_zero_le e3
    have hdr:(edgesFrom 0 row).drop i = ((nx:Int),(nt:Int),u) :: (edgesFrom 0 row).drop (i + 1):=by
     obtain ⟨hl,he⟩:=List.getElem?_eq_some_iff.1 hx
     rw [← he]; exact List.drop_eq_getElem_cons hl
    rw [hdr] at v10
    simp only [scanE] at v10
    have hntl:nt < next.length:=by omega
    have hrowT:next[nt]? = some next[nt]:=List.getElem?_eq_getElem hntl
    generalize hRT:next[nt] = rowT at hrowT
    obtain ⟨hrTl,_⟩:=hrows rowT (List.mem_of_getElem? hrowT)
    obtain ⟨kn,rfl⟩:=Int.eq_ofNat_of_zero_le (show 0 ≤ k by omega)
    have hx1:nx ^^^ 1 < rowT.length:=by have:=xor_even (x:=nx) (n:=kn) (by omega) (by omega); omega
    obtain ⟨slT,hslT⟩:∃ slT,sls[nt]? = some slT:=⟨_,List.getElem?_eq_getElem (by rw [hsl]; exact hntl)⟩
    have hat:(next.getD ((nt:Int)).toNat []).getD (((nx:Int)).toNat ^^^ 1) 0 = rowT[nx ^^^ 1]:=by
     show (next.getD nt []).getD (nx ^^^ 1) 0 = _
     have e1:next.getD nt [] = rowT:=by rw [List.getD_eq_getElem?_getD,hrowT]; rfl
     rw [e1,List.getD_eq_getElem?_getD,List.getElem?_eq_getElem hx1]; rfl
    rw [hat] at v10
    have hdV:Chg Nil V V.drew:=Chg.drew V
    have hcV:Chg Nil w V.drew:=v1.then hdV
    have keep:∀ {S:Nat → Prop} {V':World},Chg S V V' → (∀ k,S k → k = b3 ∨ k = bs) → KeepL V V':=fun hc hS=>KeepL.of_chg hc fun k hk=>by
     rcases hS k hk with rfl | rfl
     ·exact ⟨_,_,_,v4⟩
     ·exact ⟨_,_,_,v5⟩
    have hne3s:b3 ≠ bs:=fun he=>ne_of_elem v4 v5 (by decide) he
    have herrR:(rowT[nx ^^^ 1] ≠ (s:Int) ∨ (nt:Int) > (sn':Int)) → Store1 V.drew (at0 b3) (.int .i64 210) fun w98=>KeepL V w98 ∧ (Code.ret = .ret ∧ Chg Nil w w98 ∧ Marks w98 rs ∧ w98.heap[b3]? = some (.cells #[.int .i64 210] 28 (0,0)) ∧ scanE next s (edgesFrom 0 row) seen = none):=fun hb=>by
     refine Store1.at0' (w:=V.drew) v4 (by show 0 < 1; decide) rfl fun w98 hh hc _=>?_
     refine ⟨keep (hdV.nil.then hc) fun k hk=>.inl hk,rfl,hcV.trans hc (fun _ _ h=>h) fun i hi he=>(by have he:i = b3:=he; omega),(v2.chg hdV fun _ _ h=>h).chg hc fun r hr he=>?_,hh,?_⟩
     ·have he:r = b3:=he
      subst he; have:=v2.2 r hr; rw [v4] at this; cases this
     ·rw [← v10,if_pos hb]
    refine Join.by' (fun x V'=>x = (at0 bs,(nt:Int),()) ∧ V' = V.drew ∧ ¬ (rowT[nx ^^^ 1] ≠ (s:Int) ∨ (nt:Int) > (sn':Int))) ?_ ?_
    ·rintro x V' g5 ⟨rfl,hV',hgd⟩
     rw [hV']
     clear hV'
     dsimp only
     rw [if_neg hgd] at v10
     refine LoadT.sc (s:=.int .i64) (x:=(sn':Int)) (by rw [cellOf0 (w:=V.drew) v5]; rfl) ?_
     refine Br.mk (fun heq=>?_) (fun hne=>?_)
     ·have heq':(nt:Int) = (sn':Int):=by simpa using heq
      rw [if_pos heq'] at v10
      refine LoadT.sc (s:=.int .i64) (x:=(sn':Int)) (by rw [cellOf0 (w:=V.drew) v5]; rfl) ?_
      rw [wrap64 (by omega) (by omega)]
      refine Store1.at0' (w:=V.drew) v5 (by show 0 < 1; decide) rfl fun V3 hh hc _=>?_
      have nbs:∀ {k:Nat} {cs:Array Value} {e:TypeId} {f:Nat × Nat},V.heap[k]? = some (.cells cs e f) → k ≠ bs → V3.heap[k]? = some (.cells cs e f):=fun hk hne=>hc.heap (w:=V.drew) hk fun he=>hne he
      have hbvs:bv ≠ bs:=by omega
      refine ⟨keep (hdV.nil.then hc) fun k hk=>.inr hk,sn' + 1,hcV.trans hc (fun _ _ h=>h) fun i hi he=>(by have he:i = bs:=he; omega),(v2.chg hdV fun _ _ h=>h).chg hc fun r hr he=>?_,nbs v3 (fun he=>ne_of_elem v3 v5 (by decide) he),nbs v4 hne3s,hh,nbs v6 hbvs,nbs v7 (fun he=>ne_of_elem v7 v5 (by decide) he),nbs v8 ?_,by omega,v10⟩
      ·have he:r = bs:=he
       subst he; have:=v2.2 r hr; rw [v5] at this; cases this
      ·have:=hc3.size; have:=lt_of_heap hs3; omega
     ·have hne':¬ (nt:Int) = (sn':Int):=by simpa using hne
      rw [if_neg hne'] at v10
      exact ⟨keep (S:=Nil) hdV fun k hk=>hk.elim,sn',hcV,v2.chg hdV fun _ _ h=>h,v3,v4,v5,v6,v7,v8,by omega,v10⟩
    ·intro J2 hJ2
     refine LoadT.sc (s:=.sl) (x:=sn) (by rw [cellOf (w:=V.drew) v3]; rfl) ?_
     refine (hrn0.chg hcV fun _ _ h=>h).get (t:=.sc .sl) nt rfl hslT ?_
     rw [xor1 nx (by omega)]
     refine ((hrws0 nt slT rowT hslT hrowT).chg hcV fun _ _ h=>h).get (t:=tI) (nx ^^^ 1) rfl (x:=rowT[nx ^^^ 1]) (List.getElem?_eq_getElem hx1) ?_
     refine LoadT.sc (s:=.int .i64) (x:=(s:Int)) (by rw [cellOf0 (w:=V.drew) v6]; rfl) ?_
     refine Br.mk (fun hne=>Br.t rfl (herrR (.inl (by simpa using hne)))) (fun heq=>?_)
     have heq':rowT[nx ^^^ 1] = (s:Int):=by simpa using heq
     refine LoadT.sc (s:=.int .i64) (x:=(sn':Int)) (by rw [cellOf0 (w:=V.drew) v5]; rfl) ?_
     refine Br.dec (fun hgt=>herrR (.inr hgt)) (fun hle=>hJ2 _ _ ⟨rfl,rfl,?_⟩)
     rintro (hh | hh)
     ·exact hh heq'
     ·exact hle hh
   ·rintro d V hdm hdB ⟨sn',v1,v2,v3,v4,v5,v6,v7,v8,v9,v10⟩
    rw [List.drop_eq_nil_of_le (Nat.le_refl _)] at v10
    simp only [scanE] at v10
    rw [← v10] at hscan
    dsimp only
    rw [hsucc]
    refine ⟨⟨s + 1,sn',d :: rs,hlt',rfl,rfl,v1,v2.cons hdm (fun hmem=>?_),?_,v3,v4,v5,?_,hscan⟩,hloopMu⟩
    ·have:=lt_of_heap (hm4.2 d hmem); omega
    ·intro r hr
     rcases List.mem_cons.1 hr with hr | hr
     ·omega
     ·exact hmB r hr
    ·have:=edges_len row 0; omega
   ·rintro c d V hdm hdB ⟨rfl,v1,v2,v3,v4⟩
    dsimp only
    rw [v4] at hscan
    dsimp only at hscan
    refine retM_marks (d :: rs) V (v2.cons hdm (fun hmem=>by have:=lt_of_heap (hm4.2 d hmem); omega)) fun z hz=>?_
    have hz3:z.heap[b3]? = some (.cells #[.int .i64 210] 28 (0,0)):=hz.heap v3 fun hmem=>by
     rcases List.mem_cons.1 hmem with he | he
     ·subst he; rw [hdm] at v3; cases v3
     ·have:=v2.2 b3 he; rw [this] at v3; cases v3
    refine LoadT.sc (s:=.int .i64) (x:=(210:Int)) (by rw [cellOf0 hz3]; rfl) ⟨210,rfl,?_,v1.trans hz (fun _ _ h=>h) fun i hi hmem=>?_⟩
    ·rw [hres2,← hscan]
    ·rcases List.mem_cons.1 hmem with he | he
     ·omega
     ·have:=hmB i he; omega
  ·intro J hJ
   have hrow2:(row.map toO).map ofO = row:=row_toO fun t ht=>(hrval t ht).1
   have herrS:(acc.getD s false ≠ (s == 0) ∨ (0 < s ∧ degF (row.map toO) < 2) ∨ seen ≤ s) → res = 210:=fun hb=>by
    rw [if_pos hb] at hscan
    rw [hres2,← hscan]
   have hd:Chg Nil W2 W2.drew:=Chg.drew W2
   have hcd:=hcW2.then hd
   have hmd:Marks W2.drew rs:=hmW2.chg hd fun _ _ h=>h
   have hsacc:s < acc.length:=by omega
   have hraD:RdT W2.drew (.sc .bool) sa acc:=(h.nil hcd).acc
   have hgetD:acc.getD s false = acc[s]:=by rw [List.getD_eq_getElem?_getD,List.getElem?_eq_getElem hsacc]; rfl
   refine LoadT.sc (s:=.sl) (x:=sa) (by rw [cellOf (w:=W2.drew) h1W2]; rfl) ?_
   refine LoadT.sc (s:=.int .i64) (x:=(s:Int)) (by rw [cellOf0 (w:=W2.drew) hv2]; rfl) ?_
   refine hraD.get (t:=.sc .bool) s rfl (x:=acc[s]) (List.getElem?_eq_getElem hsacc) ?_
   refine LoadT.sc (s:=.int .i64) (x:=(s:Int)) (by rw [cellOf0 (w:=W2.drew) hv2]; rfl) ?_
   have e0:((s:Int) == 0) = (s == 0):=by rw [Bool.eq_iff_iff]; simp
   refine Br.mk (fun hne=>Br.t rfl (fin W2.drew rs 210 0 hcd h3W2 hmd hmB (herrS (.inl ?_)))) (fun heq=>?_)
   ·rw [hgetD]; intro he; rw [he,e0] at hne; simp at hne
   have hacc':acc.getD s false = (s == 0):=by
    rw [hgetD,← e0]
    simpa using heq
   refine LoadT.sc (s:=.int .i64) (x:=(s:Int)) (by rw [cellOf0 (w:=W2.drew) hv2]; rfl) ?_
   refine Br.dec (fun hpos=>?_) (fun hnpos=>?_)
   ·have hrsD:RdT W2.drew tI sl ((row.map toO).map ofO):=by
     rw [hrow2]
     exact (hrws0 s sl row hsls hrow').chg hcd fun _ _ h=>h
    refine Ret.call (degree_ret hrsD (by simp; omega)) ?_
    rintro _ W3 ⟨rfl,hw3⟩
    rw [hw3]
    clear hw3
    refine Br.dec (fun hlt2=>Br.t rfl (fin W2.drew rs 210 0 hcd h3W2 hmd hmB (herrS (.inr (.inl ⟨by have hp:(s:Int) > 0:=hpos; omega,by have hp:((degF (row.map toO):Nat):Int) < 2:=hlt2; omega⟩))))) (fun hge2=>?_)
    have hge2':¬ ((degF (row.map toO):Nat):Int) < 2:=hge2
    refine LoadT.sc (s:=.int .i64) (x:=(s:Int)) (by rw [cellOf0 (w:=W2.drew) hv2]; rfl) (LoadT.sc (s:=.int .i64) (x:=(seen:Int)) (by rw [cellOf0 (w:=W2.drew) hsW2]; rfl) ?_)
    refine Br.dec (fun hge3=>fin W2.drew rs 210 0 hcd h3W2 hmd hmB (herrS (.inr (.inr (by have hp:(s:Int) ≥ (seen:Int):=hge3; omega))))) (fun hlt3=>hJ _ _ ⟨rfl,hcd,hmd,h1W2,h3W2,hsW2,hv2,?_⟩)
    have hlt3':¬ (s:Int) ≥ (seen:Int):=hlt3
    rintro (hx | hx | hx)
    ·exact hx hacc'
    ·omega
    ·omega
   ·have hnp:¬ (s:Int) > 0:=hnpos
    refine LoadT.sc (s:=.int .i64) (x:=(s:Int)) (by rw [cellOf0 (w:=W2.drew) hv2]; rfl) (LoadT.sc (s:=.int .i64) (x:=(seen:Int)) (by rw [cellOf0 (w:=W2.drew) hsW2]; rfl) ?_)
    refine Br.dec (fun hge3=>fin W2.drew rs 210 0 hcd h3W2 hmd hmB (herrS (.inr (.inr (by have hp:(s:Int) ≥ (seen:Int):=hge3; omega))))) (fun hlt3=>hJ _ _ ⟨rfl,hcd,hmd,h1W2,h3W2,hsW2,hv2,?_⟩)
    have hlt3':¬ (s:Int) ≥ (seen:Int):=hlt3
    rintro (hx | hx | hx)
    ·exact hx hacc'
    ·omega
    ·omega
 ·have hsn:s = next.length:=by omega
  subst hsn
  rw [List.drop_eq_nil_of_le (Nat.le_refl _)] at hscan
  simp only [scanR] at hscan
  rw [← hscan] at hres2
  refine LoadT.sc (s:=.int .i64) (x:=(seen:Int)) (by rw [cellOf0 hsW]; rfl) (LoadT.sc (s:=.sl) (x:=sn) (by rw [cellOf h1W]; rfl) ?_)
  rw [hnn]
  refine Br.mk (fun hne=>fin W rs 210 0 hcW h3W hmW hmB ?_) (fun heq=>fin W rs 0 0 hcW h3W hmW hmB ?_)
  ·have:seen ≠ next.length:=fun he=>by rw [he] at hne; simp at hne
   rw [hres2]; simp [this]
  ·have:seen = next.length:=by have:(seen:Int) = next.length:=by simpa using heq
                               omega
   rw [hres2]; simp [this]
end Go.Proofs.YtffdjfkekdoeaaaDoor.Fo
end
section
set_option maxRecDepth 4000
set_option maxHeartbeats 1000000
namespace Go.Proofs.YtffdjfkekdoeaaaDoor.Fo
open Fw Wd
structure Aut where
 sym:Int
 start:Int
 acc:List Bool
 next:List (List Int)
abbrev tA:Ty:=.agg [.int .i64,.int .i64,.sl,.sl]
structure AutIn (w:World) (x:Int × Int × Sl × Sl × Unit) (a:Aut):Prop where
 sym:x.1 = a.sym
 start:x.2.1 = a.start
 rd:AutR 0 w x.2.2.1 x.2.2.2.1 a.acc a.next
 hacc:a.acc.length ≤ maxLen
 hnext:a.next.length ≤ maxLen
 hrow:∀ r ∈ a.next,r.length ≤ maxLen
theorem AutIn.nil {w w':World} {x:Int × Int × Sl × Sl × Unit} {a:Aut} (h:AutIn w x a) (hc:Chg Nil w w'):AutIn w' x a:=⟨h.sym,h.start,h.rd.nil hc,h.hacc,h.hnext,h.hrow⟩
def Aut.check (k:Int) (a:Aut):Int:=checkG k a.sym a.start a.acc a.next
theorem AutIn.check {w:World} {x:Int × Int × Sl × Sl × Unit} {a:Aut} (h:AutIn w x a) (k:Int) :
  Ret Tryd.prog 29 #[.int .i64 k,.agg #[.int .i64 x.1,.int .i64 x.2.1,x.2.2.1.v,x.2.2.2.1.v]] tI w fun y w'=>y = a.check k ∧ Chg Nil w w':=by
 have:=Check_ret (k:=k) (sym:=x.1) (start:=x.2.1) h.rd h.hacc h.hnext h.hrow
 rw [h.sym,h.start] at this ⊢
 exact this
def examF (k:Int) (ats:List Aut) (ws:List ByteArray):Int:=
 if ¬ (1 ≤ k ∧ k ≤ 8) then 1
 else if ats.any (fun a=>a.check k != 0) then 210
 else if ws.any (fun s=>checkF k s != 0) then 4 else 0
theorem exam_ret {w:World} (hl:Laid w) {k:Int} {sl sw:Sl} {xs:List tA.den} {ats:List Aut} {ws:List ByteArray} (h:RdT w tA sl xs) (hlen:xs.length = ats.length) (ha:∀ (i:Nat) (x:tA.den) (a:Aut),xs[i]? = some x → ats[i]? = some a → AutIn w x a) (hw:RdT w (.sc .str) sw ws)
  (hb:ats.length ≤ 1000000000) (hbw:ws.length ≤ 1000000000) :
  Ret Tryd.prog 55 #[.int .i64 k,sl.v,sw.v] tI w fun x w'=>x = examF k ats ws ∧ Chg Nil w w':=by
 refine fold_examine.calls k sl sw ?_
 unfold fold_examine.sh
 refine Ret.call (isRank_ret w k) ?_
 rintro _ w' ⟨rfl,hw'⟩
 rw [hw']
 clear hw'
 have hln:sl.n = ats.length:=by rw [h.len,hlen]
 have hwn:sw.n = ws.length:=hw.len
 by_cases hk:1 ≤ k ∧ k ≤ 8
 case neg=>exact Br.t (by rw [decide_eq_false hk]; rfl) ⟨_,rfl,by rw [examF,if_pos hk],Chg.refl w⟩
 refine Br.f (by rw [decide_eq_true hk]; rfl) ?_
 have hE:examF k ats ws = if ats.any (fun a=>a.check k != 0) then 210 else if ws.any (fun s=>checkF k s != 0) then 4 else 0:=by rw [examF,if_neg (by simpa using hk)]
 rw [hE]
 refine LoopT.mk (fun x W=>∃ i:Nat,i ≤ ats.length ∧ x = (k,sw,sl,((sl.n:Nat):Int),(i:Int),()) ∧ Chg Nil w W ∧ (ats.take i).any (fun a=>a.check k != 0) = false) (fun x _=>ats.length - x.2.2.2.2.1.toNat) ⟨0,Nat.zero_le _,rfl,Chg.refl w,rfl⟩ ?_
 rintro x g W ⟨i,hi,rfl,hc,hgood⟩
 dsimp only
 refine Br.dec (fun hlt=>?_) (fun hge=>?_)
 ·have hlt':i < ats.length:=by omega
  have hai:ats[i]? = some ats[i]:=List.getElem?_eq_getElem hlt'
  obtain ⟨y,hy⟩:∃ y,xs[i]? = some y:=⟨_,List.getElem?_eq_getElem (by rw [hlen]; exact hlt')⟩
  have hA:=(ha i y _ hy hai).nil hc
  refine (h.chg hc fun _ _ h=>h).get (t:=tA) i rfl hy ?_
  obtain ⟨y1,y2,y3,y4,y5⟩:=y
  refine New.mk fun b W1 hb1 hn1 hs1 hc1=>?_
  refine StoreN.whole (vs:=[.int .i64 y1,.int .i64 y2,y3.v,y4.v]) hn1 rfl fun W2 hh2 hc2 _=>?_
  have sW:=hc.size
  have hc02:Chg Nil W W2:=hc1.trans hc2 (fun _ _ h=>h) fun j hj he=>by have he:j = b:=he; omega
  refine LoadT.mk tA (x:=(y1,y2,y3,y4,())) (fun j v hv=>by rw [cellOf hh2]; simpa [Ty.cells] using hv) ?_
  refine Ret.call ((hA.nil hc02).check k) ?_
  rintro _ W3 ⟨rfl,hc3⟩
  have hcW:=(hc.then hc02).then hc3
  have ht:ats.take (i + 1) = ats.take i ++ [ats[i]]:=by rw [List.take_add_one,hai]; rfl
  refine Br.mk (fun hne=>⟨_,rfl,?_,hcW⟩) (fun heq=>?_)
  ·have:ats.any (fun a=>a.check k != 0) = true:=List.any_eq_true.2 ⟨ats[i],List.getElem_mem hlt',by simpa using hne⟩
   rw [if_pos this]
  ·have hz:ats[i].check k = 0:=by simpa using heq
   rw [wrap64 (by omega) (by omega)]
   refine ⟨⟨i + 1,hlt',rfl,hcW,?_⟩,?_⟩
   ·rw [ht,List.any_append,hgood]; simp [hz]
   ·show ats.length - (i + 1) < ats.length - i
    omega
 ·have hin:i = ats.length:=by omega
  rw [hin,List.take_length] at hgood
  rw [if_neg (by rw [hgood]; simp)]
  refine LoopT.mk (fun x W=>∃ i:Nat,i ≤ ws.length ∧ x = (k,sw,((sw.n:Nat):Int),(i:Int),()) ∧ Chg Nil w W ∧ (ws.take i).any (fun s=>checkF k s != 0) = false) (fun x _=>ws.length - x.2.2.2.1.toNat) ⟨0,Nat.zero_le _,rfl,hc,rfl⟩ ?_
  clear hc
  rintro x g3 W3 ⟨j,hj,rfl,hc,hgw⟩
  dsimp only
  refine Br.dec (fun hlt=>?_) (fun hge=>?_)
  ·have hlt':j < ws.length:=by omega
   have hwi:ws[j]? = some ws[j]:=List.getElem?_eq_getElem hlt'
   refine (hw.chg hc fun _ _ h=>h).get (t:=.sc .str) j rfl hwi ?_
   refine Ret.call (check_ret (hl.nil hc) k ws[j]) ?_
   rintro _ W4 ⟨rfl,hc4⟩
   have ht:ws.take (j + 1) = ws.take j ++ [ws[j]]:=by rw [List.take_add_one,hwi]; rfl
   refine Br.mk (fun hne=>⟨_,rfl,?_,hc.then hc4⟩) (fun heq=>?_)
   ·have:ws.any (fun s=>checkF k s != 0) = true:=List.any_eq_true.2 ⟨ws[j],List.getElem_mem hlt',by simpa using hne⟩
    rw [if_pos this]
   ·have hz:checkF k ws[j] = 0:=by simpa using heq
    rw [wrap64 (by omega) (by omega)]
    refine ⟨⟨j + 1,hlt',rfl,hc.then hc4,?_⟩,?_⟩
    ·rw [ht,List.any_append,hgw]; simp [hz]
    ·show ws.length - (j + 1) < ws.length - j
     omega
  ·have hjn:j = ws.length:=by omega
   rw [hjn,List.take_length] at hgw
   exact ⟨_,rfl,by rw [if_neg (by rw [hgw]; simp)],hc⟩
end Go.Proofs.YtffdjfkekdoeaaaDoor.Fo
end
section
set_option maxRecDepth 4000
set_option maxHeartbeats 1000000
namespace Go.Proofs.YtffdjfkekdoeaaaDoor.Fo
open Fw Wd
theorem rd_one {w:World} {b:Nat} {t:Ty} {e:TypeId} {x:t.den} {cs:Array Value} (h:w.heap[b]? = some (.cells cs e (0,0))) (hc:cs.toList = t.cells x):RdT w t ⟨some ⟨b,0,none⟩,1,1⟩ [x]:=
 ⟨rfl,fun i y hy=>⟨_,rfl,fun j v hv=>by
  cases i with
  | zero=>
   simp only [List.getElem?_cons_zero,Option.some.injEq] at hy
   subst hy
   rw [Nat.zero_mul,add0,cellOf h,← Array.getElem?_toList,hc]; exact hv
  | succ i=>simp at hy⟩⟩
theorem rd_none (w:World) (t:Ty):RdT w t ⟨none,0,0⟩ []:=RdT.nil w t none 0
theorem exam_rows {k:Int} {a:Aut} {ws:List ByteArray} (h:examF k [a] ws = 0):1 ≤ k ∧ k ≤ 8 ∧ a.check k = 0 ∧ ∀ s ∈ ws,checkF k s = 0:=by
 unfold examF at h
 split at h
 ·cases h
 rename_i hk
 split at h
 ·cases h
 rename_i ha
 split at h
 ·cases h
 rename_i hw
 have hk':1 ≤ k ∧ k ≤ 8:=by
  by_cases hc:1 ≤ k ∧ k ≤ 8
  ·exact hc
  ·exact absurd hc hk
 refine ⟨hk'.1,hk'.2,by simpa using ha,fun s hs=>?_⟩
 have:=List.any_eq_false.1 (by simpa using hw:ws.any (fun s=>checkF k s != 0) = false) s hs
 simpa using this
theorem check_spec {k:Int} {a:Aut} (h:a.check k = 0):a.sym = 2 * k ∧ a.start = 0 ∧ 1 ≤ a.next.length ∧ a.next.length ≤ 2000 ∧ a.next.length = a.acc.length ∧ scanR a.acc a.next 0 a.next 1 = some a.next.length ∧
  ∀ r ∈ a.next,(r.length:Int) = 2 * k ∧ ∀ t ∈ r,-1 ≤ t ∧ t < (a.next.length:Int):=by
 unfold Aut.check checkG at h
 split at h
 ·cases h
 split at h
 ·cases h
 rename_i hk hc
 have hz:fsaF a.sym a.start a.acc a.next = 0:=by by_cases h:fsaF a.sym a.start a.acc a.next = 0; exact h; exact absurd (.inl h) hc
 have hsym:a.sym = 2 * k:=by by_cases h:a.sym = 2 * k; exact h; exact absurd (.inr (.inl h)) hc
 have h1:1 ≤ a.next.length:=by by_cases h:a.next.length < 1; exact absurd (.inr (.inr (.inl h))) hc; omega
 have h2:a.next.length ≤ 2000:=by by_cases h:2000 < a.next.length; exact absurd (.inr (.inr (.inr (.inl h)))) hc; omega
 have h3:a.start = 0:=by by_cases h:a.start = 0; exact h; exact absurd (.inr (.inr (.inr (.inr h)))) hc
 obtain ⟨h4,h5⟩:=fsa_spec hz
 split at h
 ·rename_i seen hs
  split at h
  ·rename_i he
   subst he
   exact ⟨hsym,h3,h1,h2,h4,hs,fun r hr=>⟨by rw [(h5 r hr).1,hsym],(h5 r hr).2⟩⟩
  ·cases h
 ·cases h
def indexF (k:Int) (a:Aut):Int × Int:=
 if examF k [a] [] ≠ 0 then (0,examF k [a] [])
 else if a.next.any (fun r=>decide ((degF (r.map toO):Int) < 2 * k)) then (0,0) else ((a.next.length:Int),0)
theorem Index_ret {w:World} (hl:Laid w) {k:Int} {x:Int × Int × Sl × Sl × Unit} {a:Aut} (h:AutIn w x a) :
  RetN Tryd.prog 26 #[.int .i64 k,.agg #[.int .i64 x.1,.int .i64 x.2.1,x.2.2.1.v,x.2.2.2.1.v]] [.sc (.int .i64),.sc (.int .i64)] w fun y w'=>y = ((indexF k a).1,(indexF k a).2,()) ∧ Chg Nil w w':=by
 obtain ⟨x1,x2,sa,sn,_⟩:=x
 refine fold_Index.calls k x1 x2 sa sn ?_
 unfold fold_Index.sh
 refine New.mk fun b1 w1 hb1 hn1 hs1 hc1=>?_
 refine LoadT.mk tA (x:=(x1,x2,sa,sn,())) (fun j v hv=>by rw [cellOf hn1]; simpa [Ty.cells] using hv) ?_
 refine New.mk fun b4 w2 hb4 hn4 hs4 hc4=>?_
 have hc02:=hc1.then hc4
 refine Ret.call (exam_ret (sl:=⟨some ⟨b4,0,none⟩,1,1⟩) (sw:=⟨none,0,0⟩) (xs:=[(x1,x2,sa,sn,())]) (ats:=[a]) (ws:=[]) (hl.nil hc02) (rd_one (t:=tA) hn4 rfl) rfl (fun i y b hy hb=>by
  cases i with
  | zero=>simp at hy hb; subst hy; subst hb; exact h.nil hc02
  | succ i=>simp at hy) (rd_none _ _) (by simp) (by simp)) ?_
 rintro _ w3 ⟨rfl,hc3⟩
 have hc03:=hc02.then hc3
 refine Br.mk (fun hne=>⟨(0,examF k [a] [],()),rfl,?_,hc03⟩) (fun heq=>?_)
 ·have hne':examF k [a] [] ≠ 0:=by simpa using hne
  simp [indexF,hne']
 have hz:examF k [a] [] = 0:=by simpa using heq
 obtain ⟨hk1,hk8,hck,_⟩:=exam_rows hz
 obtain ⟨_,_,_,hn2000,_,_,hrows⟩:=check_spec hck
 have hI:indexF k a = if a.next.any (fun r=>decide ((degF (r.map toO):Int) < 2 * k)) then (0,0) else ((a.next.length:Int),0):=by
  unfold indexF; rw [if_neg (by rw [hz]; simp)]
 have h13:w3.heap[b1]? = some (.cells #[.int .i64 x1,.int .i64 x2,sa.v,sn.v] 27 (0,0)):=(hc4.then hc3).heap hn1 fun h=>h
 have hrd:=(h.nil hc03).rd
 obtain ⟨_,_,_,sls,hrn,hsl,hrws,_⟩:=hrd
 have hrn:RdT w3 (.sc .sl) sn sls:=hrn
 have hnn:sn.n = a.next.length:=by rw [hrn.len,hsl]
 refine LoadT.sc (s:=.sl) (x:=sn) (by rw [cellOf h13]; rfl) ?_
 refine LoopT.mk (fun y W=>∃ i:Nat,i ≤ a.next.length ∧ y = (k,at0 b1,sn,((sn.n:Nat):Int),(i:Int),()) ∧ W = w3 ∧ (a.next.take i).any (fun r=>decide ((degF (r.map toO):Int) < 2 * k)) = false) (fun y _=>a.next.length - y.2.2.2.2.1.toNat) ⟨0,Nat.zero_le _,rfl,rfl,rfl⟩ ?_
 rintro y g W ⟨i,hi,rfl,hW,hgood⟩
 rw [hW]
 clear hW
 dsimp only
 refine Br.dec (fun hlt=>?_) (fun hge=>?_)
 ·have hlt':i < a.next.length:=by omega
  have hri:a.next[i]? = some a.next[i]:=List.getElem?_eq_getElem hlt'
  obtain ⟨sl,hs⟩:∃ sl,sls[i]? = some sl:=⟨_,List.getElem?_eq_getElem (by rw [hsl]; exact hlt')⟩
  obtain ⟨hrl,hrv⟩:=hrows _ (List.getElem_mem hlt')
  refine hrn.get (t:=.sc .sl) i rfl hs ?_
  have hrr:RdT w3 tI sl ((a.next[i].map toO).map ofO):=by
   rw [row_toO fun t ht=>(hrv t ht).1]; exact hrws i sl _ hs hri
  refine Ret.call (degree_ret hrr (by simp; omega)) ?_
  rintro _ W2 ⟨rfl,hW⟩
  rw [hW]
  clear hW
  rw [wrap64 (by omega) (by omega),wrap64 (by omega) (by omega)]
  have ht:a.next.take (i + 1) = a.next.take i ++ [a.next[i]]:=by rw [List.take_add_one,hri]; rfl
  refine Br.dec (fun hb=>⟨(0,0,()),rfl,?_,hc03⟩) (fun hnb=>?_)
  ·have:a.next.any (fun r=>decide ((degF (r.map toO):Int) < 2 * k)) = true:=List.any_eq_true.2 ⟨_,List.getElem_mem hlt',by simpa using hb⟩
   rw [hI,if_pos this]
  ·refine ⟨⟨i + 1,hlt',rfl,rfl,?_⟩,?_⟩
   ·rw [ht,List.any_append,hgood]
    have hnb':¬ ((degF (a.next[i].map toO):Nat):Int) < 2 * k:=hnb
    simp [hnb']
   ·show a.next.length - (i + 1) < a.next.length - i
    omega
 ·have hin:i = a.next.length:=by omega
  rw [hin,List.take_length] at hgood
  refine LoadT.sc (s:=.sl) (x:=sn) (by rw [cellOf h13]; rfl) ⟨(((sn.n:Nat):Int),0,()),rfl,?_,hc03⟩
  rw [hI,if_neg (by rw [hgood]; simp),hnn]
end Go.Proofs.YtffdjfkekdoeaaaDoor.Fo
end
section
set_option maxRecDepth 4000
set_option maxHeartbeats 1000000
namespace Go.Proofs.YtffdjfkekdoeaaaDoor.Fo
open Fw Wd
theorem string_bytes {w:World} (s:ByteArray) {K:Sl → World → Prop} (k:∀ sl w',RdT w' tB sl (s.data.toList.map ofB) → Chg Nil w w' → K sl w'):RunT Tryd.prog (.sc .sl) (convert 9 87 (.string s)) w K:=by
 refine ⟨⟨some ⟨w.heap.size,0,none⟩,s.size,grownCap w s.size 0 5⟩,_,run_bytes_of_string w 9 87 5 s under9 under87 under5,k _ _ ⟨by simp,fun i x hx=>⟨_,rfl,fun j v hv=>?_⟩⟩ ((Chg.drew w).then (Chg.alloc w.drew _))⟩
 rw [add_add]
 have hh:(w.drew.alloc (.cells (bytesRow s (grownCap w s.size 0 5)) 5 ((bytesRow s (grownCap w s.size 0 5)).size,(bytesRow s (grownCap w s.size 0 5)).size + 1))).heap[w.heap.size]? = some (.cells (bytesRow s (grownCap w s.size 0 5)) 5 ((bytesRow s (grownCap w s.size 0 5)).size,(bytesRow s (grownCap w s.size 0 5)).size + 1)):=heap_alloc_new w.drew _
 rw [cellOf hh]
 have hlt:i < s.size:=by have:=(List.getElem?_eq_some_iff.1 hx).1; simpa using this
 cases j with
 | succ j=>simp [Ty.cells] at hv
 | zero=>
  simp only [Ty.cells,List.getElem?_cons_zero,Option.some.injEq] at hv
  subst hv
  rw [List.getElem?_map,bytes_get s i hlt] at hx
  simp only [Option.map_some,Option.some.injEq] at hx
  subst hx
  unfold bytesRow
  rw [Nat.add_zero,Ty.sz,Nat.mul_one,Array.getElem?_append_left (by simpa using hlt),Array.getElem?_map]
  rw [Array.getElem?_eq_getElem (by simpa using hlt)]
  rfl
theorem rd_idxA {w:World} {t:Ty} {s:Sl} {xs:List t.den} (h:RdT w t s xs) {i:Int} (j:Nat) {x:t.den} (hi:i = (j:Int)) (hx:xs[j]? = some x) {K:Addr → Prop}
  (k:∀ a,s.a = some a → K (a.add (j * t.sz))):Idx s.a s.n t.sz i K:=by
 obtain ⟨a,ha,_⟩:=h.at' j x hx
 have hlt:j < xs.length:=(List.getElem?_eq_some_iff.1 hx).1
 exact ⟨a,ha,by omega,by rw [h.len]; omega,by rw [hi]; simpa using k a ha⟩
def leadsF (next:List (List Int)):List Nat → Nat → Int
 | [],s=>(s:Int)
 | x :: l,s=>if (next.getD s []).getD x 0 < 0 then (next.getD s []).getD x 0 else leadsF next l ((next.getD s []).getD x 0).toNat
theorem getD_get {α:Type} {l:List α} {i:Nat} {d:α} (h:i < l.length):l.getD i d = l[i]:=by rw [List.getD_eq_getElem?_getD,List.getElem?_eq_getElem h]; rfl
theorem leads_ret {w:World} (hl:Laid w) {k:Int} {x:Int × Int × Sl × Sl × Unit} {a:Aut} (h:AutIn w x a) (hc:a.check k = 0) (hk:1 ≤ k ∧ k ≤ 8) {s:ByteArray} (hs:checkF k s = 0) :
  Ret Tryd.prog 58 #[.agg #[.int .i64 x.1,.int .i64 x.2.1,x.2.2.1.v,x.2.2.2.1.v],.string s] tI w fun y w'=>y = leadsF a.next (wordF s) 0 ∧ Chg Nil w w':=by
 obtain ⟨x1,x2,sa,sn,_⟩:=x
 obtain ⟨_,_,hn1,hn2,_,_,hrows⟩:=check_spec hc
 refine fold_leads.calls x1 x2 sa sn s ?_
 unfold fold_leads.sh
 refine New.mk fun b1 w1 hb1 hh1 hs1 hc1=>?_
 refine Ret.call (Reduce_ret (hl.nil hc1) s) ?_
 rintro _ w2 ⟨rfl,hc2⟩
 obtain ⟨hidx,hsz⟩:=idxs_word hs
 refine string_bytes _ fun sl w3 hrd hc3=>?_
 have hc03:=(hc1.then hc2).then hc3
 have hn:sl.n = (ReduceF s).size:=by rw [hrd.len]; simp
 have hlen:(wordF s).length = (ReduceF s).size:=by have:=congrArg List.length hidx; simpa using this.symm
 have hlt:∀ (i:Nat) (hi:i < (wordF s).length),(wordF s)[i] < 2 * k.toNat:=fun i hi=>by
  obtain ⟨h1,h2,h3,h4⟩:=check_bad hs
  obtain ⟨h8,hi8⟩:=check8 hs
  unfold hasBad at h4
  rw [List.any_eq_false] at h4
  have hm:(wordF s)[i] ∈ wordF s:=List.getElem_mem hi
  unfold wordF at hm
  obtain ⟨b,hb,he⟩:=List.mem_map.1 hm
  have hbm:=redFold_mem (P:=fun b=>b ∈ s.data.toList) s.data.toList [] (by simp) (fun b hb=>hb) b hb
  have hbad:badF k (b.toNat:Int) = false:=by simpa using h4 b hbm
  simp only [badF,Bool.or_eq_false_iff,decide_eq_false_iff_not] at hbad
  have hbo:idxF (ofB b) = idxF (b.toNat:Int):=rfl
  have he':(idxF (ofB b)).toNat = (wordF s)[i]:=he
  rw [hbo] at he'
  omega
 refine LoopT.mk (fun y W=>∃ i st:Nat,i ≤ (wordF s).length ∧ st < a.next.length ∧ y = (at0 b1,(st:Int),sl,((sl.n:Nat):Int),(i:Int),()) ∧ Chg Nil w W ∧ W.heap[b1]? = some (.cells #[.int .i64 x1,.int .i64 x2,sa.v,sn.v] 27 (0,0)) ∧ RdT W tB sl ((ReduceF s).data.toList.map ofB) ∧
   leadsF a.next ((wordF s).drop i) st = leadsF a.next (wordF s) 0) (fun y _=>(wordF s).length - y.2.2.2.2.1.toNat) ⟨0,0,Nat.zero_le _,by omega,rfl,hc03,(hc2.then hc3).heap hh1 fun h=>h,hrd,rfl⟩ ?_
 rintro y g W ⟨i,st,hi,hst,rfl,hcW,h1W,hrW,hlead⟩
 dsimp only
 refine Br.dec (fun hlt'=>?_) (fun hge=>?_)
 ·have hil:i < (wordF s).length:=by omega
  have hxi:((ReduceF s).data.toList.map ofB)[i]? = some (ofB ((ReduceF s)[i]'(by omega))):=by rw [List.getElem?_map,bytes_get _ i (by omega)]; rfl
  have hidxi:idxF (ofB ((ReduceF s)[i]'(by omega))) = (((wordF s)[i]:Nat):Int):=by
   have h1:=congrArg (·[i]?) hidx
   simp only [List.getElem?_map,bytes_get (ReduceF s) i (by omega),List.getElem?_eq_getElem hil,Option.map_some,Option.some.injEq] at h1
   exact h1
  have hdrop:(wordF s).drop i = (wordF s)[i] :: (wordF s).drop (i + 1):=List.drop_eq_getElem_cons hil
  rw [hdrop] at hlead
  simp only [leadsF] at hlead
  obtain ⟨hrl,hrv⟩:=hrows _ (List.getElem_mem hst)
  have hxl:(wordF s)[i] < a.next[st].length:=by have:=hlt i hil; omega
  rw [getD_get hst,getD_get hxl] at hlead
  obtain ⟨_,_,_,sls,hrn,hsl,hrws,_⟩:=h.rd
  have hrn:RdT w (.sc .sl) sn sls:=hrn
  obtain ⟨rsl,hrsl⟩:∃ rsl,sls[st]? = some rsl:=⟨_,List.getElem?_eq_getElem (by rw [hsl]; exact hst)⟩
  have hrr:=hrws st rsl _ hrsl (List.getElem?_eq_getElem hst)
  refine hrW.get (t:=tB) i rfl hxi ?_
  have hd:Chg Nil W W.drew:=Chg.drew W
  refine ⟨fun V=>Chg Nil w V ∧ V.heap[b1]? = some (.cells #[.int .i64 x1,.int .i64 x2,sa.v,sn.v] 27 (0,0)),⟨hcW.then hd,h1W⟩,?_⟩
  refine LoadS.sc (s:=.sl) (x:=sn) (fun V hV=>by rw [cellOf hV.2]; rfl) ?_
  refine rd_idxA (t:=.sc .sl) hrn st rfl hrsl fun ad had=>?_
  refine LoadS.sc (s:=.sl) (x:=rsl) (fun V hV=>(hrn.chg hV.1 fun _ _ h=>h).cell1 had hrsl) ?_
  refine Ret.call (index_ret (hl.nil (hcW.then hd)) _) ?_
  rintro _ W2 ⟨rfl,hc2'⟩
  have hcW2:=(hcW.then hd).then hc2'
  have h1W2:=hc2'.heap (w:=W.drew) h1W fun h=>h
  refine ⟨⟨hcW2,h1W2⟩,?_⟩
  rw [hidxi]
  have hxe:a.next[st][(wordF s)[i]]? = some a.next[st][(wordF s)[i]]:=List.getElem?_eq_getElem hxl
  refine rd_idxA (t:=tI) hrr (wordF s)[i] rfl hxe fun ad' had'=>?_
  refine LoadS.sc (s:=.int .i64) (x:=a.next[st][(wordF s)[i]]) (fun V hV=>(hrr.chg hV.1 fun _ _ h=>h).cell1 had' hxe) ?_
  obtain ⟨v1,v2⟩:=hrv _ (List.getElem_mem hxl)
  refine Br.dec (fun hneg=>⟨_,rfl,?_,hcW2⟩) (fun hpos=>?_)
  ·have hneg':a.next[st][(wordF s)[i]] < 0:=hneg
   rw [if_pos hneg'] at hlead; exact hlead
  ·have hpos':¬ a.next[st][(wordF s)[i]] < 0:=hpos
   rw [if_neg hpos'] at hlead
   rw [wrap64 (by omega) (by omega)]
   refine ⟨⟨i + 1,(a.next[st][(wordF s)[i]]).toNat,hil,by omega,?_,hcW2,h1W2,hrW.chg (hd.then hc2') (fun _ _ h=>h),hlead⟩,?_⟩
   ·rw [Int.toNat_of_nonneg (by omega)]; rfl
   ·show (wordF s).length - (i + 1) < (wordF s).length - i
    omega
 ·have hin:i = (wordF s).length:=by omega
  rw [hin,List.drop_eq_nil_of_le (Nat.le_refl _)] at hlead
  simp only [leadsF] at hlead
  exact ⟨_,rfl,hlead,hcW⟩
end Go.Proofs.YtffdjfkekdoeaaaDoor.Fo
end
section
set_option maxRecDepth 4000
set_option maxHeartbeats 1000000
namespace Go.Proofs.YtffdjfkekdoeaaaDoor.Fo
open Fw Wd
def memberF (k:Int) (a:Aut) (s:ByteArray):Bool × Int:=
 if examF k [a] [s] ≠ 0 then (false,examF k [a] [s]) else (leadsF a.next (wordF s) 0 == 0,0)
theorem Member_ret {w:World} (hl:Laid w) {k:Int} {x:Int × Int × Sl × Sl × Unit} {a:Aut} (h:AutIn w x a) (s:ByteArray) :
  RetN Tryd.prog 20 #[.int .i64 k,.agg #[.int .i64 x.1,.int .i64 x.2.1,x.2.2.1.v,x.2.2.2.1.v],.string s] [.sc .bool,.sc (.int .i64)] w fun y w'=>y = ((memberF k a s).1,(memberF k a s).2,()) ∧ Chg Nil w w':=by
 obtain ⟨x1,x2,sa,sn,_⟩:=x
 refine fold_Member.calls k x1 x2 sa sn s ?_
 unfold fold_Member.sh
 refine New.mk fun b1 w1 hb1 hn1 hs1 hc1=>?_
 refine LoadT.mk tA (x:=(x1,x2,sa,sn,())) (fun j v hv=>by rw [cellOf hn1]; simpa [Ty.cells] using hv) ?_
 refine New.mk fun b4 w2 hb4 hn4 hs4 hc4=>?_
 refine New.mk fun b6 w3 hb6 hn6 hs6 hc6=>?_
 have hc03:=(hc1.then hc4).then hc6
 have hn4':=hc6.heap hn4 fun h=>h
 refine Ret.call (exam_ret (sl:=⟨some ⟨b4,0,none⟩,1,1⟩) (sw:=⟨some ⟨b6,0,none⟩,1,1⟩) (xs:=[(x1,x2,sa,sn,())]) (ats:=[a]) (ws:=[s]) (hl.nil hc03) (rd_one (t:=tA) hn4' rfl) rfl (fun i y b hy hb=>by
  cases i with
  | zero=>simp at hy hb; subst hy; subst hb; exact h.nil hc03
  | succ i=>simp at hy) (rd_one (t:=.sc .str) hn6 rfl) (by simp) (by simp)) ?_
 rintro _ w4 ⟨rfl,hc5⟩
 have hc04:=hc03.then hc5
 refine Br.mk (fun hne=>⟨(false,examF k [a] [s],()),rfl,?_,hc04⟩) (fun heq=>?_)
 ·have hne':examF k [a] [s] ≠ 0:=by simpa using hne
  simp [memberF,hne']
 have hz:examF k [a] [s] = 0:=by simpa using heq
 obtain ⟨hk1,hk8,hck,hws⟩:=exam_rows hz
 have h14:w4.heap[b1]? = some (.cells #[.int .i64 x1,.int .i64 x2,sa.v,sn.v] 27 (0,0)):=((hc4.then hc6).then hc5).heap hn1 fun h=>h
 refine LoadT.mk tA (x:=(x1,x2,sa,sn,())) (fun j v hv=>by rw [cellOf h14]; simpa [Ty.cells] using hv) ?_
 refine Ret.call (leads_ret (x:=(x1,x2,sa,sn,())) (hl.nil hc04) (h.nil hc04) hck ⟨hk1,hk8⟩ (hws s (by simp))) ?_
 rintro _ w5 ⟨rfl,hc6'⟩
 exact ⟨(leadsF a.next (wordF s) 0 == 0,0,()),rfl,by simp [memberF,hz],hc04.then hc6'⟩
end Go.Proofs.YtffdjfkekdoeaaaDoor.Fo
end
section
set_option maxRecDepth 4000
set_option maxHeartbeats 1000000
namespace Go.Proofs.YtffdjfkekdoeaaaDoor.Fo
open Fw Wd
theorem under96:Tryd.prog.underlying 96 = some (.array 2 3):=by kernel_rfl
theorem under134:Tryd.prog.underlying 134 = some (.map 96 4):=by kernel_rfl
theorem under91:Tryd.prog.underlying 91 = some (.map 96 3):=by kernel_rfl
theorem size3 (w:World):(sizeOf 3).run Tryd.prog w = .ok 1 w:=by
 obtain ⟨i,hi,hs⟩:=Option.map_eq_some_iff.1 (show (Tryd.prog.info? 3).map (·.size) = some 1 by kernel_rfl)
 simp [sizeOf,typeInfo,hi,hs]
theorem equalIn_int (d:Nat) (w:World) (a b:Int):(Op.equalIn (d + 1) 3 (.int .i64 a) (.int .i64 b)).run Tryd.prog w = .ok (a == b) w:=by
 simp [Op.equalIn,run_underlying under3]
theorem part2 (w:World) (a b:Int) (i:Nat) (hi:i < 2):(part 3 #[.int .i64 a,.int .i64 b] (i * 1)).run Tryd.prog w = .ok (.int .i64 (if i = 0 then a else b)) w:=by
 have:i = 0 ∨ i = 1:=by omega
 rcases this with rfl | rfl <;> simp [part,isAgg,run_underlying under3]
theorem equalIn_pair (d:Nat) (w:World) (a b c e:Int):(Op.equalIn (d + 2) 96 (.agg #[.int .i64 a,.int .i64 b]) (.agg #[.int .i64 c,.int .i64 e])).run Tryd.prog w = .ok (a == c && b == e) w:=by
 have h0:∀ x y,(part 3 #[.int .i64 x,.int .i64 y] 0).run Tryd.prog w = .ok (.int .i64 x) w:=fun x y=>by simpa using part2 w x y 0 (by decide)
 have h1:∀ x y,(part 3 #[.int .i64 x,.int .i64 y] 1).run Tryd.prog w = .ok (.int .i64 y) w:=fun x y=>by simpa using part2 w x y 1 (by decide)
 rw [Op.equalIn]
 have hr:List.range' 0 2 = [0,1]:=rfl
 cases h2:(a == c) <;> cases h3:(b == e) <;>
  simp [run_underlying under96,size3,h0,h1,equalIn_int d,hr,h2,h3]
abbrev pairV (p:Int × Int):Value:=.agg #[.int .i64 p.1,.int .i64 p.2]
theorem checkKey_pair (n:Nat) (w:World) (e:Bool) (p:Int × Int):(Instr.checkKey e (n + 2) 96 (pairV p)).run Tryd.prog w = .ok () w:=by
 have h0:∀ x y,(part 3 #[.int .i64 x,.int .i64 y] 0).run Tryd.prog w = .ok (.int .i64 x) w:=fun x y=>by simpa using part2 w x y 0 (by decide)
 have h1:∀ x y,(part 3 #[.int .i64 x,.int .i64 y] 1).run Tryd.prog w = .ok (.int .i64 y) w:=fun x y=>by simpa using part2 w x y 1 (by decide)
 have hk:∀ v,(Instr.checkKey e (n + 1) 3 (.int .i64 v)).run Tryd.prog w = .ok () w:=fun v=>checkKey_int Tryd.prog w e n 3 .i64 .i64 v under3
 have hr:List.range' 0 2 = [0,1]:=rfl
 rw [Instr.checkKey]
 simp [run_underlying under96,size3,h0,h1,hk,hr,pairV]
def entsP (es:List MapEntry) (l:List ((Int × Int) × Value)):Prop:=es.map (fun e=>(e.key,e.val)) = l.map fun p=>(pairV p.1,p.2)
theorem equal_pair (w:World) (p q:Int × Int):(Op.equal 96 (pairV p) (pairV q)).run Tryd.prog w = .ok (decide (p = q)) w:=by
 have:=equalIn_pair 9998 w p.1 p.2 q.1 q.2
 show (Op.equalIn (9998 + 2) 96 _ _).run Tryd.prog w = _
 rw [this]
 congr 1
 rw [Bool.eq_iff_iff]
 simp [Prod.ext_iff]
theorem asking_none (w:World) (t:Int × Int):∀ (es:List MapEntry) (l:List ((Int × Int) × Value)) (i:Nat),entsP es l → (∀ p ∈ l,p.1 ≠ t) → (Instr.findAsking 96 (pairV t) es i).run Tryd.prog w = .ok none w
 | [],l,i,_,_=>by simp [Instr.findAsking]
 | e :: es,[],i,h,_=>by simp [entsP] at h
 | e :: es,p :: l,i,h,hn=>by
  simp only [entsP,List.map_cons,List.cons.injEq,Prod.mk.injEq] at h
  have hne:¬ t = p.1:=fun he=>hn p (by simp) he.symm
  rw [Instr.findAsking,h.1.1,Sem.run_bind,equal_pair,decide_eq_false hne]
  simp only [Result.andThen_ok,Bool.false_eq_true,if_false]
  exact asking_none w t es l (i + 1) h.2 fun q hq=>hn q (by simp [hq])
theorem asking_some (w:World) (t:Int × Int):∀ (es:List MapEntry) (l:List ((Int × Int) × Value)) (i j:Nat) (v:Value),entsP es l → l[j]? = some (t,v) → (∀ j' p,j' < j → l[j']? = some p → p.1 ≠ t) → (Instr.findAsking 96 (pairV t) es i).run Tryd.prog w = .ok (some (i + j,v)) w
 | [],l,i,j,v,h,hj,_=>by cases l with | nil=>simp at hj | cons _ _=>simp [entsP] at h
 | e :: es,[],i,j,v,h,hj,_=>by simp at hj
 | e :: es,p :: l,i,j,v,h,hj,hn=>by
  simp only [entsP,List.map_cons,List.cons.injEq,Prod.mk.injEq] at h
  rw [Instr.findAsking,h.1.1,Sem.run_bind,equal_pair]
  cases j with
  | zero=>
   simp only [List.getElem?_cons_zero,Option.some.injEq] at hj
   subst hj
   simp [h.1.2]
  | succ j=>
   have hne:¬ t = p.1:=fun he=>hn 0 p (by omega) (by simp) he.symm
   rw [decide_eq_false hne]
   simp only [Result.andThen_ok,Bool.false_eq_true,if_false]
   rw [List.getElem?_cons_succ] at hj
   have:=asking_some w t es l (i + 1) j v h.2 hj fun j' q hj' hq=>hn (j' + 1) q (by omega) (by simpa using hq)
   rw [show i + (j + 1) = i + 1 + j by omega]; exact this
theorem findKey_none (w:World) {t:Int × Int} {es:List MapEntry} {l:List ((Int × Int) × Value)} (h:entsP es l) (hn:∀ p ∈ l,p.1 ≠ t):(Instr.findKey 96 (pairV t) es).run Tryd.prog w = .ok none w:=by
 cases es with
 | nil=>simp [Instr.findKey,run_underlying under96,Instr.findNow]
 | cons e es=>
  have:=asking_none w t (e :: es) l 0 h hn
  simp [Instr.findKey,run_underlying under96,Instr.findNow,Instr.sameNow,pairV] at this ⊢
  exact this
theorem findKey_some (w:World) {t:Int × Int} {es:List MapEntry} {l:List ((Int × Int) × Value)} {j:Nat} {v:Value} (h:entsP es l) (hj:l[j]? = some (t,v)) (hn:∀ j' p,j' < j → l[j']? = some p → p.1 ≠ t):(Instr.findKey 96 (pairV t) es).run Tryd.prog w = .ok (some (j,v)) w:=by
 cases es with
 | nil=>cases l with | nil=>simp at hj | cons _ _=>simp [entsP] at h
 | cons e es=>
  have:=asking_some w t (e :: es) l 0 j v h hj hn
  rw [Nat.zero_add] at this
  simp [Instr.findKey,run_underlying under96,Instr.findNow,Instr.sameNow,pairV] at this ⊢
  exact this
def MapP (w:World) (mb:Nat) (l:List ((Int × Int) × Value)):Prop:=∃ es clock,w.heap[mb]? = some (.map es clock) ∧ entsP es.toList l
theorem updateP_new {w:World} {mb:Nat} {l:List ((Int × Int) × Value)} {ty e:TypeId} (hty:Tryd.prog.underlying ty = some (.map 96 e)) (h:MapP w mb l) {t:Int × Int} (hn:∀ p ∈ l,p.1 ≠ t) (v:Value) :
  ∃ w',(Instr.mapUpdate ty (.map (some mb)) (pairV t) v).run Tryd.prog w = .ok () w' ∧ MapP w' mb (l ++ [(t,v)]) ∧ Chg (· = mb) w w':=by
 obtain ⟨es,c,h1,h2⟩:=h
 have hck:=checkKey_pair 9998 w false t
 have hf:=findKey_none w h2 hn
 refine ⟨w.putObj mb (.map (es.push { key:=pairV t,val:=v,born:=c }) (c + 1)),?_,⟨_,_,heap_putObj h1,?_⟩,Chg.putObj w _ rfl⟩
 ·simp only [Instr.mapUpdate,run_underlying hty,getObj,setObj,Sem.run_bind,Sem.run,h1,Result.andThen]
  rw [hck]
  simp only [Result.andThen]
  rw [hf]
  simp [Sem.run,World.putObj,h1]
 ·unfold entsP at *
  rw [Array.toList_push,List.map_append,h2,List.map_append]
  rfl
theorem lookupP_in {w:World} {mb:Nat} {l:List ((Int × Int) × Value)} {ty e:TypeId} (hty:Tryd.prog.underlying ty = some (.map 96 e)) (h:MapP w mb l) {t:Int × Int} {j:Nat} {v:Value} (hj:l[j]? = some (t,v)) (hn:∀ j' p,j' < j → l[j']? = some p → p.1 ≠ t) (ok:Bool) :
  (Instr.lookup ty (.map (some mb)) (pairV t) ok).run Tryd.prog w = .ok (if ok then .tuple #[v,.bool true] else v) w:=by
 obtain ⟨es,c,h1,h2⟩:=h
 have hck:=checkKey_pair 9998 w es.isEmpty t
 have hf:=findKey_some w h2 hj hn
 simp only [Instr.lookup,run_underlying hty,getObj,Sem.run_bind,Sem.run,h1,Result.andThen,Sem.run_pure]
 rw [hck]
 simp only [Result.andThen]
 rw [hf]
 cases ok <;> simp [Sem.run]
theorem lookupP_out {w:World} {mb:Nat} {l:List ((Int × Int) × Value)} {ty e:TypeId} (hty:Tryd.prog.underlying ty = some (.map 96 e)) (h:MapP w mb l) {t:Int × Int} (hn:∀ p ∈ l,p.1 ≠ t) {z:Value} (hz:(zeroValue e).run Tryd.prog w = .ok z w) (ok:Bool) :
  (Instr.lookup ty (.map (some mb)) (pairV t) ok).run Tryd.prog w = .ok (if ok then .tuple #[z,.bool false] else z) w:=by
 obtain ⟨es,c,h1,h2⟩:=h
 have hck:=checkKey_pair 9998 w es.isEmpty t
 have hf:=findKey_none w h2 hn
 simp only [Instr.lookup,run_underlying hty,getObj,Sem.run_bind,Sem.run,h1,Result.andThen,Sem.run_pure]
 rw [hck]
 simp only [Result.andThen]
 rw [hf]
 simp only [Result.andThen,Sem.run_bind]
 rw [hz]
 cases ok <;> simp [Sem.run]
end Go.Proofs.YtffdjfkekdoeaaaDoor.Fo
end
section
namespace Go.Proofs.YtffdjfkekdoeaaaDoor.Fo
open Fw Wd
def letS (x:Int):ByteArray:=⟨#[UInt8.ofNat (letF x).toNat]⟩
structure Tree where
 seen:Nat
 paths:List ByteArray
 keys:List (Int × Int)
def treeE (s:Nat):List (Int × Int × Unit) → Tree → Tree
 | [],T=>T
 | (x,t,_) :: l,T=>
  if t = (T.seen:Int) then treeE s l ⟨T.seen + 1,T.paths.set t.toNat (T.paths.getD s ⟨#[]⟩ ++ letS x),T.keys ++ [((s:Int),x),(t,((x.toNat ^^^ 1:Nat):Int))]⟩
  else treeE s l T
def treeR:Nat → List (List Int) → Tree → Tree
 | _,[],T=>T
 | s,row :: l,T=>treeR (s + 1) l (treeE s (edgesFrom 0 row) T)
def treeF (next:List (List Int)):Tree:=treeR 0 next ⟨1,List.replicate next.length ⟨#[]⟩,[]⟩
structure Bas where
 number:List (Int × Int)
 basis:List ByteArray
def basE (T:Tree) (s:Nat):List (Int × Int × Unit) → Bas → Bas
 | [],B=>B
 | (x,t,_) :: l,B=>
  if x.toNat % 2 = 0 ∧ ((s:Int),x) ∉ T.keys then
   basE T s l ⟨B.number ++ [((s:Int),x)],B.basis ++ [ReduceF (T.paths.getD s ⟨#[]⟩ ++ letS x ++ InverseF (T.paths.getD t.toNat ⟨#[]⟩))]⟩
  else basE T s l B
def basR (T:Tree):Nat → List (List Int) → Bas → Bas
 | _,[],B=>B
 | s,row :: l,B=>basR T (s + 1) l (basE T s (edgesFrom 0 row) B)
def basF (next:List (List Int)):Bas:=basR (treeF next) 0 next ⟨[],[]⟩
end Go.Proofs.YtffdjfkekdoeaaaDoor.Fo
end
section
set_option maxRecDepth 4000
set_option maxHeartbeats 4000000
namespace Go.Proofs.YtffdjfkekdoeaaaDoor.Fo
open Fw Wd
theorem ok22:slOk Tryd.prog 22 9 1 16 = true:=by kernel_rfl
theorem zero9:(Tryd.prog.info? 9).bind (·.zero) = some (.string ⟨#[]⟩):=by kernel_rfl
def getN (next:List (List Int)) (s x:Nat):Int:=(next.getD s []).getD x 0
structure TreeOk (next:List (List Int)) (T:Tree):Prop where
 len:T.paths.length = next.length
 seen:T.seen ≤ next.length
 keys:∀ u y,(u,y) ∈ T.keys → 0 ≤ u ∧ u < (T.seen:Int) ∧ 0 ≤ getN next u.toNat y.toNat ∧ getN next u.toNat y.toNat < (T.seen:Int)
 small:∀ p ∈ T.paths,p.size ≤ T.seen
 klen:T.keys.length + 2 = 2 * T.seen
theorem edges_val:∀ (l:List Int) (y:Nat) (x t:Int) (u:Unit),(x,t,u) ∈ edgesFrom y l → l.getD (x.toNat - y) 0 = t ∧ (y:Int) ≤ x
 | [],y,x,t,u,h=>by simp [edgesFrom] at h
 | a :: l,y,x,t,u,h=>by
  have key:(x,t,u) ∈ edgesFrom (y + 1) l → (a :: l).getD (x.toNat - y) 0 = t ∧ (y:Int) ≤ x:=fun h=>by
   obtain ⟨h1,h2⟩:=edges_val l (y + 1) x t u h
   refine ⟨?_,by omega⟩
   rw [show x.toNat - y = (x.toNat - (y + 1)) + 1 by omega]
   simpa using h1
  rw [edgesFrom] at h
  split at h
  ·rcases List.mem_cons.1 h with h | h
   ·simp only [Prod.mk.injEq] at h
    obtain ⟨rfl,rfl,_⟩:=h
    exact ⟨by simp,Int.le_refl _⟩
   ·exact key h
  ·exact key h
theorem edges_sorted:∀ (l:List Int) (y:Nat),(edgesFrom y l).Pairwise (fun a b=>a.1 < b.1)
 | [],y=>by simp [edgesFrom]
 | a :: l,y=>by
  rw [edgesFrom]
  split
  ·refine List.pairwise_cons.2 ⟨fun e he=>?_,edges_sorted l (y + 1)⟩
   obtain ⟨x,t,u⟩:=e
   have:=(edges_mem l (y + 1) x t u he).2.2.1
   show (y:Int) < x
   omega
  ·exact edges_sorted l (y + 1)
theorem TreeOk.start {next:List (List Int)} (h:1 ≤ next.length):TreeOk next ⟨1,List.replicate next.length ⟨#[]⟩,[]⟩:=
 ⟨by simp,h,fun u y h=>by simp at h,fun p hp=>by rw [List.eq_of_mem_replicate hp]; exact Nat.zero_le _,rfl⟩
theorem letS_size (x:Int):(letS x).size = 1:=rfl
theorem TreeOk.step {next:List (List Int)} {T:Tree} (h:TreeOk next T) {s x:Nat} (hs:s < T.seen) (ht:T.seen < next.length) (hx:getN next s x = (T.seen:Int)) (hb:getN next T.seen (x ^^^ 1) = (s:Int)) :
  TreeOk next ⟨T.seen + 1,T.paths.set T.seen (T.paths.getD s ⟨#[]⟩ ++ letS (x:Int)),T.keys ++ [((s:Int),(x:Int)),((T.seen:Int),((x ^^^ 1:Nat):Int))]⟩:=by
 refine ⟨by simp [h.len],ht,fun u y hm=>?_,fun p hp=>?_,by have:=h.klen; simp; omega⟩
 ·rcases List.mem_append.1 hm with hm | hm
  ·obtain ⟨h1,h2,h3,h4⟩:=h.keys u y hm
   refine ⟨h1,?_,h3,?_⟩ <;> simp <;> omega
  ·simp only [List.mem_cons,Prod.mk.injEq,List.not_mem_nil,or_false] at hm
   rcases hm with ⟨rfl,rfl⟩ | ⟨rfl,rfl⟩
   ·refine ⟨by omega,by simp; omega,?_,?_⟩ <;> simp only [Int.toNat_natCast,hx] <;> omega
   ·refine ⟨by omega,by simp; omega,?_,?_⟩ <;> simp only [Int.toNat_natCast,hb] <;> omega
 ·have hsz:∀ q ∈ T.paths,q.size ≤ T.seen + 1:=fun q hq=>by have:=h.small q hq; omega
  rcases List.mem_or_eq_of_mem_set hp with hp | rfl
  ·exact hsz p hp
  ·have:(T.paths.getD s ⟨#[]⟩) ∈ T.paths:=by
    have hl:s < T.paths.length:=by rw [h.len]; omega
    rw [getD_get hl]; exact List.getElem_mem hl
   have:=h.small _ this
   rw [ByteArray.size_append,letS_size]
   exact Nat.succ_le_succ this
theorem TreeOk.new1 {next:List (List Int)} {T:Tree} (h:TreeOk next T) {s x:Nat} (hx:getN next s x = (T.seen:Int)):((s:Int),(x:Int)) ∉ T.keys:=fun hm=>by
 obtain ⟨_,_,_,h4⟩:=h.keys _ _ hm
 simp only [Int.toNat_natCast,hx] at h4
 omega
theorem TreeOk.new2 {next:List (List Int)} {T:Tree} (h:TreeOk next T) {s x y:Nat} (hs:s < T.seen):((T.seen:Int),(y:Int)) ∉ T.keys ++ [((s:Int),(x:Int))]:=fun hm=>by
 rcases List.mem_append.1 hm with hm | hm
 ·have:=(h.keys _ _ hm).2.1; omega
 ·simp only [List.mem_singleton,Prod.mk.injEq] at hm; omega
def keysL (l:List (Int × Int)):List ((Int × Int) × Value):=l.map fun k=>(k,.bool true)
def numL (l:List (Int × Int)):List ((Int × Int) × Value):=l.zipIdx.map fun p=>(p.1,.int .i64 (p.2:Int))
theorem keysL_new {l:List (Int × Int)} {t:Int × Int} (h:t ∉ l):∀ p ∈ keysL l,p.1 ≠ t:=fun p hp he=>by
 unfold keysL at hp
 obtain ⟨q,hq,rfl⟩:=List.mem_map.1 hp
 exact h (he ▸ hq)
theorem numL_get (l:List (Int × Int)) (i:Nat):(numL l)[i]? = (l[i]?).map fun k=>(k,Value.int .i64 (i:Int)):=by
 unfold numL
 rw [List.getElem?_map,List.getElem?_zipIdx]
 cases l[i]? <;> simp
theorem numL_new {l:List (Int × Int)} {t:Int × Int} (h:t ∉ l):∀ p ∈ numL l,p.1 ≠ t:=fun p hp he=>by
 obtain ⟨i,hi⟩:=List.getElem?_of_mem hp
 rw [numL_get] at hi
 cases hq:l[i]? with
 | none=>rw [hq] at hi; cases hi
 | some k=>
  rw [hq] at hi; cases hi
  exact h (he ▸ List.mem_of_getElem? hq)
theorem keysL_append (l:List (Int × Int)) (k:Int × Int):keysL l ++ [(k,.bool true)] = keysL (l ++ [k]):=by simp [keysL]
theorem numL_append (l:List (Int × Int)) (k:Int × Int):numL l ++ [(k,.int .i64 (l.length:Int))] = numL (l ++ [k]):=by simp [numL,List.zipIdx_append]
theorem MapP.chg {w w':World} {mb:Nat} {l:List ((Int × Int) × Value)} {S:Nat → Prop} (h:MapP w mb l) (hc:Chg S w w') (hs:¬ S mb):MapP w' mb l:=by
 obtain ⟨es,c,h1,h2⟩:=h; exact ⟨es,c,hc.heap h1 hs,h2⟩
theorem MapP.turn {B:Nat} {w w':World} {mb:Nat} {l:List ((Int × Int) × Value)} (h:MapP w mb l) (t:Turn B w w'):MapP w' mb l:=by
 obtain ⟨es,c,h1,h2⟩:=h; exact ⟨es,c,t.map h1,h2⟩
theorem OwnT.turn {B:Nat} {w w':World} {e:TypeId} {t:Ty} {s:Sl} {xs:List t.den} (h:OwnT w e t s xs) (tn:Turn B w w'):OwnT w' e t s xs:=by
 refine ⟨⟨h.row.1,?_⟩,h.len⟩
 rcases h.row.2 with hn | ⟨g,cap,cur,h1,h2,h3,h4⟩
 ·exact .inl hn
 ·exact .inr ⟨g,cap,cur,h1,h2,tn.cells h3,h4⟩
theorem zero4b (w:World):(zeroValue 4).run Tryd.prog w = .ok (.bool false) w:=by
 obtain ⟨i,hi,hz⟩:=Option.bind_eq_some_iff.1 (show (Tryd.prog.info? 4).bind (·.zero) = some (.bool false) by kernel_rfl)
 simp [zeroValue,typeInfo,hi,hz]
theorem lookup_keys {w:World} {mb:Nat} {l:List (Int × Int)} (h:MapP w mb (keysL l)) (t:Int × Int):(Instr.lookup 134 (.map (some mb)) (pairV t) false).run Tryd.prog w = .ok (.bool (decide (t ∈ l))) w:=by
 by_cases ht:t ∈ l
 ·have hlt:l.idxOf t < l.length:=List.idxOf_lt_length_iff.2 ht
  have hget:l[l.idxOf t]? = some t:=by rw [List.getElem?_eq_getElem hlt,List.getElem_idxOf hlt]
  have:=lookupP_in under134 h (t:=t) (j:=l.idxOf t) (v:=.bool true) (by unfold keysL; rw [List.getElem?_map,hget]; rfl) (fun j' p hj hp he=>by
   unfold keysL at hp
   rw [List.getElem?_map] at hp
   cases hq:l[j']? with
   | none=>rw [hq] at hp; cases hp
   | some k=>
    rw [hq] at hp; cases hp
    have he:k = t:=he
    subst he
    have hjl:=List.getElem?_eq_some_iff.1 hq
    have:=List.idxOf_lt_length_iff.2 ht
    have hne:=List.not_of_lt_findIdx (p:=(· == k)) (xs:=l) (i:=j') (by exact hj)
    rw [hjl.2] at hne; simp at hne) false
  simpa [ht] using this
 ·have:=lookupP_out under134 h (t:=t) (keysL_new ht) (zero4b w) false
  simpa [ht] using this
theorem lookup_num_in {w:World} {mb:Nat} {l:List (Int × Int)} (hn:l.Nodup) (h:MapP w mb (numL l)) {t:Int × Int} (ht:t ∈ l):(Instr.lookup 91 (.map (some mb)) (pairV t) true).run Tryd.prog w = .ok (.tuple #[.int .i64 ((l.idxOf t:Nat):Int),.bool true]) w:=by
 have hlt:l.idxOf t < l.length:=List.idxOf_lt_length_iff.2 ht
 have hget:l[l.idxOf t]? = some t:=by rw [List.getElem?_eq_getElem hlt,List.getElem_idxOf hlt]
 have:=lookupP_in under91 h (t:=t) (j:=l.idxOf t) (v:=.int .i64 ((l.idxOf t:Nat):Int)) (by rw [numL_get,hget]; rfl) (fun j' p hj hp he=>by
  rw [numL_get] at hp
  cases hq:l[j']? with
  | none=>rw [hq] at hp; cases hp
  | some k=>
   rw [hq] at hp; cases hp
   have he:k = t:=he
   subst he
   have hjl:=List.getElem?_eq_some_iff.1 hq
   have hne:=List.not_of_lt_findIdx (p:=(· == k)) (xs:=l) (i:=j') (by exact hj)
   rw [hjl.2] at hne; simp at hne) true
 simpa using this
theorem lookup_num_out {w:World} {mb:Nat} {l:List (Int × Int)} (h:MapP w mb (numL l)) {t:Int × Int} (ht:t ∉ l):(Instr.lookup 91 (.map (some mb)) (pairV t) true).run Tryd.prog w = .ok (.tuple #[.int .i64 0,.bool false]) w:=by
 have:=lookupP_out under91 h (t:=t) (numL_new ht) (zero3' w) true
 simpa using this
structure BasOk (s:Nat) (P:Int → Prop) (B:Bas) (n:Nat):Prop where
 lt:∀ u y,(u,y) ∈ B.number → u < (s:Int) ∨ u = (s:Int) ∧ P y
 len:B.basis.length = B.number.length
 size:B.number.length ≤ n
 nodup:B.number.Nodup
theorem BasOk.new {s:Nat} {P:Int → Prop} {B:Bas} {n:Nat} (h:BasOk s P B n) {x:Int} (hx:¬ P x):((s:Int),x) ∉ B.number:=fun hm=>by
 rcases h.lt _ _ hm with h | ⟨_,h⟩
 ·omega
 ·exact hx h
theorem letF_small (x:Int):0 ≤ letF x ∧ letF x < 256:=by
 unfold letF
 split
 ·rename_i h
  have:∀ i:Fin 16,0 ≤ lets.getD i.val 0 ∧ lets.getD i.val 0 < 256:=by decide
  exact this ⟨x.toNat,by omega⟩
 ·omega
theorem letS_ofB (x:Int):[UInt8.ofNat (letF x).toNat].map (fun b=>(b.toNat:Int)) = [letF x]:=by
 have:=letF_small x
 simp only [List.map_cons,List.map_nil]
 congr 1
 rw [UInt8.toNat_ofNat']
 omega
theorem invF_size (s:ByteArray):(InverseF s).size ≤ s.size:=by
 unfold InverseF
 split
 ·show (invF s.data.toList).toArray.size ≤ s.data.size
  rw [List.size_toArray,invF,List.length_reverse,List.length_map,Array.length_toList]
  exact Nat.le_refl _
 ·exact Nat.zero_le _
theorem letter_string {w:World} {b:Nat} {x:Int} (h:w.heap[b]? = some (.cells #[.int .u8 (letF x)] 5 (0,0))) {K:ByteArray → World → Prop} (k:K (letS x) w) :
  RunT Tryd.prog (.sc .str) (convert 87 9 (.slice (some (Addr.mk b 0 none)) 1 1)) w K:=by
 refine bytes_string (s:=⟨some (Addr.mk b 0 none),1,1⟩) (l:=[UInt8.ofNat (letF x).toNat]) under87 under5 under9 ?_ k
 rw [letS_ofB]
 exact rd_one (t:=.sc (.int .u8)) h rfl
end Go.Proofs.YtffdjfkekdoeaaaDoor.Fo
end
section
set_option maxRecDepth 4000
set_option maxHeartbeats 4000000
namespace Go.Proofs.YtffdjfkekdoeaaaDoor.Fo
open Fw Wd
abbrev tS:Ty:=.sc .str
abbrev sl0 (g n:Nat):Sl:=⟨some ⟨g,0,none⟩,n,n⟩
structure G1 (w V:World) (rs:List Nat) (b1 b3 g b8 b10 b13 b15 b18 n:Nat) (av:Array Value) (seen:Nat) (paths:List ByteArray) (keys nums:List (Int × Int)) (sc sb:Sl) (basis:List ByteArray):Prop where
 chg:Chg Nil w V
 mks:Marks V rs
 mB:∀ r ∈ rs,w.heap.size ≤ r
 ord:w.heap.size ≤ b1 ∧ b1 < b3 ∧ b3 < g ∧ g < b8 ∧ b8 < b10 ∧ b10 < b13 ∧ b13 < b15 ∧ b15 < b18
 c1:V.heap[b1]? = some (.cells av 27 (0,0))
 c3:V.heap[b3]? = some (.cells #[.slice none 0 0,.map none,.slice none 0 0] 93 (0,0))
 c10:V.heap[b10]? = some (.cells #[.slice (some ⟨g,0,none⟩) n n,.map (some b8),sc.v] 93 (0,0))
 c15:V.heap[b15]? = some (.cells #[.map (some b13)] 134 (0,0))
 c18:V.heap[b18]? = some (.cells #[.int .i64 (seen:Int)] 3 (0,0))
 str:OwnT V 9 tS (sl0 g n) paths
 m13:MapP V b13 (keysL keys)
 m8:MapP V b8 (numL nums)
 bas:OwnT V 9 tS sb basis
 own:∀ k,sb.own k → b18 < k
section
variable {w V V':World} {rs:List Nat} {b1 b3 g b8 b10 b13 b15 b18 n:Nat} {av:Array Value} {seen:Nat} {paths:List ByteArray} {keys nums:List (Int × Int)} {sc sb:Sl} {basis:List ByteArray}
theorem G1.nil (h:G1 w V rs b1 b3 g b8 b10 b13 b15 b18 n av seen paths keys nums sc sb basis) (hc:Chg Nil V V'):G1 w V' rs b1 b3 g b8 b10 b13 b15 b18 n av seen paths keys nums sc sb basis:=
 { chg:=h.chg.then hc,mks:=h.mks.chg hc fun _ _ h=>h,mB:=h.mB,ord:=h.ord,c1:=hc.heap h.c1 fun h=>h,c3:=hc.heap h.c3 fun h=>h,c10:=hc.heap h.c10 fun h=>h,c15:=hc.heap h.c15 fun h=>h,c18:=hc.heap h.c18 fun h=>h
   str:=h.str.chg hc fun _ _ h=>h,m13:=h.m13.chg hc fun h=>h,m8:=h.m8.chg hc fun h=>h,bas:=h.bas.chg hc fun _ _ h=>h,own:=h.own }
theorem G1.turn (h:G1 w V rs b1 b3 g b8 b10 b13 b15 b18 n av seen paths keys nums sc sb basis) {B:Nat} (t:Turn B V V') (hB:w.heap.size ≤ B):G1 w V' rs b1 b3 g b8 b10 b13 b15 b18 n av seen paths keys nums sc sb basis:=
 { chg:=h.chg.turn t hB,mks:=h.mks.turn t,mB:=h.mB,ord:=h.ord,c1:=t.cells h.c1,c3:=t.cells h.c3,c10:=t.cells h.c10,c15:=t.cells h.c15,c18:=t.cells h.c18
   str:=Fo.OwnT.turn h.str t,m13:=h.m13.turn t,m8:=h.m8.turn t,bas:=Fo.OwnT.turn h.bas t,own:=h.own }
theorem G1.lt (h:G1 w V rs b1 b3 g b8 b10 b13 b15 b18 n av seen paths keys nums sc sb basis):b18 < V.heap.size:=lt_of_heap h.c18
theorem G1.rest (h:G1 w V rs b1 b3 g b8 b10 b13 b15 b18 n av seen paths keys nums sc sb basis) {S:Nat → Prop} (hc:Chg S V V') (hS:∀ k,S k → (w.heap.size ≤ k ∧ ¬ ∃ o,V.heap[k]? = some (.deferred o))) :Chg Nil w V' ∧ Marks V' rs:=by
 refine ⟨h.chg.trans hc (fun _ _ h=>h) fun i hi he=>?_,h.mks.chg hc fun r hr he=>?_⟩
 ·have:=(hS i he).1; omega
 ·exact (hS r he).2 ⟨_,h.mks.2 r hr⟩
theorem G1.seenTo (h:G1 w V rs b1 b3 g b8 b10 b13 b15 b18 n av seen paths keys nums sc sb basis) {seen':Nat} (hc:Chg (· = b18) V V') (h18:V'.heap[b18]? = some (.cells #[.int .i64 (seen':Int)] 3 (0,0))) :
  G1 w V' rs b1 b3 g b8 b10 b13 b15 b18 n av seen' paths keys nums sc sb basis:=by
 obtain ⟨o0,o1,o2,o3,o4,o5,o6,o7⟩:=h.ord
 have ne:∀ k,k < b18 → ¬ (k = b18):=fun k hk he=>by omega
 obtain ⟨r1,r2⟩:=h.rest hc (fun k hk=>by have hk:k = b18:=hk; subst hk; exact ⟨by omega,fun ⟨o,ho⟩=>by rw [h.c18] at ho; cases ho⟩)
 exact { chg:=r1,mks:=r2,mB:=h.mB,ord:=h.ord,c1:=hc.heap h.c1 (ne _ (by omega)),c3:=hc.heap h.c3 (ne _ (by omega)),c10:=hc.heap h.c10 (ne _ (by omega)),c15:=hc.heap h.c15 (ne _ (by omega)),c18:=h18
         str:=h.str.chg hc (fun a ha he=>by cases ha; exact ne g (by omega) he),m13:=h.m13.chg hc (ne _ (by omega)),m8:=h.m8.chg hc (ne _ (by omega))
         bas:=h.bas.chg hc (fun a ha he=>by have:=h.own a.block ⟨a,ha,rfl⟩; have he:a.block = b18:=he; omega),own:=h.own }
theorem G1.pathTo (h:G1 w V rs b1 b3 g b8 b10 b13 b15 b18 n av seen paths keys nums sc sb basis) {paths':List ByteArray} (hc:Chg (· = g) V V') (hs:OwnT V' 9 tS (sl0 g n) paths') :
  G1 w V' rs b1 b3 g b8 b10 b13 b15 b18 n av seen paths' keys nums sc sb basis:=by
 obtain ⟨o0,o1,o2,o3,o4,o5,o6,o7⟩:=h.ord
 have ne:∀ k,k < g ∨ g < k → ¬ (k = g):=fun k hk he=>by omega
 obtain ⟨cur,hcur⟩:=h.str.elem (k:=g) ⟨_,rfl,rfl⟩
 obtain ⟨r1,r2⟩:=h.rest hc (fun k hk=>by have hk:k = g:=hk; subst hk; exact ⟨by omega,fun ⟨o,ho⟩=>by rw [hcur] at ho; cases ho⟩)
 exact { chg:=r1,mks:=r2,mB:=h.mB,ord:=h.ord,c1:=hc.heap h.c1 (ne _ (by omega)),c3:=hc.heap h.c3 (ne _ (by omega)),c10:=hc.heap h.c10 (ne _ (by omega)),c15:=hc.heap h.c15 (ne _ (by omega)),c18:=hc.heap h.c18 (ne _ (by omega))
         str:=hs,m13:=h.m13.chg hc (ne _ (by omega)),m8:=h.m8.chg hc (ne _ (by omega))
         bas:=h.bas.chg hc (fun a ha he=>by have:=h.own a.block ⟨a,ha,rfl⟩; have he:a.block = g:=he; omega),own:=h.own }
theorem G1.keysTo (h:G1 w V rs b1 b3 g b8 b10 b13 b15 b18 n av seen paths keys nums sc sb basis) {keys':List (Int × Int)} (hc:Chg (· = b13) V V') (hs:MapP V' b13 (keysL keys')) :
  G1 w V' rs b1 b3 g b8 b10 b13 b15 b18 n av seen paths keys' nums sc sb basis:=by
 obtain ⟨o0,o1,o2,o3,o4,o5,o6,o7⟩:=h.ord
 have ne:∀ k,k < b13 ∨ b13 < k → ¬ (k = b13):=fun k hk he=>by omega
 obtain ⟨es,cl,hm,_⟩:=h.m13
 obtain ⟨r1,r2⟩:=h.rest hc (fun k hk=>by have hk:k = b13:=hk; subst hk; exact ⟨by omega,fun ⟨o,ho⟩=>by rw [hm] at ho; cases ho⟩)
 exact { chg:=r1,mks:=r2,mB:=h.mB,ord:=h.ord,c1:=hc.heap h.c1 (ne _ (by omega)),c3:=hc.heap h.c3 (ne _ (by omega)),c10:=hc.heap h.c10 (ne _ (by omega)),c15:=hc.heap h.c15 (ne _ (by omega)),c18:=hc.heap h.c18 (ne _ (by omega))
         str:=h.str.chg hc (fun a ha he=>by cases ha; exact ne g (by omega) he),m13:=hs,m8:=h.m8.chg hc (ne _ (by omega))
         bas:=h.bas.chg hc (fun a ha he=>by have:=h.own a.block ⟨a,ha,rfl⟩; have he:a.block = b13:=he; omega),own:=h.own }
theorem G1.numsTo (h:G1 w V rs b1 b3 g b8 b10 b13 b15 b18 n av seen paths keys nums sc sb basis) {nums':List (Int × Int)} (hc:Chg (· = b8) V V') (hs:MapP V' b8 (numL nums')) :
  G1 w V' rs b1 b3 g b8 b10 b13 b15 b18 n av seen paths keys nums' sc sb basis:=by
 obtain ⟨o0,o1,o2,o3,o4,o5,o6,o7⟩:=h.ord
 have ne:∀ k,k < b8 ∨ b8 < k → ¬ (k = b8):=fun k hk he=>by omega
 obtain ⟨es,cl,hm,_⟩:=h.m8
 obtain ⟨r1,r2⟩:=h.rest hc (fun k hk=>by have hk:k = b8:=hk; subst hk; exact ⟨by omega,fun ⟨o,ho⟩=>by rw [hm] at ho; cases ho⟩)
 exact { chg:=r1,mks:=r2,mB:=h.mB,ord:=h.ord,c1:=hc.heap h.c1 (ne _ (by omega)),c3:=hc.heap h.c3 (ne _ (by omega)),c10:=hc.heap h.c10 (ne _ (by omega)),c15:=hc.heap h.c15 (ne _ (by omega)),c18:=hc.heap h.c18 (ne _ (by omega))
         str:=h.str.chg hc (fun a ha he=>by cases ha; exact ne g (by omega) he),m13:=h.m13.chg hc (ne _ (by omega)),m8:=hs
         bas:=h.bas.chg hc (fun a ha he=>by have:=h.own a.block ⟨a,ha,rfl⟩; have he:a.block = b8:=he; omega),own:=h.own }
theorem G1.basTo (h:G1 w V rs b1 b3 g b8 b10 b13 b15 b18 n av seen paths keys nums sc sb basis) {sb':Sl} {basis':List ByteArray} (hc:Chg sb.own V V') (hs:OwnT V' 9 tS sb' basis') (ho:∀ i,sb'.own i → sb.own i ∨ V.heap.size ≤ i) :
  G1 w V' rs b1 b3 g b8 b10 b13 b15 b18 n av seen paths keys nums sc sb' basis':=by
 obtain ⟨o0,o1,o2,o3,o4,o5,o6,o7⟩:=h.ord
 have hlt:=h.lt
 have ne:∀ k,k ≤ b18 → ¬ sb.own k:=fun k hk he=>by have:=h.own k he; omega
 obtain ⟨r1,r2⟩:=h.rest hc (fun k hk=>⟨by have:=h.own k hk; omega,fun ⟨o,ho⟩=>by obtain ⟨cur,hcur⟩:=h.bas.elem hk; rw [hcur] at ho; cases ho⟩)
 exact { chg:=r1,mks:=r2,mB:=h.mB,ord:=h.ord,c1:=hc.heap h.c1 (ne _ (by omega)),c3:=hc.heap h.c3 (ne _ (by omega)),c10:=hc.heap h.c10 (ne _ (by omega)),c15:=hc.heap h.c15 (ne _ (by omega)),c18:=hc.heap h.c18 (ne _ (by omega))
         str:=h.str.chg hc (fun a ha he=>by cases ha; exact ne g (by omega) he),m13:=h.m13.chg hc (ne _ (by omega)),m8:=h.m8.chg hc (ne _ (by omega))
         bas:=hs,own:=fun k hk=>by rcases ho k hk with hk | hk; exact h.own k hk; omega }
theorem G1.hdTo (h:G1 w V rs b1 b3 g b8 b10 b13 b15 b18 n av seen paths keys nums sc sb basis) (hc:Chg (· = b10) V V') (h10:V'.heap[b10]? = some (.cells #[.slice (some ⟨g,0,none⟩) n n,.map (some b8),sb.v] 93 (0,0))) :
  G1 w V' rs b1 b3 g b8 b10 b13 b15 b18 n av seen paths keys nums sb sb basis:=by
 obtain ⟨o0,o1,o2,o3,o4,o5,o6,o7⟩:=h.ord
 have ne:∀ k,k < b10 ∨ b10 < k → ¬ (k = b10):=fun k hk he=>by omega
 obtain ⟨r1,r2⟩:=h.rest hc (fun k hk=>by have hk:k = b10:=hk; subst hk; exact ⟨by omega,fun ⟨o,ho⟩=>by rw [h.c10] at ho; cases ho⟩)
 exact { chg:=r1,mks:=r2,mB:=h.mB,ord:=h.ord,c1:=hc.heap h.c1 (ne _ (by omega)),c3:=hc.heap h.c3 (ne _ (by omega)),c10:=h10,c15:=hc.heap h.c15 (ne _ (by omega)),c18:=hc.heap h.c18 (ne _ (by omega))
         str:=h.str.chg hc (fun a ha he=>by cases ha; exact ne g (by omega) he),m13:=h.m13.chg hc (ne _ (by omega)),m8:=h.m8.chg hc (ne _ (by omega))
         bas:=h.bas.chg hc (fun a ha he=>by have:=h.own a.block ⟨a,ha,rfl⟩; have he:a.block = b10:=he; omega),own:=h.own }
theorem G1.mark (h:G1 w V rs b1 b3 g b8 b10 b13 b15 b18 n av seen paths keys nums sc sb basis) {d:Nat} (hd:V.heap[d]? = some (.deferred (some []))) (hB:w.heap.size ≤ d) (hn:d ∉ rs) :
  G1 w V (d :: rs) b1 b3 g b8 b10 b13 b15 b18 n av seen paths keys nums sc sb basis:=
 { h with mks:=h.mks.cons hd hn,mB:=fun r hr=>by rcases List.mem_cons.1 hr with rfl | hr; exact hB; exact h.mB r hr }
end
structure Cs (V:World) (lo:Nat) (l:List (Nat × Array Value × TypeId)):Prop where
 at':∀ p ∈ l,V.heap[p.1]? = some (.cells p.2.1 p.2.2 (0,0)) ∧ lo < p.1
theorem Cs.chg {V V':World} {lo:Nat} {l:List (Nat × Array Value × TypeId)} (h:Cs V lo l) {S:Nat → Prop} (hc:Chg S V V') (hS:∀ p ∈ l,¬ S p.1):Cs V' lo l:=
 ⟨fun p hp=>⟨hc.heap (h.at' p hp).1 (hS p hp),(h.at' p hp).2⟩⟩
theorem Cs.low {V V':World} {lo:Nat} {l:List (Nat × Array Value × TypeId)} (h:Cs V lo l) {b:Nat} (hc:Chg (· = b) V V') (hb:b ≤ lo):Cs V' lo l:=
 h.chg hc fun p hp he=>by have:=(h.at' p hp).2; have he:p.1 = b:=he; omega
theorem Cs.nil {V V':World} {lo:Nat} {l:List (Nat × Array Value × TypeId)} (h:Cs V lo l) (hc:Chg Nil V V'):Cs V' lo l:=h.chg hc fun _ _ h=>h
theorem Cs.turn {B:Nat} {V V':World} {lo:Nat} {l:List (Nat × Array Value × TypeId)} (h:Cs V lo l) (t:Turn B V V'):Cs V' lo l:=⟨fun p hp=>⟨t.cells (h.at' p hp).1,(h.at' p hp).2⟩⟩
end Go.Proofs.YtffdjfkekdoeaaaDoor.Fo
end
section
set_option maxRecDepth 4000
set_option maxHeartbeats 8000000
namespace Go.Proofs.YtffdjfkekdoeaaaDoor.Fo
open Fw Wd
theorem KeepL.of' {S:Nat → Prop} {W W':World} (h:Chg S W W') (hs:∀ k,S k → ∃ o,W.heap[k]? = some o ∧ loopish o = false):KeepL W W':=fun k o hk ho=>by
 refine h.heap hk fun hS=>?_
 obtain ⟨o',hc,hl⟩:=hs k hS
 rw [hk] at hc; cases hc; rw [hl] at ho; cases ho
theorem xor_lt {x:Nat} (h:x < 16):x ^^^ 1 < 16:=xor_even (n:=8) (by omega) h
def grownPost (w:World) (next:List (List Int)) (y:Sl × Option Nat × Sl × Unit) (w':World):Prop:=
 ∃ g mb,y.1 = sl0 g next.length ∧ y.2.1 = some mb ∧ Chg Nil w w' ∧ OwnT w' 9 tS y.1 (treeF next).paths ∧ MapP w' mb (numL (basF next).number) ∧ OwnT w' 9 tS y.2.2.1 (basF next).basis ∧
  (basF next).number.Nodup ∧ TreeOk next (treeF next) ∧ (basF next).basis.length = (basF next).number.length ∧ w.heap.size ≤ g ∧ (∀ k,y.2.2.1.own k → w.heap.size ≤ k)
theorem grown_ret {w:World} (hl:Laid w) {k:Int} {x:Int × Int × Sl × Sl × Unit} {a:Aut} (h:AutIn w x a) (hc:a.check k = 0) (hk:1 ≤ k ∧ k ≤ 8) :
  Ret Tryd.prog 56 #[.agg #[.int .i64 x.1,.int .i64 x.2.1,x.2.2.1.v,x.2.2.2.1.v]] (.agg [.sl,.map,.sl]) w fun y w'=>grownPost w a.next y w':=by
 obtain ⟨x1,x2,sa,sn,_⟩:=x
 obtain ⟨_,_,hn1,hn2,hla,hscan0,hrows⟩:=check_spec hc
 refine fold_grown.calls x1 x2 sa sn ?_
 unfold fold_grown.sh
 refine New.mk fun b1 w1 hb1 hh1 hs1 hc1=>?_
 refine New.mk fun b3 w2 hb3 hh3 hs3 hc3=>?_
 have h12:=hc3.heap hh1 fun h=>h
 refine LoadT.sc (s:=.sl) (x:=sn) (by rw [cellOf h12]; rfl) ?_
 have hnn:sn.n = a.next.length:=by obtain ⟨_,_,_,sls,h4,h5,_⟩:=h.rd; rw [h4.len,h5]
 generalize hav:(#[.int .i64 x1,.int .i64 x2,.slice sa.a sa.n sa.c,.slice sn.a sn.n sn.c]:Array Value) = av at *
 refine makeSlice_own (s:=.str) ok22 (z:=(⟨#[]⟩:ByteArray)) zero9 rfl a.next.length (by rw [hnn]) (by omega) (by simp only [maxLen]; omega) fun g w3 hog hcg hg=>?_
 refine New.mk fun b8 w4 hb8 hh8 hs8 hc8=>?_
 refine New.mk fun b10 w5 hb10 hh10 hs10 hc10=>?_
 refine StoreN.whole (vs:=[.slice (some ⟨g,0,none⟩) a.next.length a.next.length,.map (some b8),.slice none 0 0]) hh10 rfl fun w6 hh10' hc10' hsz10=>?_
 refine New.mk fun b13 w7 hb13 hh13 hs13 hc13=>?_
 refine New.mk fun b15 w8 hb15 hh15 hs15 hc15=>?_
 refine Store1.at0' hh15 (by show 0 < 1; decide) rfl fun w9 hh15' hc15' hsz15=>?_
 refine New.mk fun b18 w10 hb18 hh18 hs18 hc18=>?_
 refine Store1.at0' hh18 (by show 0 < 1; decide) rfl fun w11 hh18' hc18' hsz18=>?_
 have hgl:g < w3.heap.size:=by obtain ⟨cur,hcur⟩:=hog.elem (k:=g) ⟨_,rfl,rfl⟩; exact lt_of_heap hcur
 have e6:∀ k,k < b10 → ¬ (k = b10):=fun k hk he=>by omega
 have e9:∀ k,k < b15 → ¬ (k = b15):=fun k hk he=>by omega
 have e11:∀ k,k < b18 → ¬ (k = b18):=fun k hk he=>by omega
 have l8:=lt_of_heap hh8
 have l1:=lt_of_heap hh1
 have l3:=lt_of_heap hh3
 have z3:=hcg.size
 have z4:=hc8.size
 have z7:=hc13.size
 have z8:=hc15.size
 have l10:=lt_of_heap hh10
 have l13:=lt_of_heap hh13
 have l15:=lt_of_heap hh15
 have hG0:G1 w w11 [] b1 b3 g b8 b10 b13 b15 b18 a.next.length av 1 (List.replicate a.next.length ⟨#[]⟩) [] [] ⟨none,0,0⟩ ⟨none,0,0⟩ []:=by
  have t1:Chg Nil w w11:=by
   have:=(((hc1.then hc3).then hcg).then hc8).then hc10
   have:=this.trans hc10' (fun _ _ h=>h) fun i hi he=>by have he:i = b10:=he; omega
   have:=(this.then hc13).then hc15
   have:=this.trans hc15' (fun _ _ h=>h) fun i hi he=>by have he:i = b15:=he; omega
   exact (this.then hc18).trans hc18' (fun _ _ h=>h) fun i hi he=>by have he:i = b18:=he; omega
  have f9:∀ {k o},w6.heap[k]? = some o → k < b15 → w9.heap[k]? = some o:=fun hk hlt=>hc15'.heap (hc15.heap (hc13.heap hk fun h=>h) fun h=>h) (e9 _ hlt)
  have f11:∀ {k o},w9.heap[k]? = some o → k < b18 → w11.heap[k]? = some o:=fun hk hlt=>hc18'.heap (hc18.heap hk fun h=>h) (e11 _ hlt)
  have f6:∀ {k o},w4.heap[k]? = some o → k < b10 → w6.heap[k]? = some o:=fun hk hlt=>hc10'.heap (hc10.heap hk fun h=>h) (e6 _ hlt)
  have f4:∀ {k o},w2.heap[k]? = some o → w4.heap[k]? = some o:=fun hk=>hc8.heap (hcg.heap hk fun h=>h) fun h=>h
  have hog11:OwnT w11 9 tS (sl0 g a.next.length) (List.replicate a.next.length (⟨#[]⟩:ByteArray)):=by
   have h4:=OwnT.chg hog hc8 fun _ _ h=>h
   have h5:=OwnT.chg h4 hc10 fun _ _ h=>h
   have h6:=OwnT.chg h5 hc10' fun a ha he=>by cases ha; exact e6 g (by omega) he
   have h7:=OwnT.chg h6 hc13 fun _ _ h=>h
   have h8:=OwnT.chg h7 hc15 fun _ _ h=>h
   have h9:=OwnT.chg h8 hc15' fun a ha he=>by cases ha; exact e9 g (by omega) he
   have h10:=OwnT.chg h9 hc18 fun _ _ h=>h
   exact OwnT.chg h10 hc18' fun a ha he=>by cases ha; exact e11 g (by omega) he
  exact { chg:=t1,mks:=⟨List.nodup_nil,fun r hr=>by simp at hr⟩,mB:=by simp,ord:=by omega
          c1:=f11 (f9 (f6 (f4 h12) (by omega)) (by omega)) (by omega),c3:=f11 (f9 (f6 (f4 hh3) (by omega)) (by omega)) (by omega)
          c10:=f11 (f9 hh10' (by omega)) (by omega),c15:=f11 hh15' (by omega),c18:=hh18',str:=hog11
          m13:=⟨#[],0,f11 (hc15'.heap (hc15.heap hh13 fun h=>h) (e9 _ (by omega))) (by omega),rfl⟩,m8:=⟨#[],0,f11 (f9 (f6 hh8 (by omega)) (by omega)) (by omega),rfl⟩
          bas:=OwnT.nil _ _ _,own:=fun k hk=>by obtain ⟨a,ha,_⟩:=hk; cases ha }
 clear hh18' hh18 hh15' hh15 hh13 hh10' hh10 hh8 hog h12 hh3 hh1 e6 e9 e11
 refine LoadT.sc (s:=.sl) (x:=sn) (by rw [cellOf hG0.c1,← hav]; rfl) ?_
 have hT0:=TreeOk.start hn1
 refine ⟨fun y ds W=>∃ (s:Nat) (T:Tree) (rs:List Nat),s ≤ a.next.length ∧ y = (at0 b1,at0 b3,at0 b10,at0 b15,at0 b18,((sn.n:Nat):Int),(s:Int),()) ∧ ds = marksOf rs ∧ G1 w W rs b1 b3 g b8 b10 b13 b15 b18 a.next.length av T.seen T.paths T.keys [] ⟨none,0,0⟩ ⟨none,0,0⟩ [] ∧
   TreeOk a.next T ∧ treeR s (a.next.drop s) T = treeF a.next ∧ scanR a.acc a.next s (a.next.drop s) T.seen = some a.next.length,fun y _=>a.next.length - y.2.2.2.2.2.2.1.toNat,
  ⟨0,_,[],Nat.zero_le _,rfl,rfl,hG0,hT0,rfl,hscan0⟩,?_⟩
 clear hT0 hG0 hc18' hc18 hc15' hc15 hc13 hc10' hc10 hc8 hcg
 rintro y ds g2 W ⟨s,T,rs,hs,rfl,rfl,hG,hT,htree,hscan⟩
 dsimp only
 obtain ⟨o0,o1,o2,o3,o4,o5,o6,o7⟩:=hG.ord
 refine Br.dec (fun hlt=>?_) (fun hge=>?_)
 ·have hlt':s < a.next.length:=by omega
  have hdrop:a.next.drop s = a.next[s] :: a.next.drop (s + 1):=List.drop_eq_getElem_cons hlt'
  have hrow':a.next[s]? = some a.next[s]:=List.getElem?_eq_getElem hlt'
  generalize hR:a.next[s] = row at hdrop hrow'
  obtain ⟨hrlen,hrval⟩:=hrows row (List.mem_of_getElem? hrow')
  have hgetS:a.next.getD s [] = row:=by rw [List.getD_eq_getElem?_getD,hrow']; rfl
  rw [hdrop] at htree hscan
  simp only [treeR,scanR] at htree hscan
  split at hscan
  ·cases hscan
  rename_i hgood
  split at hscan
  ·cases hscan
  rename_i seen' hE
  have hsT:s < T.seen:=by
   by_cases hc:T.seen ≤ s
   ·exact absurd (.inr (.inr hc)) hgood
   ·omega
  refine New.mk fun b27 W1 hb27 hh27 hs27 hc27=>?_
  refine Store1.at0' hh27 (by show 0 < 1; decide) rfl fun W2 hh27' hc27' hsz27=>?_
  have hlt18:=hG.lt
  have hG1:=hG.nil hc27
  have hN2:Chg Nil W W2:=hc27.trans hc27' (fun _ _ h=>h) fun i hi he=>by have he:i = b27:=he; omega
  have hG2:=hG.nil hN2
  refine LoadT.mk (.agg [.int .i64,.int .i64,.sl,.sl]) (x:=(x1,x2,sa,sn,())) (fun j v hv=>by rw [cellOf hG2.c1,← hav]; simpa [Ty.cells] using hv) ?_
  refine LoadT.sc (s:=.int .i64) (x:=(s:Int)) (by rw [cellOf0 hh27']; rfl) ?_
  refine Ret.call (edges_ret (v0:=x1) (v1:=x2) (sa:=sa) (sn:=sn) (s:Int)) ?_
  rintro _ W3 ⟨q1,q3,rfl,hq1,hq3,hc23,hB1,hB3⟩
  have hq1:W3.heap[q1]? = some (.cells av 27 (0,0)):=by rw [← hav]; exact hq1
  have hG3:=hG2.nil hc23
  have hl27:=lt_of_heap hh27'
  have hC3:Cs W3 b18 [(b27,#[.int .i64 (s:Int)],3),(q1,av,27),(q3,#[.int .i64 (s:Int)],3)]:=⟨fun p hp=>by
   simp only [List.mem_cons,List.not_mem_nil,or_false] at hp
   rcases hp with rfl | rfl | rfl
   ·exact ⟨hc23.heap hh27' fun h=>h,by show b18 < b27; omega⟩
   ·exact ⟨hq1,by show b18 < q1; omega⟩
   ·exact ⟨hq3,by show b18 < q3; omega⟩⟩
  obtain ⟨_,_,_,sls,hrn0,hsl,hrws0,_⟩:=h.rd
  have hrn0:RdT w (.sc .sl) sn sls:=hrn0
  obtain ⟨rsl,hrsl⟩:∃ rsl,sls[s]? = some rsl:=⟨_,List.getElem?_eq_getElem (by rw [hsl]; exact hlt')⟩
  have hrr:=hrws0 s rsl row hrsl hrow'
  have hsz3:w.heap.size ≤ W3.heap.size:=hG3.chg.size
  refine ⟨edgesFrom 0 row,_,fun i V=>∃ T':Tree,G1 w V rs b1 b3 g b8 b10 b13 b15 b18 a.next.length av T'.seen T'.paths T'.keys [] ⟨none,0,0⟩ ⟨none,0,0⟩ [] ∧ Cs V b18 [(b27,#[.int .i64 (s:Int)],3),(q1,av,27),(q3,#[.int .i64 (s:Int)],3)] ∧
    TreeOk a.next T' ∧ treeE s ((edgesFrom 0 row).drop i) T' = treeE s (edgesFrom 0 row) T ∧ scanE a.next s ((edgesFrom 0 row).drop i) T'.seen = some seen' ∧ s < T'.seen,
   fun c V=>False,edges_gives (q0:=at0 q1) (q1:=at0 q3) (sn:=sn) (rsl:=rsl) (sls:=sls) (s:=s) (row:=row) (by omega),?_,?_,?_,?_,?_,?_,?_⟩
  ·rintro i V ⟨T',v1,v2,v3,v4,v5,v6⟩
   exact ⟨by rw [cellOf (v2.at' (q1,av,27) (by simp)).1,← hav]; rfl,by rw [cellOf0 (v2.at' (q3,#[.int .i64 (s:Int)],3) (by simp)).1]; rfl,hrn0.chg v1.chg (fun _ _ h=>h),hrsl,hrr.chg v1.chg (fun _ _ h=>h)⟩
  ·rintro i V V' ⟨T',v1,v2,v3,v4,v5,v6⟩ ht
   exact ⟨T',v1.turn ht hsz3,v2.turn ht,v3,v4,v5,v6⟩
  ·rintro c V V' hf ht
   exact hf
  ·exact ⟨T,hG3,hC3,hT,rfl,hE,hsT⟩
  ·rintro i ⟨ex,et,eu⟩ V hx ⟨T',hV,hCV,hT',htr,hsc,hsT'⟩
   obtain ⟨e1,e2,e3,e4⟩:=edges_mem row 0 ex et eu (List.mem_of_getElem? hx)
   obtain ⟨e5,_⟩:=edges_val row 0 ex et eu (List.mem_of_getElem? hx)
   have e6:=hrval et e2
   obtain ⟨nt,rfl⟩:=Int.eq_ofNat_of_zero_le e1
   obtain ⟨nx,rfl⟩:=Int.eq_ofNat_of_zero_le e3
   have hnx:nx < 16:=by omega
   have hdr:(edgesFrom 0 row).drop i = ((nx:Int),(nt:Int),eu) :: (edgesFrom 0 row).drop (i + 1):=by
    obtain ⟨hl',he⟩:=List.getElem?_eq_some_iff.1 hx
    rw [← he]; exact List.drop_eq_getElem_cons hl'
   rw [hdr] at htr hsc
   simp only [treeE,scanE] at htr hsc
   split at hsc
   ·cases hsc
   rename_i hok
   have hback:getN a.next nt (nx ^^^ 1) = (s:Int):=by
    by_cases hh:(a.next.getD ((nt:Int)).toNat []).getD (((nx:Int)).toNat ^^^ 1) 0 = (s:Int)
    ·exact hh
    ·exact absurd (.inl hh) hok
   have hfor:getN a.next s nx = (nt:Int):=by unfold getN; rw [hgetS]; simpa using e5
   refine LoadT.sc (s:=.int .i64) (x:=(T'.seen:Int)) (by rw [cellOf0 hV.c18]; rfl) ?_
   refine Br.mk (fun heq=>?_) (fun hne=>?_)
   ·have hnt:nt = T'.seen:=by have:(nt:Int) = (T'.seen:Int):=by simpa using heq
                              omega
    subst hnt
    rw [if_pos rfl] at htr hsc
    have hseen:=hT'.seen
    refine LoadT.sc (s:=.int .i64) (x:=(T'.seen:Int)) (by rw [cellOf0 hV.c18]; rfl) ?_
    rw [wrap64 (by omega) (by omega)]
    refine Store1.at0' hV.c18 (by show 0 < 1; decide) rfl fun V1 h18 hcA _=>?_
    have hV1:=hV.seenTo (seen':=T'.seen + 1) hcA h18
    have hC1:=hCV.low hcA (Nat.le_refl _)
    have hd:Chg Nil V1 V1.drew:=Chg.drew V1
    have hVd:=hV1.nil hd
    have hCd:=hC1.nil hd
    have hpl:s < T'.paths.length:=by rw [hT'.len]; exact hlt'
    have hps:T'.paths[s]? = some (T'.paths.getD s ⟨#[]⟩):=by rw [getD_get hpl]; exact List.getElem?_eq_getElem hpl
    refine ⟨fun U=>Chg Nil V1.drew U,Chg.refl _,?_⟩
    refine LoadS.sc (s:=.sl) (x:=sl0 g a.next.length) (fun U hU=>by rw [cellOf (hVd.nil hU).c10]; rfl) ?_
    refine LoadS.sc (s:=.sl) (x:=sl0 g a.next.length) (fun U hU=>by rw [cellOf (hVd.nil hU).c10]; rfl) ?_
    refine LoadS.sc (s:=.int .i64) (x:=(s:Int)) (fun U hU=>by rw [cellOf0 ((hCd.nil hU).at' (b27,#[.int .i64 (s:Int)],3) (by simp)).1]; rfl) ?_
    refine rd_idxA (t:=tS) hVd.str.rd s rfl hps fun ad had=>?_
    refine LoadS.sc (s:=.str) (x:=T'.paths.getD s ⟨#[]⟩) (fun U hU=>(hVd.nil hU).str.rd.cell1 had hps) ?_
    refine Ret.call (letter_ret (hl.nil hVd.chg) _) ?_
    rintro _ V2 ⟨rfl,hc2⟩
    refine ⟨hc2,?_⟩
    refine New.mk fun b55 V3 hb55 hn55 _ hc3'=>⟨hc2.then hc3',?_⟩
    refine letter_string hn55 ⟨hc2.then hc3',?_,?_⟩
    ·have hm:T'.paths.getD s ⟨#[]⟩ ∈ T'.paths:=List.mem_of_getElem? hps
     have:=hT'.small _ hm
     rw [letS_size]; omega
    have hV3:=hVd.nil (hc2.then hc3')
    have hC3':=hCd.nil (hc2.then hc3')
    have hpt:T'.seen < T'.paths.length:=by rw [hT'.len]; omega
    refine hV3.str.idx (t:=tS) T'.seen rfl hpt fun g' hg'=>?_
    cases hg'
    refine hV3.str.store (s:=.str) rfl T'.seen hpt (x:=T'.paths.getD s ⟨#[]⟩ ++ letS (nx:Int)) fun V4 ho4 hc4 _=>?_
    have hV4:=hV3.pathTo hc4 ho4
    have hC4:=hC3'.low hc4 (by omega)
    refine LoadT.sc (s:=.map) (x:=some b13) (by rw [cellOf0 hV4.c15]; rfl) ?_
    refine LoadT.sc (s:=.int .i64) (x:=(s:Int)) (by rw [cellOf0 (hC4.at' (b27,#[.int .i64 (s:Int)],3) (by simp)).1]; rfl) ?_
    obtain ⟨V5,hrun5,hm5,hc5⟩:=updateP_new under134 hV4.m13 (t:=((s:Int),(nx:Int))) (keysL_new (hT'.new1 hfor)) (.bool true)
    rw [keysL_append] at hm5
    refine ⟨V5,hrun5,?_⟩
    have hV5:=hV4.keysTo hc5 hm5
    refine LoadT.sc (s:=.map) (x:=some b13) (by rw [cellOf0 hV5.c15]; rfl) ?_
    rw [xor1 nx (by omega)]
    obtain ⟨V6,hrun6,hm6,hc6⟩:=updateP_new under134 hV5.m13 (t:=((T'.seen:Int),((nx ^^^ 1:Nat):Int))) (keysL_new (hT'.new2 hsT')) (.bool true)
    rw [keysL_append] at hm6
    refine ⟨V6,hrun6,?_⟩
    have hV6:=hV5.keysTo hc6 hm6
    have hC6:=(hC4.low hc5 (by omega)).low hc6 (by omega)
    have hK:Chg (fun k=>k = b18 ∨ k = g ∨ k = b13) V V6:=by
     have k1:Chg (fun k=>k = b18 ∨ k = g ∨ k = b13) V V3:=(hcA.mono fun i _ hi=>.inl hi).then ((hd.then hc2).then hc3').nil
     exact ((k1.then (hc4.mono fun i _ hi=>.inr (.inl hi))).then (hc5.mono fun i _ hi=>.inr (.inr hi))).then (hc6.mono fun i _ hi=>.inr (.inr hi))
    refine ⟨KeepL.of' hK fun k hk=>?_,⟨T'.seen + 1,T'.paths.set T'.seen (T'.paths.getD s ⟨#[]⟩ ++ letS (nx:Int)),T'.keys ++ [((s:Int),(nx:Int)),((T'.seen:Int),((nx ^^^ 1:Nat):Int))]⟩,?_,hC6,hT'.step hsT' (by omega) hfor hback,?_,hsc,by show s < T'.seen + 1; omega⟩
    ·rcases hk with rfl | rfl | rfl
     ·exact ⟨_,hV.c18,rfl⟩
     ·obtain ⟨cur,hcur⟩:=hV.str.elem (k:=k) ⟨_,rfl,rfl⟩; exact ⟨_,hcur,rfl⟩
     ·obtain ⟨es,cl,hm,_⟩:=hV.m13; exact ⟨_,hm,rfl⟩
    ·rw [List.append_assoc] at hV6; exact hV6
    ·simpa using htr
   ·have hnt:¬ (nt:Int) = (T'.seen:Int):=by simpa using hne
    rw [if_neg hnt] at htr hsc
    exact ⟨fun k o hk _=>hk,T',hV,hCV,hT',htr,hsc,hsT'⟩
  ·rintro d V hdm hdB ⟨T',hV,hCV,hT',htr,hsc,hsT'⟩
   rw [List.drop_eq_nil_of_le (Nat.le_refl _)] at htr hsc
   simp only [treeE,scanE,Option.some.injEq] at htr hsc
   rw [← htr] at htree
   rw [← hsc] at hscan
   dsimp only
   have hwr:IntKind.wrap .i64 ((s:Int) + 1) = ((s + 1:Nat):Int):=by rw [wrap64 (by omega) (by omega)]; rfl
   rw [hwr]
   refine ⟨⟨s + 1,T',d :: rs,hlt',rfl,rfl,hV.mark hdm (by omega) fun hmem=>?_,hT',htree,hscan⟩,?_⟩
   ·have:=lt_of_heap (hG3.mks.2 d hmem); omega
   ·show a.next.length - (s + 1) < a.next.length - s
    omega
  ·rintro c d V _ _ hf
   exact hf.elim
 · -- the transitions beside the tree
  have hsl0:s = a.next.length:=by omega
  rw [hsl0,List.drop_eq_nil_of_le (Nat.le_refl _)] at htree
  simp only [treeR] at htree
  clear hscan hs hge
  have hscanN:=hscan0
  refine LoadT.sc (s:=.sl) (x:=sn) (by rw [cellOf hG.c1,← hav]; rfl) ?_
  refine ⟨fun y ds W=>∃ (s:Nat) (B:Bas) (rs:List Nat) (sb:Sl),s ≤ a.next.length ∧ y = (at0 b1,at0 b3,at0 b10,at0 b15,((sn.n:Nat):Int),(s:Int),()) ∧ ds = marksOf rs ∧ G1 w W rs b1 b3 g b8 b10 b13 b15 b18 a.next.length av T.seen T.paths T.keys B.number sb sb B.basis ∧
    BasOk s (fun _=>False) B (16 * s) ∧ basR T s (a.next.drop s) B = basR T 0 a.next ⟨[],[]⟩,fun y _=>a.next.length - y.2.2.2.2.2.1.toNat,
   ⟨0,⟨[],[]⟩,rs,⟨none,0,0⟩,Nat.zero_le _,rfl,rfl,hG,⟨fun u y h=>by simp at h,rfl,by simp,List.nodup_nil⟩,rfl⟩,?_⟩
  clear hG rs W
  rintro y ds g3 W ⟨s,B,rs,sb,hs,rfl,rfl,hG,hB,hbas⟩
  dsimp only
  refine Br.dec (fun hlt=>?_) (fun hge=>?_)
  ·have hlt':s < a.next.length:=by omega
   have hdrop:a.next.drop s = a.next[s] :: a.next.drop (s + 1):=List.drop_eq_getElem_cons hlt'
   have hrow':a.next[s]? = some a.next[s]:=List.getElem?_eq_getElem hlt'
   generalize hR:a.next[s] = row at hdrop hrow'
   obtain ⟨hrlen,hrval⟩:=hrows row (List.mem_of_getElem? hrow')
   rw [hdrop] at hbas
   simp only [basR] at hbas
   refine New.mk fun b27 W1 hb27 hh27 hs27 hc27=>?_
   refine Store1.at0' hh27 (by show 0 < 1; decide) rfl fun W2 hh27' hc27' hsz27=>?_
   have hlt18:=hG.lt
   have hN2:Chg Nil W W2:=hc27.trans hc27' (fun _ _ h=>h) fun i hi he=>by have he:i = b27:=he; omega
   have hG2:=hG.nil hN2
   refine LoadT.mk (.agg [.int .i64,.int .i64,.sl,.sl]) (x:=(x1,x2,sa,sn,())) (fun j v hv=>by rw [cellOf hG2.c1,← hav]; simpa [Ty.cells] using hv) ?_
   refine LoadT.sc (s:=.int .i64) (x:=(s:Int)) (by rw [cellOf0 hh27']; rfl) ?_
   refine Ret.call (edges_ret (v0:=x1) (v1:=x2) (sa:=sa) (sn:=sn) (s:Int)) ?_
   rintro _ W3 ⟨q1,q3,rfl,hq1,hq3,hc23,hB1,hB3⟩
   have hq1:W3.heap[q1]? = some (.cells av 27 (0,0)):=by rw [← hav]; exact hq1
   have hG3:=hG2.nil hc23
   have hl27:=lt_of_heap hh27'
   have hC3:Cs W3 b18 [(b27,#[.int .i64 (s:Int)],3),(q1,av,27),(q3,#[.int .i64 (s:Int)],3)]:=⟨fun p hp=>by
    simp only [List.mem_cons,List.not_mem_nil,or_false] at hp
    rcases hp with rfl | rfl | rfl
    ·exact ⟨hc23.heap hh27' fun h=>h,by show b18 < b27; omega⟩
    ·exact ⟨hq1,by show b18 < q1; omega⟩
    ·exact ⟨hq3,by show b18 < q3; omega⟩⟩
   obtain ⟨_,_,_,sls,hrn0,hsl,hrws0,_⟩:=h.rd
   have hrn0:RdT w (.sc .sl) sn sls:=hrn0
   obtain ⟨rsl,hrsl⟩:∃ rsl,sls[s]? = some rsl:=⟨_,List.getElem?_eq_getElem (by rw [hsl]; exact hlt')⟩
   have hrr:=hrws0 s rsl row hrsl hrow'
   have hsz3:w.heap.size ≤ W3.heap.size:=hG3.chg.size
   have helen:(edgesFrom 0 row).length ≤ 16:=by have:=edges_len row 0; omega
   refine ⟨edgesFrom 0 row,_,fun i V=>∃ (B':Bas) (sb':Sl),G1 w V rs b1 b3 g b8 b10 b13 b15 b18 a.next.length av T.seen T.paths T.keys B'.number sb' sb' B'.basis ∧ Cs V b18 [(b27,#[.int .i64 (s:Int)],3),(q1,av,27),(q3,#[.int .i64 (s:Int)],3)] ∧
     BasOk s (fun v=>∃ j < i,∃ e,(edgesFrom 0 row)[j]? = some e ∧ e.1 = v) B' (16 * s + i) ∧ basE T s ((edgesFrom 0 row).drop i) B' = basE T s (edgesFrom 0 row) B,
    fun c V=>False,edges_gives (q0:=at0 q1) (q1:=at0 q3) (sn:=sn) (rsl:=rsl) (sls:=sls) (s:=s) (row:=row) (by omega),?_,?_,?_,?_,?_,?_,?_⟩
   ·rintro i V ⟨B',sb',v1,v2,v3,v4⟩
    exact ⟨by rw [cellOf (v2.at' (q1,av,27) (by simp)).1,← hav]; rfl,by rw [cellOf0 (v2.at' (q3,#[.int .i64 (s:Int)],3) (by simp)).1]; rfl,hrn0.chg v1.chg (fun _ _ h=>h),hrsl,hrr.chg v1.chg (fun _ _ h=>h)⟩
   ·rintro i V V' ⟨B',sb',v1,v2,v3,v4⟩ ht
    exact ⟨B',sb',v1.turn ht hsz3,v2.turn ht,v3,v4⟩
   ·rintro c V V' hf ht
    exact hf
   ·exact ⟨B,sb,hG3,hC3,⟨fun u y hm=>by rcases hB.lt u y hm with h | ⟨_,h⟩; exact .inl h; exact h.elim,hB.len,by have:=hB.size; omega,hB.nodup⟩,rfl⟩
   ·rintro i ⟨ex,et,eu⟩ V hx ⟨B',sb',hV,hCV,hB',hbe⟩
    obtain ⟨e1,e2,e3,e4⟩:=edges_mem row 0 ex et eu (List.mem_of_getElem? hx)
    have e6:=hrval et e2
    obtain ⟨nt,rfl⟩:=Int.eq_ofNat_of_zero_le e1
    obtain ⟨nx,rfl⟩:=Int.eq_ofNat_of_zero_le e3
    have hnx:nx < 16:=by omega
    have hi16:i < 16:=by have:=(List.getElem?_eq_some_iff.1 hx).1; omega
    have hdr:(edgesFrom 0 row).drop i = ((nx:Int),(nt:Int),eu) :: (edgesFrom 0 row).drop (i + 1):=by
     obtain ⟨hl',he⟩:=List.getElem?_eq_some_iff.1 hx
     rw [← he]; exact List.drop_eq_getElem_cons hl'
    rw [hdr] at hbe
    simp only [basE] at hbe
    have hnewk:((s:Int),(nx:Int)) ∉ B'.number:=hB'.new fun ⟨j,hj,e,he,hev⟩=>by
     obtain ⟨hl',hxe⟩:=List.getElem?_eq_some_iff.1 hx
     obtain ⟨hjl,hje⟩:=List.getElem?_eq_some_iff.1 he
     have:=List.pairwise_iff_getElem.1 (edges_sorted row 0) j i hjl hl' hj
     rw [hxe,hje,hev] at this
     exact absurd this (Int.lt_irrefl _)
    have hnext:BasOk s (fun v=>∃ j < i + 1,∃ e,(edgesFrom 0 row)[j]? = some e ∧ e.1 = v) B' (16 * s + (i + 1)):=
     ⟨fun u y hm=>(hB'.lt u y hm).imp id fun ⟨h1,j,hj,h2⟩=>⟨h1,j,by omega,h2⟩,hB'.len,by have:=hB'.size; omega,hB'.nodup⟩
    have hTpt:nt < T.paths.length:=by rw [hT.len]; omega
    have hTps:s < T.paths.length:=by rw [hT.len]; omega
    have hps:T.paths[s]? = some (T.paths.getD s ⟨#[]⟩):=by rw [getD_get hTps]; exact List.getElem?_eq_getElem hTps
    have hpt:T.paths[nt]? = some (T.paths.getD nt ⟨#[]⟩):=by rw [getD_get hTpt]; exact List.getElem?_eq_getElem hTpt
    have hTseen:=hT.seen
    have zs:=hT.small _ (List.mem_of_getElem? hps)
    have zt:=hT.small _ (List.mem_of_getElem? hpt)
    refine LoadT.sc (s:=.int .i64) (x:=(s:Int)) (by rw [cellOf0 (hCV.at' (b27,#[.int .i64 (s:Int)],3) (by simp)).1]; rfl) ?_
    refine New.mk fun b91 V1 hb91 hn91 hs91 hc91=>?_
    refine StoreN.whole (vs:=[.int .i64 (s:Int),.int .i64 (nx:Int)]) hn91 rfl fun V2 hh91 hc91' hsz91=>?_
    have hN:Chg Nil V V2:=hc91.trans hc91' (fun _ _ h=>h) fun i hi he=>by have he:i = b91:=he; omega
    have hV2:=hV.nil hN
    have hC2:=hCV.nil hN
    have hlv:=hV.lt
    refine Join.by' (fun y U=>∃ b:Bool,y = (at0 b10,at0 b27,(nx:Int),(nt:Int),at0 b91,b,()) ∧ U = V2 ∧ (b = true ↔ (nx % 2 = 0 ∧ ((s:Int),(nx:Int)) ∉ T.keys))) ?_ ?_
    ·rintro y U g5 ⟨b,rfl,hU,hb⟩
     rw [hU]
     clear hU
     dsimp only
     refine Br.mk (fun hbt=>?_) (fun hbf=>?_)
     ·have hcond:((nx:Int)).toNat % 2 = 0 ∧ ((s:Int),(nx:Int)) ∉ T.keys:=hb.1 hbt
      rw [if_pos hcond] at hbe
      refine LoadT.sc (s:=.map) (x:=some b8) (by rw [cellOf hV2.c10]; rfl) ?_
      refine LoadT.mk (.agg [.int .i64,.int .i64]) (x:=((s:Int),(nx:Int),())) (fun j v hv=>by rw [cellOf hh91]; simpa [Ty.cells] using hv) ?_
      refine LoadT.sc (s:=.sl) (x:=sb') (by rw [cellOf hV2.c10]; rfl) ?_
      have hsbn:sb'.n = B'.number.length:=by rw [hV2.bas.len,hB'.len]
      obtain ⟨V3,hrun3,hm3,hc3⟩:=updateP_new under91 hV2.m8 (t:=((s:Int),(nx:Int))) (numL_new hnewk) (.int .i64 (B'.number.length:Int))
      rw [numL_append] at hm3
      refine ⟨V3,by rw [hsbn]; exact hrun3,?_⟩
      have hV3:=hV2.numsTo hc3 hm3
      have hC3':=hC2.low hc3 (by omega)
      have hd:Chg Nil V3 V3.drew:=Chg.drew V3
      have hV4:=hV3.nil hd
      have hC4:=hC3'.nil hd
      -- what is left,from the reduction on
      have fin:∀ (U:World),Chg Nil V3.drew U → CallT Tryd.prog 48 #[.string ((T.paths.getD s ⟨#[]⟩ ++ letS (nx:Int)) ++ InverseF (T.paths.getD nt ⟨#[]⟩))] (.sc .str) U (fun r U1=>
        Chg Nil V3.drew U1 ∧ New U1 (.cells #[.string r] 9) fun bq U2=>Chg Nil V3.drew U2 ∧ RunT Tryd.prog (.sc .sl) (Builtin.append_ #[22,22] 22 #[sb'.v,.slice (some (Addr.mk bq 0 none)) 1 1]) U2 fun r3 U3=>
         ((Chg (fun k=>sb'.own k) V3.drew U3 ∧ Store1 U3 ((at0 b10).add 2) r3.v fun U4=>KeepL V U4 ∧ ∃ (B':Bas) (sb':Sl),G1 w U4 rs b1 b3 g b8 b10 b13 b15 b18 a.next.length av T.seen T.paths T.keys B'.number sb' sb' B'.basis ∧ Cs U4 b18 [(b27,#[.int .i64 (s:Int)],3),(q1,av,27),(q3,#[.int .i64 (s:Int)],3)] ∧
     BasOk s (fun v=>∃ j < i + 1,∃ e,(edgesFrom 0 row)[j]? = some e ∧ e.1 = v) B' (16 * s + (i + 1)) ∧ basE T s ((edgesFrom 0 row).drop (i + 1)) B' = basE T s (edgesFrom 0 row) B))) (fun _ _=>False):=by
       intro U hcU
       refine Ret.call (Reduce_ret (hl.nil (hV4.nil hcU).chg) _) ?_
       rintro _ U1 ⟨rfl,hcU1⟩
       refine ⟨hcU.then hcU1,?_⟩
       refine New.mk fun bq U2 hbq hnq _ hcq=>⟨(hcU.then hcU1).then hcq,?_⟩
       have hcU2:=(hcU.then hcU1).then hcq
       have hV5:=hV4.nil hcU2
       have hC5:=hC4.nil hcU2
       refine OwnT.append (t:=tS) (m:=1) ok22 rfl (by decide) hV5.bas [_] rfl (by decide) (fun j v hv=>by rw [cellOf hnq]; simpa [Ty.cells] using hv) ?_ ?_ fun s' U3 ho3 hcA hownA=>?_
       ·have:=hB'.len; have:=hB'.size; omega
       ·have:=hB'.len; have:=hB'.size; simp only [maxLen]; omega
       have hV6:=hV5.basTo hcA ho3 hownA
       have hC6:Cs U3 b18 _:=hC5.chg hcA fun p hp hown=>by
        obtain ⟨cur,hcur⟩:=hV5.bas.elem hown
        have:=(hC5.at' p hp).1
        simp only [List.mem_cons,List.not_mem_nil,or_false] at hp
        rcases hp with rfl | rfl | rfl <;> (rw [hcur] at this; simp at this)
       refine ⟨hcU2.nil.then hcA,?_⟩
       refine Store1.at hV6.c10 2 (by show 2 < 3; decide) rfl fun U4 h10 hc10 _=>?_
       have hV7:=hV6.hdTo hc10 h10
       have hC7:=hC6.low hc10 (by omega)
       have hK:Chg (fun k=>k = b8 ∨ k = b10 ∨ sb'.own k) V U4:=by
        have k1:Chg (fun k=>k = b8 ∨ k = b10 ∨ sb'.own k) V U2:=(hN.nil.then (hc3.mono fun i _ hi=>.inl hi)).then (hd.then hcU2).nil
        exact (k1.then (hcA.mono fun i _ hi=>.inr (.inr hi))).then (hc10.mono fun i _ hi=>.inr (.inl hi))
       refine ⟨KeepL.of' hK fun k hk=>?_,⟨B'.number ++ [((s:Int),(nx:Int))],_⟩,s',hV7,hC7,⟨fun u y hm=>?_,?_,?_,?_⟩,hbe⟩
       ·rcases hk with rfl | rfl | hk
        ·obtain ⟨es,cl,hm,_⟩:=hV.m8; exact ⟨_,hm,rfl⟩
        ·exact ⟨_,hV.c10,rfl⟩
        ·obtain ⟨cur,hcur⟩:=hV.bas.elem hk; exact ⟨_,hcur,rfl⟩
       ·rcases List.mem_append.1 hm with hm | hm
        ·exact hnext.lt u y hm
        ·simp only [List.mem_singleton,Prod.mk.injEq] at hm
         obtain ⟨rfl,rfl⟩:=hm
         exact .inr ⟨rfl,i,by omega,_,hx,rfl⟩
       ·have:=hB'.len; simp [this]
       ·have:=hB'.size; simp; omega
       ·rw [List.nodup_append]
        exact ⟨hB'.nodup,by simp,fun p hp q hq=>by simp only [List.mem_singleton] at hq; subst hq; exact fun he=>hnewk (he ▸ hp)⟩
      have zi:=invF_size (T.paths.getD nt ⟨#[]⟩)
      have bound1:((((T.paths.getD s ⟨#[]⟩).size + (letS (nx:Int)).size:Nat):Int) ≤ 9223372036854775807):=by rw [letS_size]; omega
      have bound2:((((T.paths.getD s ⟨#[]⟩ ++ letS (nx:Int)).size + (InverseF (T.paths.getD nt ⟨#[]⟩)).size:Nat):Int) ≤ 9223372036854775807):=by rw [ByteArray.size_append,letS_size]; omega
      refine ⟨fun U=>Chg (fun k=>sb'.own k) V3.drew U,Chg.refl _,?_⟩
      have loadsl:∀ {U:World},Chg (fun k=>sb'.own k) V3.drew U → U.heap[b10]? = some (.cells #[.slice (some ⟨g,0,none⟩) a.next.length a.next.length,.map (some b8),sb'.v] 93 (0,0)):=fun hU=>hU.heap hV4.c10 fun hk=>by have:=hV4.own _ hk; omega
      have strs:∀ {U:World},Chg (fun k=>sb'.own k) V3.drew U → OwnT U 9 tS (sl0 g a.next.length) T.paths:=fun hU=>hV4.str.chg hU fun a ha hk=>by cases ha; have:=hV4.own _ hk; dsimp only at this; omega
      have ld27:∀ {U:World},Chg (fun k=>sb'.own k) V3.drew U → U.heap[b27]? = some (.cells #[.int .i64 (s:Int)] 3 (0,0)):=fun hU=>hU.heap (hC4.at' (b27,#[.int .i64 (s:Int)],3) (by simp)).1 fun hk=>by
       obtain ⟨cur,hcur⟩:=hV4.bas.elem hk
       exact ne_of_elem (hC4.at' (b27,#[.int .i64 (s:Int)],3) (by simp)).1 hcur (by show (3:Nat) ≠ 9; decide) rfl
      refine LoadS.sc (s:=.sl) (x:=sb') (fun U hU=>by rw [cellOf (loadsl hU)]; rfl) ?_
      refine LoadS.sc (s:=.sl) (x:=sl0 g a.next.length) (fun U hU=>by rw [cellOf (loadsl hU)]; rfl) ?_
      refine LoadS.sc (s:=.int .i64) (x:=(s:Int)) (fun U hU=>by rw [cellOf0 (ld27 hU)]; rfl) ?_
      refine rd_idxA (t:=tS) hV4.str.rd s rfl hps fun ad had=>?_
      refine LoadS.sc (s:=.str) (x:=T.paths.getD s ⟨#[]⟩) (fun U hU=>(strs hU).rd.cell1 had hps) ?_
      refine LoadS.sc (s:=.sl) (x:=sl0 g a.next.length) (fun U hU=>by rw [cellOf (loadsl hU)]; rfl) ?_
      refine rd_idxA (t:=tS) hV4.str.rd nt rfl hpt fun ad2 had2=>?_
      refine LoadS.sc (s:=.str) (x:=T.paths.getD nt ⟨#[]⟩) (fun U hU=>(strs hU).rd.cell1 had2 hpt) ?_
      have nl:∀ {U:World},Chg Nil V3.drew U → Chg (fun k=>sb'.own k) V3.drew U:=fun hU=>hU.nil
      have clo:∀ {U:World},Chg Nil V3.drew U → Laid U:=fun hU=>hl.nil (hV4.nil hU).chg
      have cfin:∀ {U:World} (hU:Chg Nil V3.drew U),_:=fun hU=>fin _ hU
      refine Ret.call (letter_ret (clo (Chg.refl _)) _) ?_
      rintro _ U1 ⟨rfl,hu1⟩
      refine ⟨nl hu1,?_,?_⟩
      ·refine New.mk fun b118 U2 hb118 hn118 _ hu2=>⟨nl (hu1.then hu2),?_,?_⟩
       ·refine letter_string hn118 ⟨nl (hu1.then hu2),bound1,?_⟩
        refine Ret.call (Inverse_ret (clo (hu1.then hu2)) _) ?_
        rintro _ U3 ⟨rfl,hu3⟩
        refine ⟨nl ((hu1.then hu2).then hu3),bound2,?_⟩
        exact Calls.mono (fin _ ((hu1.then hu2).then hu3)) fun e z he=>by
         cases e with
         | returned v=>obtain ⟨y,hy,h1,h2⟩:=he; exact ⟨y,hy,nl h1,nl h2.1,h2.2⟩
         | panicked c=>exact he
         | outgrown=>exact he
       ·refine Ret.call (Inverse_ret (clo (hu1.then hu2)) _) ?_
        rintro _ U3 ⟨rfl,hu3⟩
        refine ⟨nl ((hu1.then hu2).then hu3),?_⟩
        refine letter_string (hu3.heap hn118 fun h=>h) ⟨nl ((hu1.then hu2).then hu3),bound1,bound2,?_⟩
        exact Calls.mono (fin _ ((hu1.then hu2).then hu3)) fun e z he=>by
         cases e with
         | returned v=>obtain ⟨y,hy,h1,h2⟩:=he; exact ⟨y,hy,nl h1,nl h2.1,h2.2⟩
         | panicked c=>exact he
         | outgrown=>exact he
      ·refine Ret.call (Inverse_ret (clo hu1) _) ?_
       rintro _ U2 ⟨rfl,hu2⟩
       refine ⟨nl (hu1.then hu2),?_⟩
       refine New.mk fun b149 U3 hb149 hn149 _ hu3=>⟨nl ((hu1.then hu2).then hu3),?_⟩
       refine letter_string hn149 ⟨nl ((hu1.then hu2).then hu3),bound1,bound2,?_⟩
       exact Calls.mono (fin _ ((hu1.then hu2).then hu3)) fun e z he=>by
        cases e with
        | returned v=>obtain ⟨y,hy,h1,h2⟩:=he; exact ⟨y,hy,nl h1,nl h2.1,h2.2⟩
        | panicked c=>exact he
        | outgrown=>exact he
     ·have hcond:¬ (((nx:Int)).toNat % 2 = 0 ∧ ((s:Int),(nx:Int)) ∉ T.keys):=fun hh=>by rw [hb.2 hh] at hbf; cases hbf
      rw [if_neg hcond] at hbe
      exact ⟨KeepL.of' hN (fun _ h=>h.elim),B',sb',hV2,hC2,hnext,hbe⟩
    ·intro J hJ
     have htm:Int.tmod (nx:Int) 2 = ((nx % 2:Nat):Int):=rfl
     refine ⟨by decide,?_⟩
     refine Br.mk (fun he=>?_) (fun hne=>?_)
     ·have he':nx % 2 = 0:=by
       have:Int.tmod (nx:Int) 2 = 0:=by simpa using he
       rw [htm] at this; omega
      refine LoadT.sc (s:=.map) (x:=some b13) (by rw [cellOf0 hV2.c15]; rfl) ?_
      refine LoadT.mk (.agg [.int .i64,.int .i64]) (x:=((s:Int),(nx:Int),())) (fun j v hv=>by rw [cellOf hh91]; simpa [Ty.cells] using hv) ?_
      refine ⟨decide (((s:Int),(nx:Int)) ∈ T.keys),V2,lookup_keys hV2.m13 ((s:Int),(nx:Int)),?_⟩
      refine hJ _ _ ⟨_,rfl,rfl,?_⟩
      simp [he']
     ·have he':nx % 2 ≠ 0:=fun hh=>by
       have:(Int.tmod (nx:Int) 2 == 0) = true:=by rw [htm,hh]; rfl
       rw [this] at hne; cases hne
      refine hJ _ _ ⟨_,rfl,rfl,?_⟩
      simp [he']
   ·rintro d V hdm hdB ⟨B',sb',hV,hCV,hB',hbe⟩
    rw [List.drop_eq_nil_of_le (Nat.le_refl _)] at hbe
    simp only [basE] at hbe
    rw [← hbe] at hbas
    dsimp only
    have hwr:IntKind.wrap .i64 ((s:Int) + 1) = ((s + 1:Nat):Int):=by rw [wrap64 (by omega) (by omega)]; rfl
    rw [hwr]
    refine ⟨⟨s + 1,B',d :: rs,sb',hlt',rfl,rfl,hV.mark hdm (by omega) fun hmem=>?_,⟨fun u y hm=>?_,hB'.len,?_,hB'.nodup⟩,hbas⟩,?_⟩
    ·have:=lt_of_heap (hG3.mks.2 d hmem); omega
    ·rcases hB'.lt u y hm with h1 | ⟨h1,_⟩ <;> exact .inl (by omega)
    ·have:=hB'.size; omega
    ·show a.next.length - (s + 1) < a.next.length - s
     omega
   ·rintro c d V _ _ hf
    exact hf.elim
  ·have hsl:s = a.next.length:=by omega
   rw [hsl,List.drop_eq_nil_of_le (Nat.le_refl _)] at hbas
   simp only [basR] at hbas
   have hBF:B = basF a.next:=by rw [hbas,htree]; rfl
   refine LoadT.mk (.agg [.sl,.map,.sl]) (x:=(sl0 g a.next.length,some b8,sb,())) (fun j v hv=>by rw [cellOf hG.c10]; simpa [Ty.cells] using hv) ?_
   refine StoreN.whole (vs:=[.slice (some ⟨g,0,none⟩) a.next.length a.next.length,.map (some b8),sb.v]) hG.c3 rfl fun W2 h3 hc3 _=>?_
   have hm2:Marks W2 rs:=hG.mks.chg hc3 fun r hr he=>by
    have he:r = b3:=he
    subst he; have:=hG.mks.2 r hr; rw [hG.c3] at this; cases this
   refine retM_marks rs W2 hm2 fun z hz=>?_
   have nrs:∀ {k o},W2.heap[k]? = some o → loopish o = false → ¬ k ∈ rs:=fun hk ho hm=>by
    have:=hm2.2 _ hm; rw [hk] at this; cases this; cases ho
   have hz3:=hz.heap h3 (nrs h3 rfl)
   refine LoadT.mk (.agg [.sl,.map,.sl]) (x:=(sl0 g a.next.length,some b8,sb,())) (fun j v hv=>by rw [cellOf hz3]; simpa [Ty.cells] using hv) ?_
   refine ⟨(sl0 g a.next.length,some b8,sb,()),rfl,g,b8,rfl,rfl,?_,?_,?_,?_,?_,?_,?_,by omega,fun k hk=>by have:=hG.own k hk; omega⟩
   ·refine (hG.chg.trans hc3 (fun _ _ h=>h) fun i hi he=>by have he:i = b3:=he; omega).trans hz (fun _ _ h=>h) fun i hi hm=>?_
    have:=hG.mB i hm; omega
   ·rw [← htree]
    have h1:=hG.str.chg hc3 fun a ha he=>by cases ha; have he:g = b3:=he; omega
    obtain ⟨cur,hcur⟩:=h1.elem (k:=g) ⟨_,rfl,rfl⟩
    exact h1.chg hz fun a ha hm=>by cases ha; exact nrs hcur rfl hm
   ·rw [← hBF]
    have h1:=hG.m8.chg hc3 (by omega)
    obtain ⟨es,cl,hm,_⟩:=h1
    exact MapP.chg ⟨es,cl,hm,by assumption⟩ hz (nrs hm rfl)
   ·rw [← hBF]
    have h1:=hG.bas.chg hc3 fun a ha he=>by have:=hG.own a.block ⟨a,ha,rfl⟩; have he:a.block = b3:=he; omega
    exact h1.chg hz fun a ha hm=>by
     obtain ⟨cur,hcur⟩:=h1.elem (k:=a.block) ⟨a,ha,rfl⟩
     exact nrs hcur rfl hm
   ·rw [← hBF]; exact hB.nodup
   ·rw [← htree]; exact hT
   ·rw [← hBF]; exact hB.len
end Go.Proofs.YtffdjfkekdoeaaaDoor.Fo
end
section
set_option maxRecDepth 4000
set_option maxHeartbeats 4000000
namespace Go.Proofs.YtffdjfkekdoeaaaDoor.Fo
open Fw Wd
theorem AutR.zero {B:Nat} {w:World} {sa sn:Sl} {acc:List Bool} {next:List (List Int)} (h:AutR B w sa sn acc next):AutR 0 w sa sn acc next:=by
 obtain ⟨h1,h2,h3,sls,h4,h5,h6,h7⟩:=h
 exact ⟨h1,fun _ _=>Nat.zero_le _,fun _ _=>Nat.zero_le _,sls,h4,h5,h6,fun _ _ _ _=>Nat.zero_le _⟩
theorem Own.nilk (k:Nat) {P:Prop} (h:Sl.own ⟨none,0,0⟩ k):P:=by obtain ⟨a,ha,_⟩:=h; cases ha
theorem MapP.nil {w w':World} {mb:Nat} {l:List ((Int × Int) × Value)} (h:MapP w mb l) (hc:Chg Nil w w'):MapP w' mb l:=h.chg hc fun h=>h
def basisF (k:Int) (a:Aut):List ByteArray × Int:=if examF k [a] [] ≠ 0 then ([],examF k [a] []) else ((basF a.next).basis,0)
theorem Basis_ret {w:World} (hl:Laid w) {k:Int} {x:Int × Int × Sl × Sl × Unit} {a:Aut} (h:AutIn w x a) :
  RetN Tryd.prog 17 #[.int .i64 k,.agg #[.int .i64 x.1,.int .i64 x.2.1,x.2.2.1.v,x.2.2.2.1.v]] [.sc .sl,.sc (.int .i64)] w fun y w'=>y.2.1 = (basisF k a).2 ∧ OwnT w' 9 tS y.1 (basisF k a).1 ∧ Chg Nil w w' ∧ ∀ k,y.1.own k → w.heap.size ≤ k:=by
 obtain ⟨x1,x2,sa,sn,_⟩:=x
 refine fold_Basis.calls k x1 x2 sa sn ?_
 unfold fold_Basis.sh
 refine New.mk fun b1 w1 hb1 hn1 hs1 hc1=>?_
 refine LoadT.mk tA (x:=(x1,x2,sa,sn,())) (fun j v hv=>by rw [cellOf hn1]; simpa [Ty.cells] using hv) ?_
 refine New.mk fun b4 w2 hb4 hn4 hs4 hc4=>?_
 have hc02:=hc1.then hc4
 refine Ret.call (exam_ret (sl:=⟨some ⟨b4,0,none⟩,1,1⟩) (sw:=⟨none,0,0⟩) (xs:=[(x1,x2,sa,sn,())]) (ats:=[a]) (ws:=[]) (hl.nil hc02) (rd_one (t:=tA) hn4 rfl) rfl (fun i y b hy hb=>by
  cases i with
  | zero=>simp at hy hb; subst hy; subst hb; exact h.nil hc02
  | succ i=>simp at hy) (rd_none _ _) (by simp) (by simp)) ?_
 rintro _ w3 ⟨rfl,hc3⟩
 have hc03:=hc02.then hc3
 refine Br.mk (fun hne=>⟨(⟨none,0,0⟩,examF k [a] [],()),rfl,?_,?_,hc03,fun k hk=>Own.nilk k hk⟩) (fun heq=>?_)
 ·have hne':examF k [a] [] ≠ 0:=by simpa using hne
  simp [basisF,hne']
 ·have hne':examF k [a] [] ≠ 0:=by simpa using hne
  have:(basisF k a).1 = []:=by simp [basisF,hne']
  rw [this]; exact OwnT.nil _ _ _
 have hz:examF k [a] [] = 0:=by simpa using heq
 obtain ⟨hk1,hk8,hck,_⟩:=exam_rows hz
 have h13:w3.heap[b1]? = some (.cells #[.int .i64 x1,.int .i64 x2,sa.v,sn.v] 27 (0,0)):=(hc4.then hc3).heap hn1 fun h=>h
 refine LoadT.mk tA (x:=(x1,x2,sa,sn,())) (fun j v hv=>by rw [cellOf h13]; simpa [Ty.cells] using hv) ?_
 refine Ret.call (grown_ret (x:=(x1,x2,sa,sn,())) (hl.nil hc03) (h.nil hc03) hck ⟨hk1,hk8⟩) ?_
 rintro ⟨y1,y2,y3,_⟩ w4 ⟨g,mb,hy1,hy2,hc4',hp,hm,hb,_,_,_,hg,hown⟩
 have hB:basisF k a = ((basF a.next).basis,0):=by simp [basisF,hz]
 refine ⟨(y3,0,()),rfl,by rw [hB],by rw [hB]; exact hb,hc03.then hc4',fun k hk=>?_⟩
 have:=hown k hk
 have:=hc03.size
 omega
end Go.Proofs.YtffdjfkekdoeaaaDoor.Fo
end
section
set_option maxRecDepth 4000
set_option maxHeartbeats 4000000
namespace Go.Proofs.YtffdjfkekdoeaaaDoor.Fo
open Fw Wd
theorem word_lt {k:Int} {s:ByteArray} (hs:checkF k s = 0):∀ (i:Nat) (hi:i < (wordF s).length),(wordF s)[i] < 2 * k.toNat:=fun i hi=>by
 obtain ⟨h1,h2,h3,h4⟩:=check_bad hs
 obtain ⟨h8,hi8⟩:=check8 hs
 unfold hasBad at h4
 rw [List.any_eq_false] at h4
 have hm:(wordF s)[i] ∈ wordF s:=List.getElem_mem hi
 unfold wordF at hm
 obtain ⟨b,hb,he⟩:=List.mem_map.1 hm
 have hbm:=redFold_mem (P:=fun b=>b ∈ s.data.toList) s.data.toList [] (by simp) (fun b hb=>hb) b hb
 have hbad:badF k (b.toNat:Int) = false:=by simpa using h4 b hbm
 simp only [badF,Bool.or_eq_false_iff,decide_eq_false_iff_not] at hbad
 have hbo:idxF (ofB b) = idxF (b.toNat:Int):=rfl
 have he':(idxF (ofB b)).toNat = (wordF s)[i]:=he
 rw [hbo] at he'
 omega
theorem ok38:slOk Tryd.prog 38 83 2 16 = true:=by kernel_rfl
abbrev tF:Ty:=.agg [.int .i64,.bool]
def keyF (s x:Nat) (t:Int):Int × Int:=if x % 2 = 1 then (t,((x ^^^ 1:Nat):Int)) else ((s:Int),(x:Int))
def exprW (next:List (List Int)) (num:List (Int × Int)):List Nat → Nat → List (Int × Bool × Unit)
 | [],_=>[]
 | x :: l,s=>(if keyF s x (getN next s x) ∈ num then [(((num.idxOf (keyF s x (getN next s x)):Nat):Int),decide (x % 2 = 1),())] else []) ++ exprW next num l (getN next s x).toNat
def expressF (k:Int) (a:Aut) (s:ByteArray):List (Int × Bool × Unit) × Int:=
 if examF k [a] [s] ≠ 0 then ([],examF k [a] [s])
 else if leadsF a.next (wordF s) 0 ≠ 0 then ([],211) else (exprW a.next (basF a.next).number (wordF s) 0,0)
theorem Express_ret {w:World} (hl:Laid w) {k:Int} {x:Int × Int × Sl × Sl × Unit} {a:Aut} (h:AutIn w x a) (s:ByteArray) :
  RetN Tryd.prog 21 #[.int .i64 k,.agg #[.int .i64 x.1,.int .i64 x.2.1,x.2.2.1.v,x.2.2.2.1.v],.string s] [.sc .sl,.sc (.int .i64)] w fun y w'=>y.2.1 = (expressF k a s).2 ∧ OwnT w' 83 tF y.1 (expressF k a s).1 ∧ Chg Nil w w' ∧ ∀ k,y.1.own k → w.heap.size ≤ k:=by
 obtain ⟨x1,x2,sa,sn,_⟩:=x
 refine fold_Express.calls k x1 x2 sa sn s ?_
 unfold fold_Express.sh
 refine New.mk fun b1 w1 hb1 hn1 hs1 hc1=>?_
 refine LoadT.mk tA (x:=(x1,x2,sa,sn,())) (fun j v hv=>by rw [cellOf hn1]; simpa [Ty.cells] using hv) ?_
 refine New.mk fun b4 w2 hb4 hn4 hs4 hc4=>?_
 refine New.mk fun b6 w3 hb6 hn6 hs6 hc6=>?_
 have hc03:=(hc1.then hc4).then hc6
 have hn4':=hc6.heap hn4 fun h=>h
 refine Ret.call (exam_ret (sl:=⟨some ⟨b4,0,none⟩,1,1⟩) (sw:=⟨some ⟨b6,0,none⟩,1,1⟩) (xs:=[(x1,x2,sa,sn,())]) (ats:=[a]) (ws:=[s]) (hl.nil hc03) (rd_one (t:=tA) hn4' rfl) rfl (fun i y b hy hb=>by
  cases i with
  | zero=>simp at hy hb; subst hy; subst hb; exact h.nil hc03
  | succ i=>simp at hy) (rd_one (t:=.sc .str) hn6 rfl) (by simp) (by simp)) ?_
 rintro _ w4 ⟨rfl,hc5⟩
 have hc04:=hc03.then hc5
 refine Br.mk (fun hne=>⟨(⟨none,0,0⟩,examF k [a] [s],()),rfl,?_,?_,hc04,fun k hk=>Own.nilk k hk⟩) (fun heq=>?_)
 ·have hne':examF k [a] [s] ≠ 0:=by simpa using hne
  simp [expressF,hne']
 ·have hne':examF k [a] [s] ≠ 0:=by simpa using hne
  have:(expressF k a s).1 = []:=by simp [expressF,hne']
  rw [this]; exact OwnT.nil _ _ _
 have hz:examF k [a] [s] = 0:=by simpa using heq
 obtain ⟨hk1,hk8,hck,hws⟩:=exam_rows hz
 obtain ⟨_,_,hn1',hn2',hla,_,hrows⟩:=check_spec hck
 have hcs:=hws s (by simp)
 have h14:w4.heap[b1]? = some (.cells #[.int .i64 x1,.int .i64 x2,sa.v,sn.v] 27 (0,0)):=((hc4.then hc6).then hc5).heap hn1 fun h=>h
 refine LoadT.mk tA (x:=(x1,x2,sa,sn,())) (fun j v hv=>by rw [cellOf h14]; simpa [Ty.cells] using hv) ?_
 refine Ret.call (leads_ret (x:=(x1,x2,sa,sn,())) (hl.nil hc04) (h.nil hc04) hck ⟨hk1,hk8⟩ hcs) ?_
 rintro _ w5 ⟨rfl,hc6'⟩
 have hc05:=hc04.then hc6'
 have hE:expressF k a s = if leadsF a.next (wordF s) 0 ≠ 0 then ([],211) else (exprW a.next (basF a.next).number (wordF s) 0,0):=by unfold expressF; rw [if_neg (by rw [hz]; simp)]
 refine Br.mk (fun hne=>⟨(⟨none,0,0⟩,211,()),rfl,?_,?_,hc05,fun k hk=>Own.nilk k hk⟩) (fun heq2=>?_)
 ·have hne':leadsF a.next (wordF s) 0 ≠ 0:=by simpa using hne
  rw [hE,if_pos hne']
 ·have hne':leadsF a.next (wordF s) 0 ≠ 0:=by simpa using hne
  have:(expressF k a s).1 = []:=by rw [hE,if_pos hne']
  rw [this]; exact OwnT.nil _ _ _
 have hlead0:leadsF a.next (wordF s) 0 = 0:=by simpa using heq2
 rw [hlead0] at hE
 simp only [ne_eq,not_true_eq_false,if_false] at hE
 have h15:=hc6'.heap h14 fun h=>h
 refine LoadT.mk tA (x:=(x1,x2,sa,sn,())) (fun j v hv=>by rw [cellOf h15]; simpa [Ty.cells] using hv) ?_
 refine Ret.call (grown_ret (x:=(x1,x2,sa,sn,())) (hl.nil hc05) (h.nil hc05) hck ⟨hk1,hk8⟩) ?_
 rintro ⟨y1,y2,y3,_⟩ w6 ⟨g,mb,hy1,hy2,hc7,hp,hm,hb,hnd,hT,_,hg,hown⟩
 have hy2:y2 = some mb:=hy2
 subst hy2
 have hc06:=hc05.then hc7
 have h16:=hc7.heap h15 fun h=>h
 refine New.mk fun b19 w7 hb19 hn19 hs19 hc19=>?_
 refine StoreN.whole (vs:=[y1.v,.map (some mb),y3.v]) hn19 rfl fun w8 h19 hc19' _=>?_
 have hN8:Chg Nil w6 w8:=hc19.trans hc19' (fun _ _ h=>h) fun i hi he=>by have he:i = b19:=he; omega
 have hc08:=hc06.then hN8
 have h18:=hN8.heap h16 fun h=>h
 have hm8:=hm.nil hN8
 refine Ret.call (Reduce_ret (hl.nil hc08) s) ?_
 rintro _ w9 ⟨rfl,hc9⟩
 obtain ⟨hidx,hsz⟩:=idxs_word hcs
 refine string_bytes _ fun sl w10 hrd hc10=>?_
 have hN10:=hc9.then hc10
 have hc010:=hc08.then hN10
 have hn:sl.n = (ReduceF s).size:=by rw [hrd.len]; simp
 have hlen:(wordF s).length = (ReduceF s).size:=by have:=congrArg List.length hidx; simpa using this.symm
 have h110:=hN10.heap h18 fun h=>h
 have h1910:=hN10.heap h19 fun h=>h
 have hm10:=hm8.nil hN10
 obtain ⟨_,_,_,sls,hrn,hsl,hrws,_⟩:=h.rd
 have hrn:RdT w (.sc .sl) sn sls:=hrn
 refine LoopT.mk (fun y W=>∃ (i st:Nat) (fo:Sl) (fs:List (Int × Bool × Unit)),i ≤ (wordF s).length ∧ st < a.next.length ∧ y = (at0 b1,at0 b19,fo,(st:Int),sl,((sl.n:Nat):Int),(i:Int),()) ∧ Chg Nil w10 W ∧
   OwnT W 83 tF fo fs ∧ (∀ k,fo.own k → w10.heap.size ≤ k) ∧ leadsF a.next ((wordF s).drop i) st = 0 ∧ fs ++ exprW a.next (basF a.next).number ((wordF s).drop i) st = exprW a.next (basF a.next).number (wordF s) 0 ∧ fs.length ≤ i)
  (fun y _=>(wordF s).length - y.2.2.2.2.2.2.1.toNat)
  ⟨0,0,⟨none,0,0⟩,[],Nat.zero_le _,by omega,rfl,Chg.refl _,OwnT.nil _ _ _,fun k hk=>Own.nilk k hk,hlead0,rfl,by simp⟩ ?_
 rintro y g2 W ⟨i,st,fo,fs,hi,hst,rfl,hcW,hoW,hownW,hlead,hexp,hfl⟩
 dsimp only
 have hc0W:=hc010.then hcW
 have h1W:=hcW.heap h110 fun h=>h
 have hrW:=hrd.chg hcW fun _ _ h=>h
 refine Br.dec (fun hlt'=>?_) (fun hge=>?_)
 ·have hil:i < (wordF s).length:=by omega
  have hxi:((ReduceF s).data.toList.map ofB)[i]? = some (ofB ((ReduceF s)[i]'(by omega))):=by rw [List.getElem?_map,bytes_get _ i (by omega)]; rfl
  have hidxi:idxF (ofB ((ReduceF s)[i]'(by omega))) = (((wordF s)[i]:Nat):Int):=by
   have h1:=congrArg (·[i]?) hidx
   simp only [List.getElem?_map,bytes_get (ReduceF s) i (by omega),List.getElem?_eq_getElem hil,Option.map_some,Option.some.injEq] at h1
   exact h1
  have hxlt:=word_lt hcs i hil
  have hdrop:(wordF s).drop i = (wordF s)[i] :: (wordF s).drop (i + 1):=List.drop_eq_getElem_cons hil
  generalize (wordF s)[i] = x at hdrop hidxi hxlt
  rw [hdrop] at hlead hexp
  simp only [leadsF,exprW] at hlead hexp
  obtain ⟨hrl,hrv⟩:=hrows _ (List.getElem_mem hst)
  have hxl:x < a.next[st].length:=by omega
  have hgN:getN a.next st x = a.next[st][x]:=by unfold getN; rw [getD_get hst,getD_get hxl]
  obtain ⟨v1,v2⟩:=hrv _ (List.getElem_mem hxl)
  rw [getD_get hst,getD_get hxl] at hlead
  have hpos:0 ≤ a.next[st][x]:=by
   by_cases hneg:a.next[st][x] < 0
   ·rw [if_pos hneg] at hlead; omega
   ·omega
  rw [if_neg (by omega)] at hlead
  rw [hgN] at hexp
  obtain ⟨rsl,hrsl⟩:∃ rsl,sls[st]? = some rsl:=⟨_,List.getElem?_eq_getElem (by rw [hsl]; exact hst)⟩
  have hrr:=hrws st rsl _ hrsl (List.getElem?_eq_getElem hst)
  generalize hv:a.next[st][x] = t at *
  have hxe:a.next[st][x]? = some t:=by rw [List.getElem?_eq_getElem hxl,hv]
  obtain ⟨nt,rfl⟩:=Int.eq_ofNat_of_zero_le hpos
  refine hrW.get (t:=tB) i rfl hxi ?_
  refine Ret.call (index_ret (hl.nil hc0W) _) ?_
  rintro _ W2 ⟨rfl,hc2⟩
  rw [hidxi]
  have hc02:=hc0W.then hc2
  have h12:=hc2.heap h1W fun h=>h
  refine LoadT.sc (s:=.sl) (x:=sn) (by rw [cellOf h12]; rfl) ?_
  refine (hrn.chg hc02 fun _ _ h=>h).get (t:=.sc .sl) st rfl hrsl ?_
  refine (hrr.chg hc02 fun _ _ h=>h).get (t:=tI) x rfl hxe ?_
  refine New.mk fun b41 W3 hb41 hn41 hs41 hc41=>?_
  refine StoreN.whole (vs:=[.int .i64 (st:Int),.int .i64 (x:Int)]) hn41 rfl fun W4 h41 hc41' _=>?_
  have hN4:Chg Nil W2 W4:=hc41.trans hc41' (fun _ _ h=>h) fun i hi he=>by have he:i = b41:=he; omega
  have hN04:Chg Nil W W4:=hc2.then hN4
  have hsW:=hcW.size
  have hs2:=hc2.size
  refine Join.by' (fun y U=>y = (at0 b1,at0 b19,fo,(x:Int),(nt:Int),at0 b41,sl,((sl.n:Nat):Int),(i:Int),()) ∧ Chg Nil W U ∧ U.heap[b41]? = some (.cells #[.int .i64 (keyF st x (nt:Int)).1,.int .i64 (keyF st x (nt:Int)).2] 96 (0,0))) ?_ ?_
  ·rintro y U g3 ⟨rfl,hU,hk41⟩
   dsimp only
   have hc10U:=hcW.then hU
   refine LoadT.sc (s:=.map) (x:=some mb) (by rw [cellOf (hc10U.heap h1910 fun h=>h)]; rfl) ?_
   refine LoadT.mk (.agg [.int .i64,.int .i64]) (x:=((keyF st x (nt:Int)).1,(keyF st x (nt:Int)).2,())) (fun j v hv=>by rw [cellOf hk41]; simpa [Ty.cells] using hv) ?_
   have hmU:=hm10.nil hc10U
   have hoU:OwnT U 83 tF fo fs:=hoW.chg hU fun _ _ h=>h
   have hwr:IntKind.wrap .i64 ((i:Int) + 1) = ((i + 1:Nat):Int):=by rw [wrap64 (by omega) (by omega)]; rfl
   have hmu:(wordF s).length - (i + 1) < (wordF s).length - i:=by omega
   have htn:nt < a.next.length:=by omega
   by_cases hin:keyF st x (nt:Int) ∈ (basF a.next).number
   ·refine ⟨((((basF a.next).number.idxOf (keyF st x (nt:Int)):Nat):Int),true,()),U,lookup_num_in hnd hmU hin,?_⟩
    refine Br.t rfl ⟨by decide,?_⟩
    rw [if_pos hin] at hexp
    refine New.mk fun b53 U1 hb53 hn53 _ hc53=>?_
    have htm:Int.tmod (x:Int) 2 = ((x % 2:Nat):Int):=rfl
    have hbe:((Int.tmod (x:Int) 2:Int) == 1) = decide (x % 2 = 1):=by rw [htm,Bool.eq_iff_iff]; simp; omega
    rw [hbe] at hn53
    refine OwnT.append (t:=tF) (m:=1) ok38 rfl (by decide) (hoU.chg hc53 fun _ _ h=>h) [((((basF a.next).number.idxOf (keyF st x (nt:Int)):Nat):Int),decide (x % 2 = 1),())] rfl (by decide) (fun j v hv=>by rw [cellOf hn53]; simpa [Ty.cells] using hv) ?_ ?_ fun fo' U2 ho2 hc2' hown2=>?_
    ·omega
    ·simp only [maxLen]; omega
    rw [hwr]
    have hU1:=hc10U.then hc53
    have hsU:=hU1.size
    refine ⟨⟨i + 1,nt,fo',_,hil,htn,rfl,hU1.trans hc2' (fun _ _ h=>h) fun j hj hk=>(by have:=hownW j hk; omega),ho2,fun k hk=>?_,hlead,?_,?_⟩,hmu⟩
    ·rcases hown2 k hk with hk | hk
     ·exact hownW k hk
     ·omega
    ·rw [List.append_assoc]; exact hexp
    ·simp; omega
   ·refine ⟨((0:Int),false,()),U,lookup_num_out hmU hin,?_⟩
    refine Br.f rfl ?_
    rw [if_neg hin,List.nil_append] at hexp
    rw [hwr]
    exact ⟨⟨i + 1,nt,fo,fs,hil,htn,rfl,hc10U,hoU,hownW,hlead,hexp,by omega⟩,hmu⟩
  ·intro J hJ
   have htm:Int.tmod (x:Int) 2 = ((x % 2:Nat):Int):=rfl
   refine ⟨by decide,?_⟩
   refine Br.mk (fun he=>?_) (fun hne=>?_)
   ·have he':x % 2 = 1:=by
     have:Int.tmod (x:Int) 2 = 1:=by simpa using he
     rw [htm] at this; omega
    rw [xor1 x (by omega)]
    refine StoreN.whole (vs:=[.int .i64 (nt:Int),.int .i64 ((x ^^^ 1:Nat):Int)]) h41 rfl fun W5 h41' hc5 _=>?_
    refine hJ _ _ ⟨rfl,hN04.trans hc5 (fun _ _ h=>h) fun j hj he=>(by have he:j = b41:=he; omega),?_⟩
    unfold keyF
    rw [if_pos he']; exact h41'
   ·have he':¬ x % 2 = 1:=fun hh=>by
     have:(Int.tmod (x:Int) 2 == 1) = true:=by rw [htm,hh]; rfl
     rw [this] at hne; cases hne
    refine hJ _ _ ⟨rfl,hN04,?_⟩
    unfold keyF
    rw [if_neg he']; exact h41
 ·have hin:i = (wordF s).length:=by omega
  rw [hin,List.drop_eq_nil_of_le (Nat.le_refl _)] at hexp
  simp only [exprW,List.append_nil] at hexp
  refine ⟨(fo,0,()),rfl,by rw [hE],by rw [hE,← hexp]; exact hoW,hc0W,fun k hk=>?_⟩
  have:=hownW k hk
  have:=hc010.size
  omega
end Go.Proofs.YtffdjfkekdoeaaaDoor.Fo
end
section
set_option maxRecDepth 10000
namespace Go.Proofs.YtffdjfkekdoeaaaDoor
open Fw
noncomputable def cayleylaw21_sane.ann:Ann where
 loops:=fun | _=>[]
 joins:=fun | _=>none
noncomputable def cayleylaw21_sane.body:Code:=match Tryd.f14.body with | some c=>c | none=>.skip
def cayleylaw21_sane.sh  (R:Ending → World → Prop) (w:World):Prop:=
 New w (.cells #[(.string (ByteArray.mk #[97,97])),(.string (ByteArray.mk #[98]))] 9) fun b1 w2=>
 CallN Tryd.prog 12 #[(.int .i64 2),(.slice (some (Addr.mk b1 0 none)) 2 2)] [.agg [.int .i64,.int .i64,.sl,.sl],.sc (.int .i64)] w2 (fun r3 w4=>
  New w4 (.cells #[(.int .i64 0),(.int .i64 0),(.slice none 0 0),(.slice none 0 0)] 27) fun b6 w7=>
  StoreN w7 (Addr.mk b6 0 none) [(.int .i64 r3.1.1),(.int .i64 r3.1.2.1),(.slice r3.1.2.2.1.a r3.1.2.2.1.n r3.1.2.2.1.c),(.slice r3.1.2.2.2.1.a r3.1.2.2.2.1.n r3.1.2.2.2.1.c)] fun w8=>
  LoadT (.agg [.int .i64,.int .i64,.sl,.sl]) w8 (Addr.mk b6 0 none) fun x9=>
  CallN Tryd.prog 17 #[(.int .i64 2),(.agg #[(.int .i64 x9.1),(.int .i64 x9.2.1),(.slice x9.2.2.1.a x9.2.2.1.n x9.2.2.1.c),(.slice x9.2.2.2.1.a x9.2.2.2.1.n x9.2.2.2.1.c)])] [.sc .sl,.sc (.int .i64)] w8 (fun r10 w11=>
   LoadT (.agg [.int .i64,.int .i64,.sl,.sl]) w11 (Addr.mk b6 0 none) fun x13=>
   CallN Tryd.prog 21 #[(.int .i64 2),(.agg #[(.int .i64 x13.1),(.int .i64 x13.2.1),(.slice x13.2.2.1.a x13.2.2.1.n x13.2.2.1.c),(.slice x13.2.2.2.1.a x13.2.2.2.1.n x13.2.2.2.1.c)]),(.string (ByteArray.mk #[65,65,98]))] [.sc .sl,.sc (.int .i64)] w11 (fun r14 w15=>
    LoadT (.agg [.int .i64,.int .i64,.sl,.sl]) w15 (Addr.mk b6 0 none) fun x17=>
    CallN Tryd.prog 20 #[(.int .i64 2),(.agg #[(.int .i64 x17.1),(.int .i64 x17.2.1),(.slice x17.2.2.1.a x17.2.2.1.n x17.2.2.1.c),(.slice x17.2.2.2.1.a x17.2.2.2.1.n x17.2.2.2.1.c)]),(.string (ByteArray.mk #[97,97,98,65,65]))] [.sc .bool,.sc (.int .i64)] w15 (fun r18 w19=>
     LoadT (.agg [.int .i64,.int .i64,.sl,.sl]) w19 (Addr.mk b6 0 none) fun x21=>
     CallN Tryd.prog 20 #[(.int .i64 2),(.agg #[(.int .i64 x21.1),(.int .i64 x21.2.1),(.slice x21.2.2.1.a x21.2.2.1.n x21.2.2.1.c),(.slice x21.2.2.2.1.a x21.2.2.2.1.n x21.2.2.2.1.c)]),(.string (ByteArray.mk #[97]))] [.sc .bool,.sc (.int .i64)] w19 (fun r22 w23=>
      New w23 (.cells #[(.string (ByteArray.mk #[97,97])),(.string (ByteArray.mk #[98])),(.string (ByteArray.mk #[97,98,65]))] 9) fun b25 w26=>
      CallN Tryd.prog 12 #[(.int .i64 2),(.slice (some (Addr.mk b25 0 none)) 3 3)] [.agg [.int .i64,.int .i64,.sl,.sl],.sc (.int .i64)] w26 (fun r27 w28=>
       New w28 (.cells #[(.int .i64 0),(.int .i64 0),(.slice none 0 0),(.slice none 0 0)] 27) fun b30 w31=>
       StoreN w31 (Addr.mk b30 0 none) [(.int .i64 r27.1.1),(.int .i64 r27.1.2.1),(.slice r27.1.2.2.1.a r27.1.2.2.1.n r27.1.2.2.1.c),(.slice r27.1.2.2.2.1.a r27.1.2.2.2.1.n r27.1.2.2.2.1.c)] fun w32=>
       LoadT (.agg [.int .i64,.int .i64,.sl,.sl]) w32 (Addr.mk b30 0 none) fun x33=>
       CallN Tryd.prog 26 #[(.int .i64 2),(.agg #[(.int .i64 x33.1),(.int .i64 x33.2.1),(.slice x33.2.2.1.a x33.2.2.1.n x33.2.2.1.c),(.slice x33.2.2.2.1.a x33.2.2.2.1.n x33.2.2.2.1.c)])] [.sc (.int .i64),.sc (.int .i64)] w32 (fun r34 w35=>
        Br ((r3.2.1:Int) == 0)
         (Br ((r10.2.1:Int) == 0)
          (Br ((r14.2.1:Int) == 0)
           (Br ((r18.2.1:Int) == 0)
            (Br ((r22.2.1:Int) == 0)
             (Br ((r27.2.1:Int) == 0)
              (Br ((r34.2.1:Int) == 0)
               (LoadT (.sc .sl) w35 ((Addr.mk b6 0 none).add 2) fun x37=>
               Br ((((x37.n:Nat):Int):Int) == 2)
                (Br ((((r10.1.n:Nat):Int):Int) == 2)
                 (Idx r10.1.a r10.1.n 1 0 fun a38=>
                 LoadT (.sc .str) w35 a38 fun x39=>
                 Br (x39.toList == (ByteArray.mk #[98]).toList)
                  (Idx r10.1.a r10.1.n 1 1 fun a40=>
                  LoadT (.sc .str) w35 a40 fun x41=>
                  Br (x41.toList == (ByteArray.mk #[97,97]).toList)
                   (Br ((((r14.1.n:Nat):Int):Int) == 2)
                    (Idx r14.1.a r14.1.n 2 0 fun a42=>
                    LoadT (.agg [.int .i64,.bool]) w35 a42 fun x43=>
                    RunT Tryd.prog (.sc .bool) (do eqGuard .eql 83 (.tmp 107) (.tmp 108) (.agg #[(.int .i64 x43.1),(.bool x43.2.1)]) (.agg #[(.int .i64 1),(.bool true)]); binOp .eql 83 (.agg #[(.int .i64 x43.1),(.bool x43.2.1)]) (.agg #[(.int .i64 1),(.bool true)])) w35 fun r44 w45=>
                    Br r44
                     (Idx r14.1.a r14.1.n 2 1 fun a46=>
                     LoadT (.agg [.int .i64,.bool]) w45 a46 fun x47=>
                     RunT Tryd.prog (.sc .bool) (do eqGuard .eql 83 (.tmp 114) (.tmp 115) (.agg #[(.int .i64 x47.1),(.bool x47.2.1)]) (.agg #[(.int .i64 0),(.bool false)]); binOp .eql 83 (.agg #[(.int .i64 x47.1),(.bool x47.2.1)]) (.agg #[(.int .i64 0),(.bool false)])) w45 fun r48 w49=>
                     Br r48
                      (Br r18.1
                       (Br (!r22.1)
                        (R (.returned (.bool ((r34.1:Int) == 2))) w49)
                        (R (.returned (.bool false)) w49))
                       (R (.returned (.bool false)) w49))
                      (R (.returned (.bool false)) w49))
                     (R (.returned (.bool false)) w45))
                    (R (.returned (.bool false)) w35))
                   (R (.returned (.bool false)) w35))
                  (R (.returned (.bool false)) w35))
                 (R (.returned (.bool false)) w35))
                (R (.returned (.bool false)) w35))
               (R (.returned (.bool false)) w35))
              (R (.returned (.bool false)) w35))
             (R (.returned (.bool false)) w35))
            (R (.returned (.bool false)) w35))
           (R (.returned (.bool false)) w35))
          (R (.returned (.bool false)) w35))
         (R (.returned (.bool false)) w35)) (fun h36 w35=>R (.panicked h36) w35)) (fun h29 w28=>R (.panicked h29) w28)) (fun h24 w23=>R (.panicked h24) w23)) (fun h20 w19=>R (.panicked h20) w19)) (fun h16 w15=>R (.panicked h16) w15)) (fun h12 w11=>R (.panicked h12) w11)) (fun h5 w4=>R (.panicked h5) w4)
theorem cayleylaw21_sane.calls  {R:Ending → World → Prop} {w:World} (h:cayleylaw21_sane.sh  R w):Calls Tryd.prog 14 #[] w R:=calls_of_wpc mixed Tryd.func14 (by kernel_rfl) (by kernel_rfl) ((show _ = wpc Tryd.prog cayleylaw21_sane.ann cayleylaw21_sane.body (fnKs Tryd.prog Tryd.f14 R) [] (env0 #[]) w by kernel_rfl).mp h)
end Go.Proofs.YtffdjfkekdoeaaaDoor
end
section
set_option maxRecDepth 8000
set_option maxHeartbeats 4000000
namespace Go.Proofs.YtffdjfkekdoeaaaDoor.Fo
open Fw Wd
def autOf (m:Nat) (nexts:List Row):Aut:=⟨(m:Int),0,accF nexts.length,nexts.map (·.map ofO)⟩
def gens1:List ByteArray:=[⟨#[97,97]⟩,⟨#[98]⟩]
def gens2:List ByteArray:=[⟨#[97,97]⟩,⟨#[98]⟩,⟨#[97,98,65]⟩]
def nexts1:List Row:=[[some 1,some 1,some 0,some 0],[some 0,some 0,none,none]]
def nexts2:List Row:=[[some 1,some 1,some 0,some 0],[some 0,some 0,some 1,some 1]]
theorem fold1:FoldF 40 2 gens1 = some (.ok 4 nexts1):=by kernel_rfl
theorem fold2:FoldF 40 2 gens2 = some (.ok 4 nexts2):=by kernel_rfl
theorem basis1:basisF 2 (autOf 4 nexts1) = ([⟨#[98]⟩,⟨#[97,97]⟩],0):=by kernel_rfl
theorem express1:expressF 2 (autOf 4 nexts1) ⟨#[65,65,98]⟩ = ([(1,true,()),(0,false,())],0):=by kernel_rfl
theorem member1:memberF 2 (autOf 4 nexts1) ⟨#[97,97,98,65,65]⟩ = (true,0):=by kernel_rfl
theorem member2:memberF 2 (autOf 4 nexts1) ⟨#[97]⟩ = (false,0):=by kernel_rfl
theorem index2:indexF 2 (autOf 4 nexts2) = (2,0):=by kernel_rfl
theorem Fold_callN {w:World} (hl:Laid w) {sl:Sl} {gens:List ByteArray} (hg:RdT w (.sc .str) sl gens) (hsum:sizes gens ≤ 4611686018427387904) (hlen:gens.length ≤ 4611686018427387904) {K:Nat} {k:Int} {m:Nat} {nexts:List Row} (hf:FoldF K k gens = some (.ok m nexts)) (hml:nexts.length ≤ maxLen) (hrl:∀ r ∈ nexts,r.length ≤ maxLen)
  {Kn:(Int × Int × Sl × Sl × Unit) × Int × Unit → World → Prop} {Kp:List PanicEntry → World → Prop} (hk:∀ x w',AutIn w' x (autOf m nexts) → Chg Nil w w' → (∀ k,w.heap.size ≤ k ∨ True) → Kn (x,0,()) w') :
  CallN Tryd.prog 12 #[.int .i64 k,sl.v] [.agg [.int .i64,.int .i64,.sl,.sl],.sc (.int .i64)] w Kn Kp:=by
 refine Calls.mono (Fold_ret hl hg (fun _=>hsum) (by omega) hf) fun e w' he=>?_
 obtain ⟨hc,sa,sn,rfl,hA⟩:=he
 refine ⟨(((m:Int),0,sa,sn,()),0,()),rfl,hk _ _ ⟨rfl,rfl,hA.zero,?_,?_,?_⟩ hc fun _=>.inr trivial⟩
 ·show (accF nexts.length).length ≤ maxLen
  rw [accF,List.length_map,List.length_range]; exact hml
 ·show (nexts.map (·.map ofO)).length ≤ maxLen
  rw [List.length_map]; exact hml
 ·intro r hr
  obtain ⟨r',hr',rfl⟩:=List.mem_map.1 hr
  rw [List.length_map]; exact hrl r' hr'
theorem rd_lit {w:World} {b n c:Nat} {t:Ty} {e:TypeId} {xs:List t.den} {cs:Array Value} {f:Nat × Nat} (h:w.heap[b]? = some (.cells cs e f)) (hc:cs.toList = xs.flatMap t.cells) (hn:n = xs.length):RdT w t ⟨some ⟨b,0,none⟩,n,c⟩ xs:=
 ⟨hn,fun i x hx=>⟨_,rfl,fun j v hv=>by
  have hj:j < t.sz:=by rw [← Ty.cells_length t x]; exact (List.getElem?_eq_some_iff.1 hv).1
  rw [add_add,cellOf h,← Array.getElem?_toList,hc,flat_get t xs i j x hx hj]; exact hv⟩⟩
theorem factor_eq (w:World) (x y:Operand) (a c:Int) (b d:Bool):(do eqGuard .eql 83 x y (.agg #[.int .i64 a,.bool b]) (.agg #[.int .i64 c,.bool d]); binOp .eql 83 (.agg #[.int .i64 a,.bool b]) (.agg #[.int .i64 c,.bool d]):Sem Value).run Tryd.prog w = .ok (.bool (a == c && b == d)) w:=by
 have u4:Tryd.prog.underlying 4 = some .bool:=by kernel_rfl
 have hf:Tryd.prog.underlying 83 = some (.struct (Tryd.prog.fieldsOf 83)):=by kernel_rfl
 have hp:Tryd.prog.stoodInHeld 83 = false:=by kernel_rfl
 have hm:Tryd.prog.eqGuardType Tryd.prog.depth 83 = false:=by kernel_rfl
 have hfl : (Tryd.prog.fieldsOf 83).toList.map (fun f => (f.name == "_", f.type, f.offset)) = [(false, 3, 0), (false, 4, 1)] := by kernel_rfl
 rw [Sem.run_bind,run_eqGuard_agg (hm:=hm)]
 simp only [Result.andThen_ok]
 rw [run_eql_struct,show (10000:Nat) = 9999 + 1 from rfl,run_equalIn_struct w 9999 83 _ _ hf hp]
 generalize (Tryd.prog.fieldsOf 83).toList = fs at hfl
 rcases fs with _ | ⟨f,_ | ⟨g,_ | ⟨h,fs⟩⟩⟩
 ·simp at hfl
 ·simp at hfl
 ·simp only [List.map_cons,List.map_nil,List.cons.injEq,Prod.mk.injEq,and_true] at hfl
  obtain ⟨⟨n1,t1,o1⟩,n2,t2,o2⟩:=hfl
  have n1' : f.name ≠ "_" := by simpa using n1
  have n2' : g.name ≠ "_" := by simpa using n2
  have p0:∀ (p:Int) (q:Value),(part 3 #[.int .i64 p,q] 0).run Tryd.prog w = .ok (.int .i64 p) w:=fun p q=>by simp [part,isAgg,run_underlying under3]
  have p1:∀ (p:Value) (q:Bool),(part 4 #[p,.bool q] 1).run Tryd.prog w = .ok (.bool q) w:=fun p q=>by simp [part,isAgg,run_underlying u4]
  have e1:(Op.equalIn 9999 3 (.int .i64 a) (.int .i64 c)).run Tryd.prog w = .ok (a == c) w:=run_equalIn_int w 9998 3 .i64 .i64 a c under3
  have e2:(Op.equalIn 9999 4 (.bool b) (.bool d)).run Tryd.prog w = .ok (b == d) w:=run_equalIn_bool' w 9998 4 b d u4
  simp only [Op.eqFields,if_pos n1',if_pos n2',t1,t2,o1,o2,Sem.run_bind,p0,p1,e1,e2,Result.andThen_ok]
  generalize (a == c) = r
  cases r <;> cases b <;> cases d <;> simp [p1,e2,Sem.run_bind]
 ·simp at hfl
theorem sane_ret {w:World} (hl:Laid w):Ret Tryd.prog 14 #[] (.sc .bool) w fun x w'=>x = true ∧ Chg Nil w w':=by
 refine cayleylaw21_sane.calls ?_
 unfold cayleylaw21_sane.sh
 refine New.mk fun b1 w1 hb1 hn1 hs1 hc1=>?_
 refine Fold_callN (gens:=gens1) (sl:=⟨some ⟨b1,0,none⟩,2,2⟩) (hl.nil hc1) (rd_lit hn1 rfl rfl) (by decide) (by decide) fold1 (by decide) (by decide) fun x w2 hA hc2 _=>?_
 obtain ⟨y1,y2,ya,yn,_⟩:=x
 dsimp only
 refine New.mk fun b6 w3 hb6 hn6 _ hc6=>?_
 refine StoreN.whole (vs:=[.int .i64 y1,.int .i64 y2,ya.v,yn.v]) hn6 rfl fun w4 h6 hc6' _=>?_
 have s1:=hc1.size
 have hN4:Chg Nil w2 w4:=hc6.trans hc6' (fun _ _ h=>h) fun i hi he=>by have he:i = b6:=he; omega
 have hc04:=(hc1.then hc2).then hN4
 have hA4:=hA.nil hN4
 have ld6:∀ {W:World},Chg Nil w4 W → ∀ {K:tA.den → Prop},K (y1,y2,ya,yn,()) → LoadT tA W (Addr.mk b6 0 none) K:=fun hW K k=>LoadT.mk tA (fun j v hv=>by rw [cellOf (hW.heap h6 fun h=>h)]; simpa [Ty.cells] using hv) k
 refine ld6 (Chg.refl _) ?_
 refine RetN.call (Basis_ret (k:=2) (hl.nil hc04) hA4) ?_
 rintro ⟨r1,r2,_⟩ w5 ⟨q1,q2,hc5,_⟩
 rw [basis1] at q1 q2
 have q1:r2 = 0:=q1
 subst q1
 refine ld6 hc5 ?_
 refine RetN.call (Express_ret (k:=2) (hl.nil (hc04.then hc5)) (hA4.nil hc5) _) ?_
 rintro ⟨r3,r4,_⟩ w6 ⟨q3,q4,hc6,_⟩
 rw [express1] at q3 q4
 have q3:r4 = 0:=q3
 subst q3
 have hc56:=hc5.then hc6
 refine ld6 hc56 ?_
 refine RetN.call (Member_ret (k:=2) (hl.nil (hc04.then hc56)) (hA4.nil hc56) _) ?_
 rintro _ w7 ⟨rfl,hc7⟩
 rw [member1]
 have hc57:=hc56.then hc7
 refine ld6 hc57 ?_
 refine RetN.call (Member_ret (k:=2) (hl.nil (hc04.then hc57)) (hA4.nil hc57) _) ?_
 rintro _ w8 ⟨rfl,hc8⟩
 rw [member2]
 have hc58:=hc57.then hc8
 refine New.mk fun b25 w9 hb25 hn25 _ hc25=>?_
 have hc59:=hc58.then hc25
 refine Fold_callN (gens:=gens2) (sl:=⟨some ⟨b25,0,none⟩,3,3⟩) (hl.nil (hc04.then hc59)) (rd_lit hn25 rfl rfl) (by decide) (by decide) fold2 (by decide) (by decide) fun x w10 hA2 hc10 _=>?_
 obtain ⟨z1,z2,za,zn,_⟩:=x
 dsimp only
 refine New.mk fun b30 w11 hb30 hn30 _ hc30=>?_
 refine StoreN.whole (vs:=[.int .i64 z1,.int .i64 z2,za.v,zn.v]) hn30 rfl fun w12 h30 hc30' _=>?_
 have hN12:Chg Nil w10 w12:=hc30.trans hc30' (fun _ _ h=>h) fun i hi he=>by have he:i = b30:=he; omega
 have hc512:=(hc59.then hc10).then hN12
 refine LoadT.mk tA (x:=(z1,z2,za,zn,())) (fun j v hv=>by rw [cellOf h30]; simpa [Ty.cells] using hv) ?_
 refine RetN.call (Index_ret (k:=2) (hl.nil (hc04.then hc512)) (hA2.nil hN12)) ?_
 rintro _ w13 ⟨rfl,hc13⟩
 rw [index2]
 have hc513:=hc512.then hc13
 have hfin:=hc04.then hc513
 refine Br.t rfl (Br.t rfl (Br.t rfl (Br.t rfl (Br.t rfl (Br.t rfl (Br.t rfl ?_))))))
 refine LoadT.sc (s:=.sl) (x:=ya) (by rw [cellOf (hc513.heap h6 fun h=>h)]; rfl) ?_
 have e1:ya.n = 2:=hA.rd.acc.len
 have e2:r1.n = 2:=q2.len
 have e3:r3.n = 2:=q4.len
 have hb13:OwnT w13 9 tS r1 [⟨#[98]⟩,⟨#[97,97]⟩]:=q2.chg ((((((hc6.then hc7).then hc8).then hc25).then hc10).then hN12).then hc13) fun _ _ h=>h
 have hx13:OwnT w13 83 tF r3 [(1,true,()),(0,false,())]:=q4.chg (((((hc7.then hc8).then hc25).then hc10).then hN12).then hc13) fun _ _ h=>h
 refine Br.t (by rw [e1]; rfl) (Br.t (by rw [e2]; rfl) ?_)
 refine hb13.rd.get (t:=tS) 0 rfl (x:=⟨#[98]⟩) rfl (Br.t (beq_self_eq_true _) ?_)
 refine hb13.rd.get (t:=tS) 1 rfl (x:=⟨#[97,97]⟩) rfl (Br.t (beq_self_eq_true _) ?_)
 refine Br.t (by rw [e3]; rfl) ?_
 refine hx13.rd.get (t:=tF) 0 rfl (x:=(1,true,())) rfl ?_
 refine ⟨true,w13,factor_eq w13 _ _ 1 1 true true,Br.t rfl ?_⟩
 refine hx13.rd.get (t:=tF) 1 rfl (x:=(0,false,())) rfl ?_
 refine ⟨true,w13,factor_eq w13 _ _ 0 0 false false,Br.t rfl (Br.t rfl (Br.t rfl ⟨true,rfl,rfl,hfin⟩))⟩
end Go.Proofs.YtffdjfkekdoeaaaDoor.Fo
end
section
set_option maxRecDepth 8000
set_option maxHeartbeats 4000000
namespace Go.Proofs.YtffdjfkekdoeaaaDoor.Fo
open Go.ChangeShapes Go.WideShapes Go.ChangeAt Go.Deep
open Fw Wd
theorem own:ownKnob Tryd.prog.godebug = none:=by kernel_rfl
theorem laidOut:laidOutB Tryd.prog = true:=by kernel_rfl
abbrev laidL : List (String × DataW Unit) := [("cayley/word.letters", Rows.laid_cayley_word_letters)]
theorem door_met (os:Os) (args:Array Value):laidMetH Tryd.prog laidL ((World.doorLaid Tryd.prog 14 os).forCall (fun _ _=>0) ⟨#[],args,[]⟩).memory:=
 laidMetH_of_parts3 (fuel:=8) (laidMet_of_run' 8 (by kernel_rfl) (by kernel_rfl)) (by kernel_rfl) (by kernel_rfl)
theorem laid_of {W:World} (h:laidMetH Tryd.prog laidL W):Laid W:=by
 have h:laidMet Tryd.prog laidL W:=h
 have h2 : Lib.TabIs Tryd.prog W "cayley/word.letters" .u8 lets := Lib.tabIs_of_head (P := Tryd.prog) (k := .u8) (zs := lets) (g := 0) (t := 135) (e := 5) (n := 16) (by kernel_rfl) (by kernel_rfl) under135 under5 (by kernel_rfl) (by kernel_rfl) h
 have hg : Tryd.prog.globalNamed "cayley/word.letters" = some 0 := by kernel_rfl
 unfold Lib.TabIs World.var? at h2
 rw [hg] at h2
 simp only [Option.bind_some] at h2
 split at h2
 ·rename_i cs t fr hh
  simp only [Option.some.injEq] at h2
  subst h2
  exact ⟨t,fr,hh⟩
 ·cases h2
theorem under24:Tryd.prog.underlying 24 = some (.slice 4):=by kernel_rfl
theorem under25:Tryd.prog.underlying 25 = some (.slice 85):=by kernel_rfl
theorem under4:Tryd.prog.underlying 4 = some .bool:=by kernel_rfl
theorem list_ofFn_get {α:Type} (n:Nat) (f:Nat → α) (i:Nat) (x:α) (h:((List.range n).map f)[i]? = some x):i < n ∧ x = f i:=by
 rw [List.getElem?_map] at h
 cases hr:(List.range n)[i]? with
 | none=>rw [hr] at h; cases h
 | some j=>
  rw [hr] at h
  have hi:i < n:=by simpa using (List.getElem?_eq_some_iff.1 hr).1
  rw [List.getElem?_range hi] at hr
  cases hr
  exact ⟨hi,by simpa using h.symm⟩
theorem rd_bools {H:Type} {enc:TypeId × Value → H} {W:World} {held:Bool} {fuel:Nat} {v:Value} {y:DataW H × List MemPlace} (h:DataW.trod enc Tryd.prog W 0 (fun _=>true) held fuel 24 [v] = some y) :
  ∃ (s:Sl) (l:List Bool),v = s.v ∧ RdT W (.sc .bool) s l ∧ l.length ≤ maxLen:=by
 rcases open_bools under24 under4 (by kernel_rfl) h with ⟨hv,_⟩ | ⟨a,len,cap,B,hv,_,hl,hm,_,hc⟩
 ·simp only [List.cons.injEq,and_true] at hv
  subst hv
  exact ⟨⟨none,0,0⟩,[],rfl,RdT.nil _ _ _ _,Nat.zero_le _⟩
 ·simp only [List.cons.injEq,and_true] at hv
  subst hv
  refine ⟨⟨some a,len,cap⟩,(List.range len).map B,rfl,⟨by simp,fun i x hx=>⟨a,rfl,fun j u hu=>?_⟩⟩,by simp; omega⟩
  obtain ⟨hi,rfl⟩:=list_ofFn_get len B i x hx
  cases j with
  | succ j=>simp [Ty.cells] at hu
  | zero=>
   simp only [Ty.cells,List.getElem?_cons_zero,Option.some.injEq] at hu
   subst hu
   rw [add0,show i * Ty.sz (.sc .bool) = i by simp [Ty.sz]]
   exact hc i (by omega)
theorem rd_rows {H:Type} {enc:TypeId × Value → H} {W:World} {held:Bool} {fuel:Nat} {v:Value} {y:DataW H × List MemPlace} (h:DataW.trod enc Tryd.prog W 0 (fun _=>true) held fuel 25 [v] = some y) :
  ∃ (s:Sl) (sls:List Sl) (l:List (List Int)),v = s.v ∧ RdT W (.sc .sl) s sls ∧ sls.length = l.length ∧ (∀ (i:Nat) (s:Sl) (r:List Int),sls[i]? = some s → l[i]? = some r → RdT W tI s r) ∧ l.length ≤ maxLen ∧ ∀ r ∈ l,r.length ≤ maxLen:=by
 rcases open_int_rows under25 under85 under3 (by kernel_rfl) (by kernel_rfl) h with ⟨hv,_⟩ | ⟨a,len,cap,A,L,C,Z,hv,_,hl,hm,_,hc⟩
 ·simp only [List.cons.injEq,and_true] at hv
  subst hv
  exact ⟨⟨none,0,0⟩,[],[],rfl,RdT.nil _ _ _ _,rfl,fun i s r hi=>by simp at hi,Nat.zero_le _,by simp⟩
 ·simp only [List.cons.injEq,and_true] at hv
  subst hv
  refine ⟨⟨some a,len,cap⟩,(List.range len).map fun r=>⟨A r,L r,C r⟩,(List.range len).map fun r=>(Z r).take (L r),rfl,⟨by simp,fun i x hx=>⟨a,rfl,fun j u hu=>?_⟩⟩,by simp,fun i s r hs hr=>?_,by simp; omega,fun r hr=>?_⟩
  ·obtain ⟨hi,rfl⟩:=list_ofFn_get len _ i x hx
   cases j with
   | succ j=>simp [Ty.cells] at hu
   | zero=>
    simp only [Ty.cells,List.getElem?_cons_zero,Option.some.injEq] at hu
    subst hu
    rw [add0,show i * Ty.sz (.sc .sl) = i by simp [Ty.sz]]
    exact (hc i (by omega)).1
  ·obtain ⟨hi,rfl⟩:=list_ofFn_get len _ i s hs
   obtain ⟨_,rfl⟩:=list_ofFn_get len _ i r hr
   obtain ⟨_,q1,q2,q3,_,q5,q6⟩:=hc i (by omega)
   refine ⟨by simp; omega,fun j x hx=>?_⟩
   rw [List.getElem?_take] at hx
   split at hx
   ·rename_i hj
    cases hA:A i with
    | none=>have:=q5 hA; omega
    | some a'=>
     refine ⟨a',rfl,fun m u hu=>?_⟩
     cases m with
     | succ m=>simp [Ty.cells] at hu
     | zero=>
      simp only [Ty.cells,List.getElem?_cons_zero,Option.some.injEq] at hu
      subst hu
      rw [add0,show j * Ty.sz tI = j by simp [Ty.sz]]
      have:=(q6 a' hA).2 j (by omega)
      rw [this,List.getD_eq_getElem?_getD,hx]; rfl
   ·cases hx
  ·obtain ⟨i,hi,rfl⟩:=List.mem_map.1 hr
   obtain ⟨_,q1,q2,q3,_⟩:=hc i (by have:=List.mem_range.1 hi; omega)
   simp; omega
theorem open_aut {H:Type} {enc:TypeId × Value → H} {W:World} {base:Nat} {v:Value} {d:DataW H} {p:List MemPlace} (hv:Value.okWide Tryd.prog W .any base 27 v) (h:DataW.Trod enc Tryd.prog W 0 (fun _=>true) true 27 v d p) :
  ∃ (x:Int × Int × Sl × Sl × Unit) (a:Aut),v = .agg #[.int .i64 x.1,.int .i64 x.2.1,x.2.2.1.v,x.2.2.2.1.v] ∧ AutIn W x a:=by
 have hs:Tryd.prog.underlying 27 = some (.struct (Tryd.prog.fieldsOf 27)):=by kernel_rfl
 have hone:oneCellFields Tryd.prog (Tryd.prog.fieldsOf 27) = true:=by kernel_rfl
 have hC:Tryd.prog.cellsOf 27 = 4:=by kernel_rfl
 have hty:(Tryd.prog.fieldsOf 27).map (·.type) = #[3,3,24,25]:=by kernel_rfl
 have c4:Tryd.prog.cellsOf 4 = 1:=by kernel_rfl
 have c85:Tryd.prog.cellsOf 85 = 1:=by kernel_rfl
 have c3:Tryd.prog.cellsOf 3 = 1:=by kernel_rfl
 obtain ⟨f0,f1,f2,f3,hf⟩:=Joins.array4 (cs:=Tryd.prog.fieldsOf 27) (by kernel_rfl)
 rw [hf] at hs hone hty
 simp only [List.map_toArray,List.map_cons,List.map_nil,Array.mk.injEq,List.cons.injEq,and_true] at hty
 obtain ⟨t0,t1,t2,t3⟩:=hty
 obtain ⟨v0,v1,v2,v3,y0,y1,y2,y3,n,rfl,rfl,rfl,h0,h1,h2,h3⟩:=Joins.open_agg4 hs hone hC hv h
 rw [t0] at h0
 rw [t1] at h1
 rw [t2] at h2
 rw [t3] at h3
 obtain ⟨k0,e0,_⟩:=DataW.trod_int under3 h0
 obtain ⟨k1,e1,_⟩:=DataW.trod_int under3 h1
 simp only [List.cons.injEq,and_true] at e0 e1
 obtain ⟨sa,acc,rfl,hacc,hl⟩:=rd_bools h2
 obtain ⟨sn,sls,next,rfl,hn,hsl,hrow,hln,hlr⟩:=rd_rows h3
 subst e0; subst e1
 exact ⟨(k0,k1,sa,sn,()),⟨k0,k1,acc,next⟩,rfl,rfl,rfl,⟨hacc,fun _ _=>Nat.zero_le _,fun _ _=>Nat.zero_le _,sls,hn,hsl,hrow,fun _ _ _ _=>Nat.zero_le _⟩,hl,hln,hlr⟩
end Go.Proofs.YtffdjfkekdoeaaaDoor.Fo
end
section
set_option maxRecDepth 10000
namespace Go.Proofs.YtffdjfkekdoeaaaDoor
open Fw
noncomputable def cayleyref01_Index.ann:Ann where
 loops:=fun | _=>[]
 joins:=fun | 2=>some [(0,.sc (.int .u8)),(8,.sc .bool)] | 4=>some [(0,.sc (.int .u8)),(18,.sc .bool)] | _=>none
noncomputable def cayleyref01_Index.body:Code:=match Tryd.f61.body with | some c=>c | none=>.skip
def cayleyref01_Index.sh (p0:Int) (R:Ending → World → Prop) (w:World):Prop:=
 Join (σ:=Int × Bool × Unit) (fun j3 g2 w4=>
  Br j3.2.1
   (RunT Tryd.prog (.sc (.int .i64)) (convert 5 3 (.int .u8 (IntKind.wrap .u8 (j3.1 - 97)))) w4 fun r5 w6=>
   R (.returned (.int .i64 (IntKind.wrap .i64 (2 * r5)))) w6)
   (Join (σ:=Int × Bool × Unit) (fun j9 g8 w10=>
    Br j9.2.1
     (RunT Tryd.prog (.sc (.int .i64)) (convert 5 3 (.int .u8 (IntKind.wrap .u8 (j9.1 - 65)))) w10 fun r11 w12=>
     R (.returned (.int .i64 (IntKind.wrap .i64 ((IntKind.wrap .i64 (2 * r11)) + 1)))) w12)
     (R (.returned (.int .i64 (-1))) w10)) fun J7=>
    Br (decide ((j3.1:Int) ≥ 65))
     (J7 (j3.1,(decide ((j3.1:Int) < 73)),()) w4)
     (J7 (j3.1,false,()) w4))) fun J1=>
  Br (decide ((p0:Int) ≥ 97))
   (J1 (p0,(decide ((p0:Int) < 105)),()) w)
   (J1 (p0,false,()) w)
theorem cayleyref01_Index.calls (p0:Int) {R:Ending → World → Prop} {w:World} (h:cayleyref01_Index.sh p0 R w):Calls Tryd.prog 61 #[(.int .u8 p0)] w R:=calls_of_wpc mixed Tryd.func61 (by kernel_rfl) (by kernel_rfl) ((show _ = wpc Tryd.prog cayleyref01_Index.ann cayleyref01_Index.body (fnKs Tryd.prog Tryd.f61 R) [] (env0 #[(.int .u8 p0)]) w by kernel_rfl).mp h)
noncomputable def cayleyref01_Letter.ann:Ann where
 loops:=fun | _=>[]
 joins:=fun | 3=>some [(0,.sc (.int .i64))] | _=>none
noncomputable def cayleyref01_Letter.body:Code:=match Tryd.f65.body with | some c=>c | none=>.skip
def cayleyref01_Letter.sh (p0:Int) (R:Ending → World → Prop) (w:World):Prop:=
 Join (σ:=Int × Unit) (fun j3 g2 w4=>
  (2:Int) ≠ 0 ∧
  Br (((Int.tmod j3.1 2):Int) == 0)
   ((2:Int) ≠ 0 ∧
   RunT Tryd.prog (.sc (.int .u8)) (convert 3 5 (.int .i64 (IntKind.wrap .i64 (Int.tdiv j3.1 2)))) w4 fun r5 w6=>
   R (.returned (.int .u8 (IntKind.wrap .u8 (97 + r5)))) w6)
   ((2:Int) ≠ 0 ∧
   RunT Tryd.prog (.sc (.int .u8)) (convert 3 5 (.int .i64 (IntKind.wrap .i64 (Int.tdiv j3.1 2)))) w4 fun r7 w8=>
   R (.returned (.int .u8 (IntKind.wrap .u8 (65 + r7)))) w8)) fun J1=>
  Br (decide ((p0:Int) < 0))
   (Br true
    (R (.returned (.int .u8 0)) w)
    (J1 (p0,()) w))
   (Br (decide ((p0:Int) ≥ 16))
    (R (.returned (.int .u8 0)) w)
    (J1 (p0,()) w))
theorem cayleyref01_Letter.calls (p0:Int) {R:Ending → World → Prop} {w:World} (h:cayleyref01_Letter.sh p0 R w):Calls Tryd.prog 65 #[(.int .i64 p0)] w R:=calls_of_wpc mixed Tryd.func65 (by kernel_rfl) (by kernel_rfl) ((show _ = wpc Tryd.prog cayleyref01_Letter.ann cayleyref01_Letter.body (fnKs Tryd.prog Tryd.f65 R) [] (env0 #[(.int .i64 p0)]) w by kernel_rfl).mp h)
noncomputable def cayleyref01_Check.ann:Ann where
 loops:=fun | 6=>[(0,.sc (.int .i64)),(1,.sc .str),(5,.sc (.int .i64))] | _=>[]
 joins:=fun | 3=>some [(0,.sc (.int .i64)),(1,.sc .str)] | _=>none
noncomputable def cayleyref01_Check.body:Code:=match Tryd.f60.body with | some c=>c | none=>.skip
def cayleyref01_Check.sh (p0:Int) (p1:ByteArray) (R:Ending → World → Prop) (w:World):Prop:=
 Join (σ:=Int × ByteArray × Unit) (fun j3 g2 w4=>
  Br (decide ((((j3.2.1.size:Nat):Int):Int) > 100000))
   (R (.returned (.int .i64 2)) w4)
   (LoopT (σ:=Int × ByteArray × Int × Unit) (j3.1,j3.2.1,0,()) w4 fun l5 g6 w7 I8=>
    Br (decide ((l5.2.2.1:Int) < ((l5.2.1.size:Nat):Int)))
     (StrIdx l5.2.1 l5.2.2.1 fun c9=>
     CallT Tryd.prog 61 #[(.int .u8 c9)] (.sc (.int .i64)) w7 (fun r10 w11=>
      Br (decide ((r10:Int) < 0))
       (Br true
        (R (.returned (.int .i64 4)) w11)
        (I8 (l5.1,l5.2.1,(IntKind.wrap .i64 (l5.2.2.1 + 1)),()) w11))
       (Br (decide ((r10:Int) ≥ (IntKind.wrap .i64 (2 * l5.1))))
        (R (.returned (.int .i64 4)) w11)
        (I8 (l5.1,l5.2.1,(IntKind.wrap .i64 (l5.2.2.1 + 1)),()) w11))) (fun h12 w11=>R (.panicked h12) w11))
     (R (.returned (.int .i64 0)) w7))) fun J1=>
  Br (decide ((p0:Int) < 1))
   (Br true
    (R (.returned (.int .i64 1)) w)
    (J1 (p0,p1,()) w))
   (Br (decide ((p0:Int) > 8))
    (R (.returned (.int .i64 1)) w)
    (J1 (p0,p1,()) w))
theorem cayleyref01_Check.calls (p0:Int) (p1:ByteArray) {R:Ending → World → Prop} {w:World} (h:cayleyref01_Check.sh p0 p1 R w):Calls Tryd.prog 60 #[(.int .i64 p0),(.string p1)] w R:=calls_of_wpc mixed Tryd.func60 (by kernel_rfl) (by kernel_rfl) ((show _ = wpc Tryd.prog cayleyref01_Check.ann cayleyref01_Check.body (fnKs Tryd.prog Tryd.f60 R) [] (env0 #[(.int .i64 p0),(.string p1)]) w by kernel_rfl).mp h)
noncomputable def cayleyref01_Is.ann:Ann where
 loops:=fun | _=>[]
 joins:=fun | _=>none
noncomputable def cayleyref01_Is.body:Code:=match Tryd.f53.body with | some c=>c | none=>.skip
def cayleyref01_Is.sh (p0:ByteArray) (R:Ending → World → Prop) (w:World):Prop:=
 CallT Tryd.prog 60 #[(.int .i64 8),(.string p0)] (.sc (.int .i64)) w (fun r1 w2=>
  R (.returned (.bool ((r1:Int) == 0))) w2) (fun h3 w2=>R (.panicked h3) w2)
theorem cayleyref01_Is.calls (p0:ByteArray) {R:Ending → World → Prop} {w:World} (h:cayleyref01_Is.sh p0 R w):Calls Tryd.prog 53 #[(.string p0)] w R:=calls_of_wpc mixed Tryd.func53 (by kernel_rfl) (by kernel_rfl) ((show _ = wpc Tryd.prog cayleyref01_Is.ann cayleyref01_Is.body (fnKs Tryd.prog Tryd.f53 R) [] (env0 #[(.string p0)]) w by kernel_rfl).mp h)
noncomputable def cayleyref01_Other.ann:Ann where
 loops:=fun | _=>[]
 joins:=fun | _=>none
noncomputable def cayleyref01_Other.body:Code:=match Tryd.f54.body with | some c=>c | none=>.skip
def cayleyref01_Other.sh (p0:Int) (R:Ending → World → Prop) (w:World):Prop:=
 CallT Tryd.prog 61 #[(.int .u8 p0)] (.sc (.int .i64)) w (fun r1 w2=>
  CallT Tryd.prog 65 #[(.int .i64 (Go.bits .xor .i64 r1 1))] (.sc (.int .u8)) w2 (fun r4 w5=>
   R (.returned (.int .u8 r4)) w5) (fun h6 w5=>R (.panicked h6) w5)) (fun h3 w2=>R (.panicked h3) w2)
theorem cayleyref01_Other.calls (p0:Int) {R:Ending → World → Prop} {w:World} (h:cayleyref01_Other.sh p0 R w):Calls Tryd.prog 54 #[(.int .u8 p0)] w R:=calls_of_wpc mixed Tryd.func54 (by kernel_rfl) (by kernel_rfl) ((show _ = wpc Tryd.prog cayleyref01_Other.ann cayleyref01_Other.body (fnKs Tryd.prog Tryd.f54 R) [] (env0 #[(.int .u8 p0)]) w by kernel_rfl).mp h)
noncomputable def cayleyref01_Reduce.ann:Ann where
 loops:=fun | 5=>[(0,.sc .str),(3,.sc .sl),(4,.sc (.int .i64))] | _=>[]
 joins:=fun | 9=>some [(0,.sc .str),(3,.sc .sl),(4,.sc (.int .i64)),(5,.sc (.int .i64)),(30,.sc .bool)] | _=>none
noncomputable def cayleyref01_Reduce.body:Code:=match Tryd.f25.body with | some c=>c | none=>.skip
def cayleyref01_Reduce.sh (p0:ByteArray) (R:Ending → World → Prop) (w:World):Prop:=
 CallT Tryd.prog 53 #[(.string p0)] (.sc .bool) w (fun r1 w2=>
  Br (!r1)
   (R (.returned (.string (ByteArray.mk #[]))) w2)
   (LoopT (σ:=ByteArray × Sl × Int × Unit) (p0,⟨none,0,0⟩,0,()) w2 fun l4 g5 w6 I7=>
    Br (decide ((l4.2.2.1:Int) < ((l4.1.size:Nat):Int)))
     (Join (σ:=ByteArray × Sl × Int × Int × Bool × Unit) (fun j10 g9 w18=>
      Br j10.2.2.2.2.1
       (RunT Tryd.prog (.sc .sl) (Instr.sliceAt 87 (.slice j10.2.1.a j10.2.1.n j10.2.1.c) none (some (.int .i64 (IntKind.wrap .i64 (j10.2.2.2.1 - 1)))) none) w18 fun r19 w20=>
       I7 (j10.1,r19,(IntKind.wrap .i64 (j10.2.2.1 + 1)),()) w20)
       (StrIdx j10.1 j10.2.2.1 fun c21=>
       New w18 (.cells #[(.int .u8 c21)] 5) fun b22 w23=>
       RunT Tryd.prog (.sc .sl) (Builtin.append_ #[87,87] 87 #[(.slice j10.2.1.a j10.2.1.n j10.2.1.c),(.slice (some (Addr.mk b22 0 none)) 1 1)]) w23 fun r24 w25=>
       I7 (j10.1,r24,(IntKind.wrap .i64 (j10.2.2.1 + 1)),()) w25)) fun J8=>
      ∃ S11:World → Prop,S11 w6.drew ∧
      (Br (decide ((((l4.2.1.n:Nat):Int):Int) > 0))
       (Idx l4.2.1.a l4.2.1.n 1 (IntKind.wrap .i64 (((l4.2.1.n:Nat):Int) - 1)) fun a12=>
       LoadS S11 (.sc (.int .u8)) a12 fun x13=>
       StrIdx l4.1 l4.2.2.1 fun c14=>
       CallT Tryd.prog 54 #[(.int .u8 c14)] (.sc (.int .u8)) w6.drew (fun r15 w16=>
         S11 w16 ∧
         (J8 (l4.1,l4.2.1,l4.2.2.1,((l4.2.1.n:Nat):Int),((x13:Int) == r15),()) w16)) (fun h17 w16=>R (.panicked h17) w16))
       (J8 (l4.1,l4.2.1,l4.2.2.1,((l4.2.1.n:Nat):Int),false,()) w6.drew)))
     (RunT Tryd.prog (.sc .str) (convert 87 9 (.slice l4.2.1.a l4.2.1.n l4.2.1.c)) w6 fun r26 w27=>
     R (.returned (.string r26)) w27))) (fun h3 w2=>R (.panicked h3) w2)
theorem cayleyref01_Reduce.calls (p0:ByteArray) {R:Ending → World → Prop} {w:World} (h:cayleyref01_Reduce.sh p0 R w):Calls Tryd.prog 25 #[(.string p0)] w R:=calls_of_wpc mixed Tryd.func25 (by kernel_rfl) (by kernel_rfl) ((show _ = wpc Tryd.prog cayleyref01_Reduce.ann cayleyref01_Reduce.body (fnKs Tryd.prog Tryd.f25 R) [] (env0 #[(.string p0)]) w by kernel_rfl).mp h)
noncomputable def cayleyref01_Inverse.ann:Ann where
 loops:=fun | 5=>[(0,.sc .str),(3,.sc .sl),(4,.sc (.int .i64))] | _=>[]
 joins:=fun | _=>none
noncomputable def cayleyref01_Inverse.body:Code:=match Tryd.f16.body with | some c=>c | none=>.skip
def cayleyref01_Inverse.sh (p0:ByteArray) (R:Ending → World → Prop) (w:World):Prop:=
 CallT Tryd.prog 53 #[(.string p0)] (.sc .bool) w (fun r1 w2=>
  Br (!r1)
   (R (.returned (.string (ByteArray.mk #[]))) w2)
   (LoopT (σ:=ByteArray × Sl × Int × Unit) (p0,⟨none,0,0⟩,(IntKind.wrap .i64 (((p0.size:Nat):Int) - 1)),()) w2 fun l4 g5 w6 I7=>
    Br (decide ((l4.2.2.1:Int) ≥ 0))
     (StrIdx l4.1 l4.2.2.1 fun c8=>
     CallT Tryd.prog 54 #[(.int .u8 c8)] (.sc (.int .u8)) w6 (fun r9 w10=>
      New w10 (.cells #[(.int .u8 r9)] 5) fun b12 w13=>
      RunT Tryd.prog (.sc .sl) (Builtin.append_ #[87,87] 87 #[(.slice l4.2.1.a l4.2.1.n l4.2.1.c),(.slice (some (Addr.mk b12 0 none)) 1 1)]) w13 fun r14 w15=>
      I7 (l4.1,r14,(IntKind.wrap .i64 (l4.2.2.1 - 1)),()) w15) (fun h11 w10=>R (.panicked h11) w10))
     (RunT Tryd.prog (.sc .str) (convert 87 9 (.slice l4.2.1.a l4.2.1.n l4.2.1.c)) w6 fun r16 w17=>
     R (.returned (.string r16)) w17))) (fun h3 w2=>R (.panicked h3) w2)
theorem cayleyref01_Inverse.calls (p0:ByteArray) {R:Ending → World → Prop} {w:World} (h:cayleyref01_Inverse.sh p0 R w):Calls Tryd.prog 16 #[(.string p0)] w R:=calls_of_wpc mixed Tryd.func16 (by kernel_rfl) (by kernel_rfl) ((show _ = wpc Tryd.prog cayleyref01_Inverse.ann cayleyref01_Inverse.body (fnKs Tryd.prog Tryd.f16 R) [] (env0 #[(.string p0)]) w by kernel_rfl).mp h)
noncomputable def cayleyref21_IsWord.ann:Ann where
 loops:=fun | _=>[]
 joins:=fun | _=>none
noncomputable def cayleyref21_IsWord.body:Code:=match Tryd.f22.body with | some c=>c | none=>.skip
def cayleyref21_IsWord.sh (p0:Int) (p1:ByteArray) (R:Ending → World → Prop) (w:World):Prop:=
 CallT Tryd.prog 60 #[(.int .i64 p0),(.string p1)] (.sc (.int .i64)) w (fun r1 w2=>
  R (.returned (.bool ((r1:Int) == 0))) w2) (fun h3 w2=>R (.panicked h3) w2)
theorem cayleyref21_IsWord.calls (p0:Int) (p1:ByteArray) {R:Ending → World → Prop} {w:World} (h:cayleyref21_IsWord.sh p0 p1 R w):Calls Tryd.prog 22 #[(.int .i64 p0),(.string p1)] w R:=calls_of_wpc mixed Tryd.func22 (by kernel_rfl) (by kernel_rfl) ((show _ = wpc Tryd.prog cayleyref21_IsWord.ann cayleyref21_IsWord.body (fnKs Tryd.prog Tryd.f22 R) [] (env0 #[(.int .i64 p0),(.string p1)]) w by kernel_rfl).mp h)
noncomputable def cayleyref06_sameInts.ann:Ann where
 loops:=fun | 4=>[(0,.sc .sl),(1,.sc .sl),(5,.sc (.int .i64))] | _=>[]
 joins:=fun | _=>none
noncomputable def cayleyref06_sameInts.body:Code:=match Tryd.f52.body with | some c=>c | none=>.skip
def cayleyref06_sameInts.sh (p0:Sl) (p1:Sl) (R:Ending → World → Prop) (w:World):Prop:=
 Br ((((p0.n:Nat):Int):Int) != ((p1.n:Nat):Int))
  (R (.returned (.bool false)) w)
  (LoopT (σ:=Sl × Sl × Int × Unit) (p0,p1,0,()) w fun l1 g2 w3 I4=>
   Br (decide ((l1.2.2.1:Int) < ((l1.1.n:Nat):Int)))
    (Idx l1.1.a l1.1.n 1 l1.2.2.1 fun a5=>
    LoadT (.sc (.int .i64)) w3.drew a5 fun x6=>
    Idx l1.2.1.a l1.2.1.n 1 l1.2.2.1 fun a7=>
    LoadT (.sc (.int .i64)) w3.drew a7 fun x8=>
    Br ((x6:Int) != x8)
     (R (.returned (.bool false)) w3.drew)
     (I4 (l1.1,l1.2.1,(IntKind.wrap .i64 (l1.2.2.1 + 1)),()) w3.drew))
    (R (.returned (.bool true)) w3))
theorem cayleyref06_sameInts.calls (p0:Sl) (p1:Sl) {R:Ending → World → Prop} {w:World} (h:cayleyref06_sameInts.sh p0 p1 R w):Calls Tryd.prog 52 #[(.slice p0.a p0.n p0.c),(.slice p1.a p1.n p1.c)] w R:=calls_of_wpc mixed Tryd.func52 (by kernel_rfl) (by kernel_rfl) ((show _ = wpc Tryd.prog cayleyref06_sameInts.ann cayleyref06_sameInts.body (fnKs Tryd.prog Tryd.f52 R) [] (env0 #[(.slice p0.a p0.n p0.c),(.slice p1.a p1.n p1.c)]) w by kernel_rfl).mp h)
noncomputable def cayleyref06_Same.ann:Ann where
 loops:=fun | 4=>[(2,.sc .adr),(3,.sc .adr),(5,.sc (.int .i64))] | 9=>[(2,.sc .adr),(3,.sc .adr),(6,.sc (.int .i64))] | _=>[]
 joins:=fun | 3=>some [(2,.sc .adr),(3,.sc .adr)] | _=>none
noncomputable def cayleyref06_Same.body:Code:=match Tryd.f15.body with | some c=>c | none=>.skip
def cayleyref06_Same.sh (p0_0:Int) (p0_1:Int) (p0_2:Sl) (p0_3:Sl) (p1_0:Int) (p1_1:Int) (p1_2:Sl) (p1_3:Sl) (R:Ending → World → Prop) (w:World):Prop:=
 New w (.cells #[(.int .i64 p0_0),(.int .i64 p0_1),(.slice p0_2.a p0_2.n p0_2.c),(.slice p0_3.a p0_3.n p0_3.c)] 27) fun b1 w2=>
 New w2 (.cells #[(.int .i64 p1_0),(.int .i64 p1_1),(.slice p1_2.a p1_2.n p1_2.c),(.slice p1_3.a p1_3.n p1_3.c)] 27) fun b3 w4=>
 Join (σ:=Addr × Addr × Unit) (fun j7 g6 w16=>
  LoopT (σ:=Addr × Addr × Int × Unit) (j7.1,j7.2.1,0,()) w16 fun l17 g18 w19 I20=>
   LoadT (.sc .sl) w19 (l17.1.add 2) fun x21=>
   Br (decide ((l17.2.2.1:Int) < ((x21.n:Nat):Int)))
    (LoadT (.sc .sl) w19.drew (l17.1.add 2) fun x22=>
    Idx x22.a x22.n 1 l17.2.2.1 fun a23=>
    LoadT (.sc .bool) w19.drew a23 fun x24=>
    LoadT (.sc .sl) w19.drew (l17.2.1.add 2) fun x25=>
    Idx x25.a x25.n 1 l17.2.2.1 fun a26=>
    LoadT (.sc .bool) w19.drew a26 fun x27=>
    Br (!(x24 == x27))
     (R (.returned (.bool false)) w19.drew)
     (I20 (l17.1,l17.2.1,(IntKind.wrap .i64 (l17.2.2.1 + 1)),()) w19.drew))
    (LoopT (σ:=Addr × Addr × Int × Unit) (l17.1,l17.2.1,0,()) w19 fun l28 g29 w30 I31=>
     LoadT (.sc .sl) w30 (l28.1.add 3) fun x32=>
     Br (decide ((l28.2.2.1:Int) < ((x32.n:Nat):Int)))
      (LoadT (.sc .sl) w30.drew (l28.1.add 3) fun x33=>
      Idx x33.a x33.n 1 l28.2.2.1 fun a34=>
      LoadT (.sc .sl) w30.drew a34 fun x35=>
      LoadT (.sc .sl) w30.drew (l28.2.1.add 3) fun x36=>
      Idx x36.a x36.n 1 l28.2.2.1 fun a37=>
      LoadT (.sc .sl) w30.drew a37 fun x38=>
      CallT Tryd.prog 52 #[(.slice x35.a x35.n x35.c),(.slice x38.a x38.n x38.c)] (.sc .bool) w30.drew (fun r39 w40=>
       Br (!r39)
        (R (.returned (.bool false)) w40)
        (I31 (l28.1,l28.2.1,(IntKind.wrap .i64 (l28.2.2.1 + 1)),()) w40)) (fun h41 w40=>R (.panicked h41) w40))
      (R (.returned (.bool true)) w30))) fun J5=>
  LoadT (.sc (.int .i64)) w4 ((Addr.mk b1 0 none).add 0) fun x8=>
  LoadT (.sc (.int .i64)) w4 ((Addr.mk b3 0 none).add 0) fun x9=>
  Br ((x8:Int) != x9)
   (Br true
    (R (.returned (.bool false)) w4)
    (J5 ((Addr.mk b1 0 none),(Addr.mk b3 0 none),()) w4))
   (LoadT (.sc (.int .i64)) w4 ((Addr.mk b1 0 none).add 1) fun x10=>
   LoadT (.sc (.int .i64)) w4 ((Addr.mk b3 0 none).add 1) fun x11=>
   Br ((x10:Int) != x11)
    (Br true
     (R (.returned (.bool false)) w4)
     (J5 ((Addr.mk b1 0 none),(Addr.mk b3 0 none),()) w4))
    (LoadT (.sc .sl) w4 ((Addr.mk b1 0 none).add 2) fun x12=>
    LoadT (.sc .sl) w4 ((Addr.mk b3 0 none).add 2) fun x13=>
    Br ((((x12.n:Nat):Int):Int) != ((x13.n:Nat):Int))
     (Br true
      (R (.returned (.bool false)) w4)
      (J5 ((Addr.mk b1 0 none),(Addr.mk b3 0 none),()) w4))
     (LoadT (.sc .sl) w4 ((Addr.mk b1 0 none).add 3) fun x14=>
     LoadT (.sc .sl) w4 ((Addr.mk b3 0 none).add 3) fun x15=>
     Br ((((x14.n:Nat):Int):Int) != ((x15.n:Nat):Int))
      (R (.returned (.bool false)) w4)
      (J5 ((Addr.mk b1 0 none),(Addr.mk b3 0 none),()) w4))))
theorem cayleyref06_Same.calls (p0_0:Int) (p0_1:Int) (p0_2:Sl) (p0_3:Sl) (p1_0:Int) (p1_1:Int) (p1_2:Sl) (p1_3:Sl) {R:Ending → World → Prop} {w:World} (h:cayleyref06_Same.sh p0_0 p0_1 p0_2 p0_3 p1_0 p1_1 p1_2 p1_3 R w):Calls Tryd.prog 15 #[(.agg #[(.int .i64 p0_0),(.int .i64 p0_1),(.slice p0_2.a p0_2.n p0_2.c),(.slice p0_3.a p0_3.n p0_3.c)]),(.agg #[(.int .i64 p1_0),(.int .i64 p1_1),(.slice p1_2.a p1_2.n p1_2.c),(.slice p1_3.a p1_3.n p1_3.c)])] w R:=calls_of_wpc mixed Tryd.func15 (by kernel_rfl) (by kernel_rfl) ((show _ = wpc Tryd.prog cayleyref06_Same.ann cayleyref06_Same.body (fnKs Tryd.prog Tryd.f15 R) [] (env0 #[(.agg #[(.int .i64 p0_0),(.int .i64 p0_1),(.slice p0_2.a p0_2.n p0_2.c),(.slice p0_3.a p0_3.n p0_3.c)]),(.agg #[(.int .i64 p1_0),(.int .i64 p1_1),(.slice p1_2.a p1_2.n p1_2.c),(.slice p1_3.a p1_3.n p1_3.c)])]) w by kernel_rfl).mp h)
noncomputable def cayleyref06_Check.ann:Ann where
 loops:=fun | 5=>[(1,.sc .adr),(3,.sc (.int .i64)),(4,.sc (.int .i64))] | 10=>[(1,.sc .adr),(3,.sc (.int .i64)),(4,.sc (.int .i64)),(5,.sc (.int .i64))] | _=>[]
 joins:=fun | 4=>some [(1,.sc .adr),(3,.sc (.int .i64))] | _=>none
noncomputable def cayleyref06_Check.body:Code:=match Tryd.f87.body with | some c=>c | none=>.skip
def cayleyref06_Check.sh (p0_0:Int) (p0_1:Int) (p0_2:Sl) (p0_3:Sl) (R:Ending → World → Prop) (w:World):Prop:=
 New w (.cells #[(.int .i64 p0_0),(.int .i64 p0_1),(.slice p0_2.a p0_2.n p0_2.c),(.slice p0_3.a p0_3.n p0_3.c)] 27) fun b1 w2=>
 LoadT (.sc .sl) w2 ((Addr.mk b1 0 none).add 3) fun x3=>
 Join (σ:=Addr × Int × Unit) (fun j6 g5 w14=>
  LoopT (σ:=Addr × Int × Int × Unit) (j6.1,j6.2.1,0,()) w14 fun l15 g16 w17 I18=>
   Br (decide ((l15.2.2.1:Int) < l15.2.1))
    (LoadT (.sc .sl) w17.drew (l15.1.add 3) fun x19=>
    Idx x19.a x19.n 1 l15.2.2.1 fun a20=>
    LoadT (.sc .sl) w17.drew a20 fun x21=>
    LoadT (.sc (.int .i64)) w17.drew (l15.1.add 0) fun x22=>
    Br ((((x21.n:Nat):Int):Int) != x22)
     (R (.returned (.int .i64 60)) w17.drew)
     (LoopT (σ:=Addr × Int × Int × Int × Unit) (l15.1,l15.2.1,l15.2.2.1,0,()) w17.drew fun l23 g24 w25 I26=>
      LoadT (.sc (.int .i64)) w25 (l23.1.add 0) fun x27=>
      Br (decide ((l23.2.2.2.1:Int) < x27))
       (LoadT (.sc .sl) w25 (l23.1.add 3) fun x28=>
       Idx x28.a x28.n 1 l23.2.2.1 fun a29=>
       LoadT (.sc .sl) w25 a29 fun x30=>
       Idx x30.a x30.n 1 l23.2.2.2.1 fun a31=>
       LoadT (.sc (.int .i64)) w25 a31 fun x32=>
       Br (decide ((x32:Int) < (-1)))
        (Br true
         (R (.returned (.int .i64 60)) w25)
         (I26 (l23.1,l23.2.1,l23.2.2.1,(IntKind.wrap .i64 (l23.2.2.2.1 + 1)),()) w25))
        (LoadT (.sc .sl) w25 (l23.1.add 3) fun x33=>
        Idx x33.a x33.n 1 l23.2.2.1 fun a34=>
        LoadT (.sc .sl) w25 a34 fun x35=>
        Idx x35.a x35.n 1 l23.2.2.2.1 fun a36=>
        LoadT (.sc (.int .i64)) w25 a36 fun x37=>
        Br (decide ((x37:Int) ≥ l23.2.1))
         (R (.returned (.int .i64 60)) w25)
         (I26 (l23.1,l23.2.1,l23.2.2.1,(IntKind.wrap .i64 (l23.2.2.2.1 + 1)),()) w25)))
       (I18 (l23.1,l23.2.1,(IntKind.wrap .i64 (l23.2.2.1 + 1)),()) w25)))
    (R (.returned (.int .i64 0)) w17)) fun J4=>
  LoadT (.sc (.int .i64)) w2 ((Addr.mk b1 0 none).add 0) fun x7=>
  Br (decide ((x7:Int) < 1))
   (Br true
    (R (.returned (.int .i64 60)) w2)
    (J4 ((Addr.mk b1 0 none),((x3.n:Nat):Int),()) w2))
   (LoadT (.sc (.int .i64)) w2 ((Addr.mk b1 0 none).add 0) fun x8=>
   Br (decide ((x8:Int) > 400))
    (Br true
     (R (.returned (.int .i64 60)) w2)
     (J4 ((Addr.mk b1 0 none),((x3.n:Nat):Int),()) w2))
    (LoadT (.sc .sl) w2 ((Addr.mk b1 0 none).add 2) fun x9=>
    Br ((((x9.n:Nat):Int):Int) != ((x3.n:Nat):Int))
     (Br true
      (R (.returned (.int .i64 60)) w2)
      (J4 ((Addr.mk b1 0 none),((x3.n:Nat):Int),()) w2))
     (Br (decide ((((x3.n:Nat):Int):Int) > 20000))
      (Br true
       (R (.returned (.int .i64 60)) w2)
       (J4 ((Addr.mk b1 0 none),((x3.n:Nat):Int),()) w2))
      (LoadT (.sc (.int .i64)) w2 ((Addr.mk b1 0 none).add 1) fun x10=>
      Br (decide ((x10:Int) < 0))
       (Br true
        (R (.returned (.int .i64 60)) w2)
        (J4 ((Addr.mk b1 0 none),((x3.n:Nat):Int),()) w2))
       (Br ((((x3.n:Nat):Int):Int) == 0)
        (LoadT (.sc (.int .i64)) w2 ((Addr.mk b1 0 none).add 1) fun x11=>
        Br ((x11:Int) != 0)
         (Br true
          (R (.returned (.int .i64 60)) w2)
          (J4 ((Addr.mk b1 0 none),((x3.n:Nat):Int),()) w2))
         (Br (decide ((((x3.n:Nat):Int):Int) > 0))
          (LoadT (.sc (.int .i64)) w2 ((Addr.mk b1 0 none).add 1) fun x12=>
          Br (decide ((x12:Int) ≥ ((x3.n:Nat):Int)))
           (R (.returned (.int .i64 60)) w2)
           (J4 ((Addr.mk b1 0 none),((x3.n:Nat):Int),()) w2))
          (Br false
           (R (.returned (.int .i64 60)) w2)
           (J4 ((Addr.mk b1 0 none),((x3.n:Nat):Int),()) w2))))
        (Br (decide ((((x3.n:Nat):Int):Int) > 0))
         (LoadT (.sc (.int .i64)) w2 ((Addr.mk b1 0 none).add 1) fun x13=>
         Br (decide ((x13:Int) ≥ ((x3.n:Nat):Int)))
          (R (.returned (.int .i64 60)) w2)
          (J4 ((Addr.mk b1 0 none),((x3.n:Nat):Int),()) w2))
         (Br false
          (R (.returned (.int .i64 60)) w2)
          (J4 ((Addr.mk b1 0 none),((x3.n:Nat):Int),()) w2))))))))
theorem cayleyref06_Check.calls (p0_0:Int) (p0_1:Int) (p0_2:Sl) (p0_3:Sl) {R:Ending → World → Prop} {w:World} (h:cayleyref06_Check.sh p0_0 p0_1 p0_2 p0_3 R w):Calls Tryd.prog 87 #[(.agg #[(.int .i64 p0_0),(.int .i64 p0_1),(.slice p0_2.a p0_2.n p0_2.c),(.slice p0_3.a p0_3.n p0_3.c)])] w R:=calls_of_wpc mixed Tryd.func87 (by kernel_rfl) (by kernel_rfl) ((show _ = wpc Tryd.prog cayleyref06_Check.ann cayleyref06_Check.body (fnKs Tryd.prog Tryd.f87 R) [] (env0 #[(.agg #[(.int .i64 p0_0),(.int .i64 p0_1),(.slice p0_2.a p0_2.n p0_2.c),(.slice p0_3.a p0_3.n p0_3.c)])]) w by kernel_rfl).mp h)
noncomputable def cayleyref21_step.ann:Ann where
 loops:=fun | 2=>[(1,.sc (.int .i64)),(2,.sc (.int .i64)),(3,.sc .adr),(7,.sc (.int .i64))] | _=>[]
 joins:=fun | 6=>some [(1,.sc (.int .i64)),(2,.sc (.int .i64)),(3,.sc .adr),(7,.sc (.int .i64)),(8,.sc .adr),(35,.sc .bool)] | 8=>some [(1,.sc (.int .i64)),(2,.sc (.int .i64)),(3,.sc .adr),(7,.sc (.int .i64)),(8,.sc .adr),(53,.sc .bool)] | _=>none
noncomputable def cayleyref21_step.body:Code:=match Tryd.f91.body with | some c=>c | none=>.skip
def cayleyref21_step.sh (p0_0:Int) (p0_1:Int) (p0_2:Sl) (p1:Int) (p2:Int) (R:Ending → World → Prop) (w:World):Prop:=
 New w (.cells #[(.int .i64 p0_0),(.int .i64 p0_1),(.slice p0_2.a p0_2.n p0_2.c)] 54) fun b1 w2=>
 LoopT (σ:=Int × Int × Addr × Int × Unit) (p1,p2,(Addr.mk b1 0 none),0,()) w2 fun l3 g4 w5 I6=>
  LoadT (.sc .sl) w5 (l3.2.2.1.add 2) fun x7=>
  Br (decide ((l3.2.2.2.1:Int) < ((x7.n:Nat):Int)))
   (LoadT (.sc .sl) w5 (l3.2.2.1.add 2) fun x8=>
   Idx x8.a x8.n 3 l3.2.2.2.1 fun a9=>
   LoadT (.agg [.int .i64,.int .i64,.int .i64]) w5 a9 fun x10=>
   New w5 (.cells #[(.int .i64 0),(.int .i64 0),(.int .i64 0)] 100) fun b11 w12=>
   StoreN w12 (Addr.mk b11 0 none) [(.int .i64 x10.1),(.int .i64 x10.2.1),(.int .i64 x10.2.2.1)] fun w13=>
   Join (σ:=Int × Int × Addr × Int × Addr × Bool × Unit) (fun j16 g15 w19=>
    Br j16.2.2.2.2.2.1
     (LoadT (.sc (.int .i64)) w19 (j16.2.2.2.2.1.add 2) fun x20=>
     R (.returned (.int .i64 x20)) w19)
     (Join (σ:=Int × Int × Addr × Int × Addr × Bool × Unit) (fun j23 g22 w26=>
      Br j23.2.2.2.2.2.1
       (LoadT (.sc (.int .i64)) w26 (j23.2.2.2.2.1.add 0) fun x27=>
       R (.returned (.int .i64 x27)) w26)
       (I6 (j23.1,j23.2.1,j23.2.2.1,(IntKind.wrap .i64 (j23.2.2.2.1 + 1)),()) w26)) fun J21=>
      (2:Int) ≠ 0 ∧
      Br (((Int.tmod j16.2.1 2):Int) == 1)
       (LoadT (.sc (.int .i64)) w19 (j16.2.2.2.2.1.add 1) fun x24=>
       Br ((x24:Int) == (IntKind.wrap .i64 (j16.2.1 - 1)))
        (LoadT (.sc (.int .i64)) w19 (j16.2.2.2.2.1.add 2) fun x25=>
        J21 (j16.1,j16.2.1,j16.2.2.1,j16.2.2.2.1,j16.2.2.2.2.1,((x25:Int) == j16.1),()) w19)
        (J21 (j16.1,j16.2.1,j16.2.2.1,j16.2.2.2.1,j16.2.2.2.2.1,false,()) w19))
       (J21 (j16.1,j16.2.1,j16.2.2.1,j16.2.2.2.1,j16.2.2.2.2.1,false,()) w19))) fun J14=>
    (2:Int) ≠ 0 ∧
    Br (((Int.tmod l3.2.1 2):Int) == 0)
     (LoadT (.sc (.int .i64)) w13 ((Addr.mk b11 0 none).add 1) fun x17=>
     Br ((x17:Int) == l3.2.1)
      (LoadT (.sc (.int .i64)) w13 ((Addr.mk b11 0 none).add 0) fun x18=>
      J14 (l3.1,l3.2.1,l3.2.2.1,l3.2.2.2.1,(Addr.mk b11 0 none),((x18:Int) == l3.1),()) w13)
      (J14 (l3.1,l3.2.1,l3.2.2.1,l3.2.2.2.1,(Addr.mk b11 0 none),false,()) w13))
     (J14 (l3.1,l3.2.1,l3.2.2.1,l3.2.2.2.1,(Addr.mk b11 0 none),false,()) w13))
   (R (.returned (.int .i64 (-1))) w5)
theorem cayleyref21_step.calls (p0_0:Int) (p0_1:Int) (p0_2:Sl) (p1:Int) (p2:Int) {R:Ending → World → Prop} {w:World} (h:cayleyref21_step.sh p0_0 p0_1 p0_2 p1 p2 R w):Calls Tryd.prog 91 #[(.agg #[(.int .i64 p0_0),(.int .i64 p0_1),(.slice p0_2.a p0_2.n p0_2.c)]),(.int .i64 p1),(.int .i64 p2)] w R:=calls_of_wpc mixed Tryd.func91 (by kernel_rfl) (by kernel_rfl) ((show _ = wpc Tryd.prog cayleyref21_step.ann cayleyref21_step.body (fnKs Tryd.prog Tryd.f91 R) [] (env0 #[(.agg #[(.int .i64 p0_0),(.int .i64 p0_1),(.slice p0_2.a p0_2.n p0_2.c)]),(.int .i64 p1),(.int .i64 p2)]) w by kernel_rfl).mp h)
noncomputable def cayleyref21_GraphOf.ann:Ann where
 loops:=fun | 3=>[(0,.sc (.int .i64)),(3,.sc .adr),(4,.sc .adr),(5,.sc .adr),(6,.sc (.int .i64))] | 6=>[(0,.sc (.int .i64)),(3,.sc .adr),(4,.sc .adr),(5,.sc .adr),(6,.sc (.int .i64)),(7,.sc (.int .i64))] | _=>[]
 joins:=fun | _=>none
noncomputable def cayleyref21_GraphOf.body:Code:=match Tryd.f27.body with | some c=>c | none=>.skip
def cayleyref21_GraphOf.sh (p0:Int) (p1_0:Int) (p1_1:Int) (p1_2:Sl) (p1_3:Sl) (R:Ending → World → Prop) (w:World):Prop:=
 New w (.cells #[(.int .i64 p1_0),(.int .i64 p1_1),(.slice p1_2.a p1_2.n p1_2.c),(.slice p1_3.a p1_3.n p1_3.c)] 27) fun b1 w2=>
 New w2 (.cells #[(.int .i64 0),(.int .i64 0),(.slice none 0 0)] 54) fun b3 w4=>
 LoadT (.sc .sl) w4 ((Addr.mk b1 0 none).add 2) fun x5=>
 New w4 (.cells #[(.int .i64 0),(.int .i64 0),(.slice none 0 0)] 54) fun b6 w7=>
 StoreN w7 (Addr.mk b6 0 none) [(.int .i64 p0),(.int .i64 ((x5.n:Nat):Int)),(.slice none 0 0)] fun w8=>
 LoopT (σ:=Int × Addr × Addr × Addr × Int × Unit) (p0,(Addr.mk b1 0 none),(Addr.mk b3 0 none),(Addr.mk b6 0 none),0,()) w8 fun l9 g10 w11 I12=>
  LoadT (.sc .sl) w11 (l9.2.1.add 3) fun x13=>
  Br (decide ((l9.2.2.2.2.1:Int) < ((x13.n:Nat):Int)))
   (LoopT (σ:=Int × Addr × Addr × Addr × Int × Int × Unit) (l9.1,l9.2.1,l9.2.2.1,l9.2.2.2.1,l9.2.2.2.2.1,0,()) w11 fun l14 g15 w16 I17=>
    Br (decide ((l14.2.2.2.2.2.1:Int) < (IntKind.wrap .i64 (2 * l14.1))))
     (LoadT (.sc .sl) w16 (l14.2.1.add 3) fun x18=>
     Idx x18.a x18.n 1 l14.2.2.2.2.1 fun a19=>
     LoadT (.sc .sl) w16 a19 fun x20=>
     Idx x20.a x20.n 1 l14.2.2.2.2.2.1 fun a21=>
     LoadT (.sc (.int .i64)) w16 a21 fun x22=>
     Br (decide ((x22:Int) ≥ 0))
      (∃ S23:World → Prop,S23 w16.drew ∧
      (LoadS S23 (.sc .sl) (l14.2.2.2.1.add 2) fun x24=>
      LoadS S23 (.sc .sl) (l14.2.1.add 3) fun x25=>
      Idx x25.a x25.n 1 l14.2.2.2.2.1 fun a26=>
      LoadS S23 (.sc .sl) a26 fun x27=>
      Idx x27.a x27.n 1 l14.2.2.2.2.2.1 fun a28=>
      LoadS S23 (.sc (.int .i64)) a28 fun x29=>
      New w16.drew (.cells #[(.int .i64 l14.2.2.2.2.1),(.int .i64 l14.2.2.2.2.2.1),(.int .i64 x29)] 100) fun b30 w31=>
       S23 w31 ∧
       (RunT Tryd.prog (.sc .sl) (Builtin.append_ #[52,52] 52 #[(.slice x24.a x24.n x24.c),(.slice (some (Addr.mk b30 0 none)) 1 1)]) w31 fun r32 w33=>
        S23 w33 ∧
        (Store1 w33 (l14.2.2.2.1.add 2) (.slice r32.a r32.n r32.c) fun w34=>
         I17 (l14.1,l14.2.1,l14.2.2.1,l14.2.2.2.1,l14.2.2.2.2.1,(IntKind.wrap .i64 (l14.2.2.2.2.2.1 + 2)),()) w34))))
      (I17 (l14.1,l14.2.1,l14.2.2.1,l14.2.2.2.1,l14.2.2.2.2.1,(IntKind.wrap .i64 (l14.2.2.2.2.2.1 + 2)),()) w16))
     (I12 (l14.1,l14.2.1,l14.2.2.1,l14.2.2.2.1,(IntKind.wrap .i64 (l14.2.2.2.2.1 + 1)),()) w16))
   (LoadT (.agg [.int .i64,.int .i64,.sl]) w11 l9.2.2.2.1 fun x35=>
   StoreN w11 l9.2.2.1 [(.int .i64 x35.1),(.int .i64 x35.2.1),(.slice x35.2.2.1.a x35.2.2.1.n x35.2.2.1.c)] fun w36=>
   LoadT (.agg [.int .i64,.int .i64,.sl]) w36 l9.2.2.1 fun x37=>
   R (.returned (.agg #[(.int .i64 x37.1),(.int .i64 x37.2.1),(.slice x37.2.2.1.a x37.2.2.1.n x37.2.2.1.c)])) w36)
theorem cayleyref21_GraphOf.calls (p0:Int) (p1_0:Int) (p1_1:Int) (p1_2:Sl) (p1_3:Sl) {R:Ending → World → Prop} {w:World} (h:cayleyref21_GraphOf.sh p0 p1_0 p1_1 p1_2 p1_3 R w):Calls Tryd.prog 27 #[(.int .i64 p0),(.agg #[(.int .i64 p1_0),(.int .i64 p1_1),(.slice p1_2.a p1_2.n p1_2.c),(.slice p1_3.a p1_3.n p1_3.c)])] w R:=calls_of_wpc mixed Tryd.func27 (by kernel_rfl) (by kernel_rfl) ((show _ = wpc Tryd.prog cayleyref21_GraphOf.ann cayleyref21_GraphOf.body (fnKs Tryd.prog Tryd.f27 R) [] (env0 #[(.int .i64 p0),(.agg #[(.int .i64 p1_0),(.int .i64 p1_1),(.slice p1_2.a p1_2.n p1_2.c),(.slice p1_3.a p1_3.n p1_3.c)])]) w by kernel_rfl).mp h)
noncomputable def cayleyref21_Numbered.ann:Ann where
 loops:=fun | 4=>[(2,.sc .adr),(4,.sc .adr),(5,.sc .sl),(6,.sc .adr),(7,.sc (.int .i64))] | 8=>[(2,.sc .adr),(4,.sc .adr),(5,.sc .sl),(6,.sc .adr),(7,.sc (.int .i64)),(8,.sc .sl),(9,.sc (.int .i64))] | 14=>[(2,.sc .adr),(4,.sc .adr),(5,.sc .sl),(6,.sc .adr),(7,.sc (.int .i64)),(8,.sc .sl),(9,.sc (.int .i64)),(10,.sc (.int .i64)),(11,.sc (.int .i64)),(12,.sc (.int .i64))] | _=>[]
 joins:=fun | 21=>some [(2,.sc .adr),(4,.sc .adr),(5,.sc .sl),(6,.sc .adr),(7,.sc (.int .i64)),(8,.sc .sl),(9,.sc (.int .i64)),(11,.sc (.int .i64))] | _=>none
noncomputable def cayleyref21_Numbered.body:Code:=match Tryd.f70.body with | some c=>c | none=>.skip
def cayleyref21_Numbered.sh (p0_0:Int) (p0_1:Int) (p0_2:Sl) (p1:Int) (R:Ending → World → Prop) (w:World):Prop:=
 New w (.cells #[(.int .i64 p0_0),(.int .i64 p0_1),(.slice p0_2.a p0_2.n p0_2.c)] 54) fun b1 w2=>
 New w2 (.cells #[(.int .i64 0),(.int .i64 0),(.slice none 0 0),(.slice none 0 0)] 27) fun b3 w4=>
 New w4 (.cells #[(.int .i64 p1)] 3) fun b5 w6=>
 LoadT (.sc (.int .i64)) w6 ((Addr.mk b1 0 none).add 0) fun x7=>
 New w6 (.cells #[(.int .i64 0),(.int .i64 0),(.slice none 0 0),(.slice none 0 0)] 27) fun b8 w9=>
 StoreN w9 (Addr.mk b8 0 none) [(.int .i64 (IntKind.wrap .i64 (2 * x7))),(.int .i64 0),(.slice none 0 0),(.slice none 0 0)] fun w10=>
 LoopT (σ:=Addr × Addr × Sl × Addr × Int × Unit) ((Addr.mk b1 0 none),(Addr.mk b3 0 none),⟨(some (Addr.mk b5 0 none)),1,1⟩,(Addr.mk b8 0 none),0,()) w10 fun l11 g12 w13 I14=>
  Br (decide ((l11.2.2.2.2.1:Int) < ((l11.2.2.1.n:Nat):Int)))
   (New w13 (.cells #[] 3) fun b15 w16=>
   LoopT (σ:=Addr × Addr × Sl × Addr × Int × Sl × Int × Unit) (l11.1,l11.2.1,l11.2.2.1,l11.2.2.2.1,l11.2.2.2.2.1,⟨(some (Addr.mk b15 0 none)),0,0⟩,0,()) w16 fun l17 g18 w19 I20=>
    LoadT (.sc (.int .i64)) w19 (l17.1.add 0) fun x21=>
    Br (decide ((l17.2.2.2.2.2.2.1:Int) < (IntKind.wrap .i64 (2 * x21))))
     (LoadT (.agg [.int .i64,.int .i64,.sl]) w19.drew l17.1 fun x22=>
     Idx l17.2.2.1.a l17.2.2.1.n 1 l17.2.2.2.2.1 fun a23=>
     LoadT (.sc (.int .i64)) w19.drew a23 fun x24=>
     CallT Tryd.prog 91 #[(.agg #[(.int .i64 x22.1),(.int .i64 x22.2.1),(.slice x22.2.2.1.a x22.2.2.1.n x22.2.2.1.c)]),(.int .i64 x24),(.int .i64 l17.2.2.2.2.2.2.1)] (.sc (.int .i64)) w19.drew (fun r25 w26=>
      Join (σ:=Addr × Addr × Sl × Addr × Int × Sl × Int × Int × Unit) (fun j30 g29 w41=>
       New w41 (.cells #[(.int .i64 j30.2.2.2.2.2.2.2.1)] 3) fun b42 w43=>
       RunT Tryd.prog (.sc .sl) (Builtin.append_ #[85,85] 85 #[(.slice j30.2.2.2.2.2.1.a j30.2.2.2.2.2.1.n j30.2.2.2.2.2.1.c),(.slice (some (Addr.mk b42 0 none)) 1 1)]) w43 fun r44 w45=>
       I20 (j30.1,j30.2.1,j30.2.2.1,j30.2.2.2.1,j30.2.2.2.2.1,r44,(IntKind.wrap .i64 (j30.2.2.2.2.2.2.1 + 1)),()) w45) fun J28=>
       Br (decide ((r25:Int) ≥ 0))
        (LoopT (σ:=Addr × Addr × Sl × Addr × Int × Sl × Int × Int × Int × Int × Unit) (l17.1,l17.2.1,l17.2.2.1,l17.2.2.2.1,l17.2.2.2.2.1,l17.2.2.2.2.2.1,l17.2.2.2.2.2.2.1,r25,(-1),0,()) w26 fun l31 g32 w33 I34=>
         Br (decide ((l31.2.2.2.2.2.2.2.2.2.1:Int) < ((l31.2.2.1.n:Nat):Int)))
          (Idx l31.2.2.1.a l31.2.2.1.n 1 l31.2.2.2.2.2.2.2.2.2.1 fun a35=>
          LoadT (.sc (.int .i64)) w33 a35 fun x36=>
          Br ((x36:Int) == l31.2.2.2.2.2.2.2.1)
           (I34 (l31.1,l31.2.1,l31.2.2.1,l31.2.2.2.1,l31.2.2.2.2.1,l31.2.2.2.2.2.1,l31.2.2.2.2.2.2.1,l31.2.2.2.2.2.2.2.1,l31.2.2.2.2.2.2.2.2.2.1,(IntKind.wrap .i64 (l31.2.2.2.2.2.2.2.2.2.1 + 1)),()) w33)
           (I34 (l31.1,l31.2.1,l31.2.2.1,l31.2.2.2.1,l31.2.2.2.2.1,l31.2.2.2.2.2.1,l31.2.2.2.2.2.2.1,l31.2.2.2.2.2.2.2.1,l31.2.2.2.2.2.2.2.2.1,(IntKind.wrap .i64 (l31.2.2.2.2.2.2.2.2.2.1 + 1)),()) w33))
          (Br (decide ((l31.2.2.2.2.2.2.2.2.1:Int) < 0))
           (New w33 (.cells #[(.int .i64 l31.2.2.2.2.2.2.2.1)] 3) fun b37 w38=>
           RunT Tryd.prog (.sc .sl) (Builtin.append_ #[85,85] 85 #[(.slice l31.2.2.1.a l31.2.2.1.n l31.2.2.1.c),(.slice (some (Addr.mk b37 0 none)) 1 1)]) w38 fun r39 w40=>
           J28 (l31.1,l31.2.1,r39,l31.2.2.2.1,l31.2.2.2.2.1,l31.2.2.2.2.2.1,l31.2.2.2.2.2.2.1,((l31.2.2.1.n:Nat):Int),()) w40)
           (J28 (l31.1,l31.2.1,l31.2.2.1,l31.2.2.2.1,l31.2.2.2.2.1,l31.2.2.2.2.2.1,l31.2.2.2.2.2.2.1,l31.2.2.2.2.2.2.2.2.1,()) w33)))
        (J28 (l17.1,l17.2.1,l17.2.2.1,l17.2.2.2.1,l17.2.2.2.2.1,l17.2.2.2.2.2.1,l17.2.2.2.2.2.2.1,(-1),()) w26)) (fun h27 w26=>R (.panicked h27) w26))
     (LoadT (.sc .sl) w19 (l17.2.2.2.1.add 3) fun x46=>
     New w19 (.cells #[(.slice l17.2.2.2.2.2.1.a l17.2.2.2.2.2.1.n l17.2.2.2.2.2.1.c)] 85) fun b47 w48=>
     RunT Tryd.prog (.sc .sl) (Builtin.append_ #[25,25] 25 #[(.slice x46.a x46.n x46.c),(.slice (some (Addr.mk b47 0 none)) 1 1)]) w48 fun r49 w50=>
     Store1 w50 (l17.2.2.2.1.add 3) (.slice r49.a r49.n r49.c) fun w51=>
     LoadT (.sc .sl) w51 (l17.2.2.2.1.add 2) fun x52=>
     New w51 (.cells #[(.bool ((l17.2.2.2.2.1:Int) == 0))] 4) fun b53 w54=>
     RunT Tryd.prog (.sc .sl) (Builtin.append_ #[24,24] 24 #[(.slice x52.a x52.n x52.c),(.slice (some (Addr.mk b53 0 none)) 1 1)]) w54 fun r55 w56=>
     Store1 w56 (l17.2.2.2.1.add 2) (.slice r55.a r55.n r55.c) fun w57=>
     I14 (l17.1,l17.2.1,l17.2.2.1,l17.2.2.2.1,(IntKind.wrap .i64 (l17.2.2.2.2.1 + 1)),()) w57))
   (LoadT (.agg [.int .i64,.int .i64,.sl,.sl]) w13 l11.2.2.2.1 fun x58=>
   StoreN w13 l11.2.1 [(.int .i64 x58.1),(.int .i64 x58.2.1),(.slice x58.2.2.1.a x58.2.2.1.n x58.2.2.1.c),(.slice x58.2.2.2.1.a x58.2.2.2.1.n x58.2.2.2.1.c)] fun w59=>
   LoadT (.agg [.int .i64,.int .i64,.sl,.sl]) w59 l11.2.1 fun x60=>
   R (.returned (.agg #[(.int .i64 x60.1),(.int .i64 x60.2.1),(.slice x60.2.2.1.a x60.2.2.1.n x60.2.2.1.c),(.slice x60.2.2.2.1.a x60.2.2.2.1.n x60.2.2.2.1.c)])) w59)
theorem cayleyref21_Numbered.calls (p0_0:Int) (p0_1:Int) (p0_2:Sl) (p1:Int) {R:Ending → World → Prop} {w:World} (h:cayleyref21_Numbered.sh p0_0 p0_1 p0_2 p1 R w):Calls Tryd.prog 70 #[(.agg #[(.int .i64 p0_0),(.int .i64 p0_1),(.slice p0_2.a p0_2.n p0_2.c)]),(.int .i64 p1)] w R:=calls_of_wpc mixed Tryd.func70 (by kernel_rfl) (by kernel_rfl) ((show _ = wpc Tryd.prog cayleyref21_Numbered.ann cayleyref21_Numbered.body (fnKs Tryd.prog Tryd.f70 R) [] (env0 #[(.agg #[(.int .i64 p0_0),(.int .i64 p0_1),(.slice p0_2.a p0_2.n p0_2.c)]),(.int .i64 p1)]) w by kernel_rfl).mp h)
noncomputable def cayleyref21_Is.ann:Ann where
 loops:=fun | 5=>[(0,.sc (.int .i64)),(3,.sc .adr),(5,.sc (.int .i64)),(6,.sc (.int .i64))] | 9=>[(0,.sc (.int .i64)),(3,.sc .adr),(5,.sc (.int .i64)),(6,.sc (.int .i64)),(7,.sc (.int .i64)),(8,.sc (.int .i64))] | _=>[]
 joins:=fun | 4=>some [(0,.sc (.int .i64)),(3,.sc .adr),(5,.sc (.int .i64))] | _=>none
noncomputable def cayleyref21_Is.body:Code:=match Tryd.f57.body with | some c=>c | none=>.skip
def cayleyref21_Is.sh (p0:Int) (p1_0:Int) (p1_1:Int) (p1_2:Sl) (p1_3:Sl) (R:Ending → World → Prop) (w:World):Prop:=
 New w (.cells #[(.int .i64 p1_0),(.int .i64 p1_1),(.slice p1_2.a p1_2.n p1_2.c),(.slice p1_3.a p1_3.n p1_3.c)] 27) fun b1 w2=>
 LoadT (.sc .sl) w2 ((Addr.mk b1 0 none).add 2) fun x3=>
 Join (σ:=Int × Addr × Int × Unit) (fun j6 g5 w16=>
  LoopT (σ:=Int × Addr × Int × Int × Unit) (j6.1,j6.2.1,j6.2.2.1,0,()) w16 fun l17 g18 w19 I20=>
   Br (decide ((l17.2.2.2.1:Int) < l17.2.2.1))
    (LoopT (σ:=Int × Addr × Int × Int × Int × Int × Unit) (l17.1,l17.2.1,l17.2.2.1,l17.2.2.2.1,0,0,()) w19 fun l21 g22 w23 I24=>
     Br (decide ((l21.2.2.2.2.2.1:Int) < (IntKind.wrap .i64 (2 * l21.1))))
      (LoadT (.sc .sl) w23 (l21.2.1.add 3) fun x25=>
      Idx x25.a x25.n 1 l21.2.2.2.1 fun a26=>
      LoadT (.sc .sl) w23 a26 fun x27=>
      Idx x27.a x27.n 1 l21.2.2.2.2.2.1 fun a28=>
      LoadT (.sc (.int .i64)) w23 a28 fun x29=>
      Br (decide ((x29:Int) ≥ 0))
       (LoadT (.sc .sl) w23 (l21.2.1.add 3) fun x30=>
       Idx x30.a x30.n 1 x29 fun a31=>
       LoadT (.sc .sl) w23 a31 fun x32=>
       Idx x32.a x32.n 1 (Go.bits .xor .i64 l21.2.2.2.2.2.1 1) fun a33=>
       LoadT (.sc (.int .i64)) w23 a33 fun x34=>
       Br ((x34:Int) != l21.2.2.2.1)
        (R (.returned (.bool false)) w23)
        (I24 (l21.1,l21.2.1,l21.2.2.1,l21.2.2.2.1,(IntKind.wrap .i64 (l21.2.2.2.2.1 + 1)),(IntKind.wrap .i64 (l21.2.2.2.2.2.1 + 1)),()) w23))
       (I24 (l21.1,l21.2.1,l21.2.2.1,l21.2.2.2.1,l21.2.2.2.2.1,(IntKind.wrap .i64 (l21.2.2.2.2.2.1 + 1)),()) w23))
      (Br (decide ((l21.2.2.2.1:Int) > 0))
       (Br (decide ((l21.2.2.2.2.1:Int) < 2))
        (Br true
         (R (.returned (.bool false)) w23)
         (I20 (l21.1,l21.2.1,l21.2.2.1,(IntKind.wrap .i64 (l21.2.2.2.1 + 1)),()) w23))
        (LoadT (.sc .sl) w23 (l21.2.1.add 2) fun x35=>
        Idx x35.a x35.n 1 l21.2.2.2.1 fun a36=>
        LoadT (.sc .bool) w23 a36 fun x37=>
        Br x37
         (R (.returned (.bool false)) w23)
         (I20 (l21.1,l21.2.1,l21.2.2.1,(IntKind.wrap .i64 (l21.2.2.2.1 + 1)),()) w23)))
       (Br false
        (R (.returned (.bool false)) w23)
        (I20 (l21.1,l21.2.1,l21.2.2.1,(IntKind.wrap .i64 (l21.2.2.2.1 + 1)),()) w23))))
    (∃ S38:World → Prop,S38 w19.drew ∧
    (LoadS S38 (.agg [.int .i64,.int .i64,.sl,.sl]) l17.2.1 fun x39=>
    LoadS S38 (.agg [.int .i64,.int .i64,.sl,.sl]) l17.2.1 fun x40=>
    CallT Tryd.prog 27 #[(.int .i64 l17.1),(.agg #[(.int .i64 x40.1),(.int .i64 x40.2.1),(.slice x40.2.2.1.a x40.2.2.1.n x40.2.2.1.c),(.slice x40.2.2.2.1.a x40.2.2.2.1.n x40.2.2.2.1.c)])] (.agg [.int .i64,.int .i64,.sl]) w19.drew (fun r41 w42=>
      S38 w42 ∧
      (CallT Tryd.prog 70 #[(.agg #[(.int .i64 r41.1),(.int .i64 r41.2.1),(.slice r41.2.2.1.a r41.2.2.1.n r41.2.2.1.c)]),(.int .i64 0)] (.agg [.int .i64,.int .i64,.sl,.sl]) w42 (fun r44 w45=>
        S38 w45 ∧
        (CallT Tryd.prog 15 #[(.agg #[(.int .i64 x39.1),(.int .i64 x39.2.1),(.slice x39.2.2.1.a x39.2.2.1.n x39.2.2.1.c),(.slice x39.2.2.2.1.a x39.2.2.2.1.n x39.2.2.2.1.c)]),(.agg #[(.int .i64 r44.1),(.int .i64 r44.2.1),(.slice r44.2.2.1.a r44.2.2.1.n r44.2.2.1.c),(.slice r44.2.2.2.1.a r44.2.2.2.1.n r44.2.2.2.1.c)])] (.sc .bool) w45 (fun r47 w48=>
          S38 w48 ∧
          (R (.returned (.bool r47)) w48)) (fun h49 w48=>R (.panicked h49) w48))) (fun h46 w45=>R (.panicked h46) w45))) (fun h43 w42=>R (.panicked h43) w42)))) fun J4=>
  LoadT (.agg [.int .i64,.int .i64,.sl,.sl]) w2 (Addr.mk b1 0 none) fun x7=>
  CallT Tryd.prog 87 #[(.agg #[(.int .i64 x7.1),(.int .i64 x7.2.1),(.slice x7.2.2.1.a x7.2.2.1.n x7.2.2.1.c),(.slice x7.2.2.2.1.a x7.2.2.2.1.n x7.2.2.2.1.c)])] (.sc (.int .i64)) w2 (fun r8 w9=>
   Br ((r8:Int) != 0)
    (Br true
     (R (.returned (.bool false)) w9)
     (J4 (p0,(Addr.mk b1 0 none),((x3.n:Nat):Int),()) w9))
    (LoadT (.sc (.int .i64)) w9 ((Addr.mk b1 0 none).add 0) fun x11=>
    Br ((x11:Int) != (IntKind.wrap .i64 (2 * p0)))
     (Br true
      (R (.returned (.bool false)) w9)
      (J4 (p0,(Addr.mk b1 0 none),((x3.n:Nat):Int),()) w9))
     (Br (decide ((((x3.n:Nat):Int):Int) < 1))
      (Br true
       (R (.returned (.bool false)) w9)
       (J4 (p0,(Addr.mk b1 0 none),((x3.n:Nat):Int),()) w9))
      (Br (decide ((((x3.n:Nat):Int):Int) > 2000))
       (Br true
        (R (.returned (.bool false)) w9)
        (J4 (p0,(Addr.mk b1 0 none),((x3.n:Nat):Int),()) w9))
       (LoadT (.sc (.int .i64)) w9 ((Addr.mk b1 0 none).add 1) fun x12=>
       Br ((x12:Int) != 0)
        (Br true
         (R (.returned (.bool false)) w9)
         (J4 (p0,(Addr.mk b1 0 none),((x3.n:Nat):Int),()) w9))
        (LoadT (.sc .sl) w9 ((Addr.mk b1 0 none).add 2) fun x13=>
        Idx x13.a x13.n 1 0 fun a14=>
        LoadT (.sc .bool) w9 a14 fun x15=>
        Br (!x15)
         (R (.returned (.bool false)) w9)
         (J4 (p0,(Addr.mk b1 0 none),((x3.n:Nat):Int),()) w9))))))) (fun h10 w9=>R (.panicked h10) w9)
theorem cayleyref21_Is.calls (p0:Int) (p1_0:Int) (p1_1:Int) (p1_2:Sl) (p1_3:Sl) {R:Ending → World → Prop} {w:World} (h:cayleyref21_Is.sh p0 p1_0 p1_1 p1_2 p1_3 R w):Calls Tryd.prog 57 #[(.int .i64 p0),(.agg #[(.int .i64 p1_0),(.int .i64 p1_1),(.slice p1_2.a p1_2.n p1_2.c),(.slice p1_3.a p1_3.n p1_3.c)])] w R:=calls_of_wpc mixed Tryd.func57 (by kernel_rfl) (by kernel_rfl) ((show _ = wpc Tryd.prog cayleyref21_Is.ann cayleyref21_Is.body (fnKs Tryd.prog Tryd.f57 R) [] (env0 #[(.int .i64 p0),(.agg #[(.int .i64 p1_0),(.int .i64 p1_1),(.slice p1_2.a p1_2.n p1_2.c),(.slice p1_3.a p1_3.n p1_3.c)])]) w by kernel_rfl).mp h)
noncomputable def cayleyref21_Check.ann:Ann where
 loops:=fun | _=>[]
 joins:=fun | 3=>some [(0,.sc (.int .i64)),(3,.sc .adr)] | _=>none
noncomputable def cayleyref21_Check.body:Code:=match Tryd.f18.body with | some c=>c | none=>.skip
def cayleyref21_Check.sh (p0:Int) (p1_0:Int) (p1_1:Int) (p1_2:Sl) (p1_3:Sl) (R:Ending → World → Prop) (w:World):Prop:=
 New w (.cells #[(.int .i64 p1_0),(.int .i64 p1_1),(.slice p1_2.a p1_2.n p1_2.c),(.slice p1_3.a p1_3.n p1_3.c)] 27) fun b1 w2=>
 Join (σ:=Int × Addr × Unit) (fun j5 g4 w6=>
  LoadT (.agg [.int .i64,.int .i64,.sl,.sl]) w6 j5.2.1 fun x7=>
  CallT Tryd.prog 57 #[(.int .i64 j5.1),(.agg #[(.int .i64 x7.1),(.int .i64 x7.2.1),(.slice x7.2.2.1.a x7.2.2.1.n x7.2.2.1.c),(.slice x7.2.2.2.1.a x7.2.2.2.1.n x7.2.2.2.1.c)])] (.sc .bool) w6 (fun r8 w9=>
   Br (!r8)
    (R (.returned (.int .i64 210)) w9)
    (R (.returned (.int .i64 0)) w9)) (fun h10 w9=>R (.panicked h10) w9)) fun J3=>
  Br (decide ((p0:Int) < 1))
   (Br true
    (R (.returned (.int .i64 1)) w2)
    (J3 (p0,(Addr.mk b1 0 none),()) w2))
   (Br (decide ((p0:Int) > 8))
    (R (.returned (.int .i64 1)) w2)
    (J3 (p0,(Addr.mk b1 0 none),()) w2))
theorem cayleyref21_Check.calls (p0:Int) (p1_0:Int) (p1_1:Int) (p1_2:Sl) (p1_3:Sl) {R:Ending → World → Prop} {w:World} (h:cayleyref21_Check.sh p0 p1_0 p1_1 p1_2 p1_3 R w):Calls Tryd.prog 18 #[(.int .i64 p0),(.agg #[(.int .i64 p1_0),(.int .i64 p1_1),(.slice p1_2.a p1_2.n p1_2.c),(.slice p1_3.a p1_3.n p1_3.c)])] w R:=calls_of_wpc mixed Tryd.func18 (by kernel_rfl) (by kernel_rfl) ((show _ = wpc Tryd.prog cayleyref21_Check.ann cayleyref21_Check.body (fnKs Tryd.prog Tryd.f18 R) [] (env0 #[(.int .i64 p0),(.agg #[(.int .i64 p1_0),(.int .i64 p1_1),(.slice p1_2.a p1_2.n p1_2.c),(.slice p1_3.a p1_3.n p1_3.c)])]) w by kernel_rfl).mp h)
noncomputable def cayleyref21_Paths.ann:Ann where
 loops:=fun | 5=>[(1,.sc .adr),(3,.sc .sl),(4,.sc .sl),(5,.sc (.int .i64))] | 8=>[(1,.sc .adr),(3,.sc .sl),(4,.sc .sl),(5,.sc (.int .i64)),(6,.sc (.int .i64))] | _=>[]
 joins:=fun | 12=>some [(1,.sc .adr),(3,.sc .sl),(4,.sc .sl),(5,.sc (.int .i64)),(6,.sc (.int .i64)),(7,.sc (.int .i64)),(47,.sc .bool)] | _=>none
noncomputable def cayleyref21_Paths.body:Code:=match Tryd.f32.body with | some c=>c | none=>.skip
def cayleyref21_Paths.sh (p0_0:Int) (p0_1:Int) (p0_2:Sl) (p0_3:Sl) (R:Ending → World → Prop) (w:World):Prop:=
 New w (.cells #[(.int .i64 p0_0),(.int .i64 p0_1),(.slice p0_2.a p0_2.n p0_2.c),(.slice p0_3.a p0_3.n p0_3.c)] 27) fun b1 w2=>
 LoadT (.sc .sl) w2 ((Addr.mk b1 0 none).add 2) fun x3=>
 RunT Tryd.prog (.sc .sl) (Instr.makeSlice 22 (.int .i64 ((x3.n:Nat):Int)) (.int .i64 ((x3.n:Nat):Int))) w2 fun r4 w5=>
 LoadT (.sc .sl) w5 ((Addr.mk b1 0 none).add 2) fun x6=>
 RunT Tryd.prog (.sc .sl) (Instr.makeSlice 24 (.int .i64 ((x6.n:Nat):Int)) (.int .i64 ((x6.n:Nat):Int))) w5 fun r7 w8=>
 Idx r7.a r7.n 1 0 fun a9=>
 Store1 w8 a9 (.bool true) fun w10=>
 LoopT (σ:=Addr × Sl × Sl × Int × Unit) ((Addr.mk b1 0 none),r4,r7,0,()) w10 fun l11 g12 w13 I14=>
  LoadT (.sc .sl) w13 (l11.1.add 2) fun x15=>
  Br (decide ((l11.2.2.2.1:Int) < ((x15.n:Nat):Int)))
   (LoopT (σ:=Addr × Sl × Sl × Int × Int × Unit) (l11.1,l11.2.1,l11.2.2.1,l11.2.2.2.1,0,()) w13 fun l16 g17 w18 I19=>
    LoadT (.sc (.int .i64)) w18 (l16.1.add 0) fun x20=>
    Br (decide ((l16.2.2.2.2.1:Int) < x20))
     (LoadT (.sc .sl) w18 (l16.1.add 3) fun x21=>
     Idx x21.a x21.n 1 l16.2.2.2.1 fun a22=>
     LoadT (.sc .sl) w18 a22 fun x23=>
     Idx x23.a x23.n 1 l16.2.2.2.2.1 fun a24=>
     LoadT (.sc (.int .i64)) w18 a24 fun x25=>
     Join (σ:=Addr × Sl × Sl × Int × Int × Int × Bool × Unit) (fun j28 g27 w31=>
      Br j28.2.2.2.2.2.2.1
       (Idx j28.2.2.1.a j28.2.2.1.n 1 j28.2.2.2.2.2.1 fun a32=>
       Store1 w31 a32 (.bool true) fun w33=>
       ∃ S34:World → Prop,S34 w33.drew ∧
       (Idx j28.2.1.a j28.2.1.n 1 j28.2.2.2.1 fun a35=>
       LoadS S34 (.sc .str) a35 fun x36=>
       CallT Tryd.prog 65 #[(.int .i64 j28.2.2.2.2.1)] (.sc (.int .u8)) w33.drew (fun r37 w38=>
         S34 w38 ∧
         (New w38 (.cells #[(.int .u8 r37)] 5) fun b40 w41=>
          S34 w41 ∧
          (RunT Tryd.prog (.sc .str) (convert 87 9 (.slice (some (Addr.mk b40 0 none)) 1 1)) w41 fun r42 w43=>
           S34 w43 ∧
           ((((x36.size + r42.size:Nat):Int) ≤ 9223372036854775807) ∧
           Idx j28.2.1.a j28.2.1.n 1 j28.2.2.2.2.2.1 fun a44=>
           Store1 w43 a44 (.string (x36 ++ r42)) fun w45=>
            I19 (j28.1,j28.2.1,j28.2.2.1,j28.2.2.2.1,(IntKind.wrap .i64 (j28.2.2.2.2.1 + 1)),()) w45)))) (fun h39 w38=>R (.panicked h39) w38)))
       (I19 (j28.1,j28.2.1,j28.2.2.1,j28.2.2.2.1,(IntKind.wrap .i64 (j28.2.2.2.2.1 + 1)),()) w31)) fun J26=>
      Br (decide ((x25:Int) ≥ 0))
       (Idx l16.2.2.1.a l16.2.2.1.n 1 x25 fun a29=>
       LoadT (.sc .bool) w18 a29 fun x30=>
       J26 (l16.1,l16.2.1,l16.2.2.1,l16.2.2.2.1,l16.2.2.2.2.1,x25,(!x30),()) w18)
       (J26 (l16.1,l16.2.1,l16.2.2.1,l16.2.2.2.1,l16.2.2.2.2.1,x25,false,()) w18))
     (I14 (l16.1,l16.2.1,l16.2.2.1,(IntKind.wrap .i64 (l16.2.2.2.1 + 1)),()) w18))
   (R (.returned (.slice l11.2.1.a l11.2.1.n l11.2.1.c)) w13)
theorem cayleyref21_Paths.calls (p0_0:Int) (p0_1:Int) (p0_2:Sl) (p0_3:Sl) {R:Ending → World → Prop} {w:World} (h:cayleyref21_Paths.sh p0_0 p0_1 p0_2 p0_3 R w):Calls Tryd.prog 32 #[(.agg #[(.int .i64 p0_0),(.int .i64 p0_1),(.slice p0_2.a p0_2.n p0_2.c),(.slice p0_3.a p0_3.n p0_3.c)])] w R:=calls_of_wpc mixed Tryd.func32 (by kernel_rfl) (by kernel_rfl) ((show _ = wpc Tryd.prog cayleyref21_Paths.ann cayleyref21_Paths.body (fnKs Tryd.prog Tryd.f32 R) [] (env0 #[(.agg #[(.int .i64 p0_0),(.int .i64 p0_1),(.slice p0_2.a p0_2.n p0_2.c),(.slice p0_3.a p0_3.n p0_3.c)])]) w by kernel_rfl).mp h)
noncomputable def cayleyref21_Basis.ann:Ann where
 loops:=fun | 4=>[(1,.sc .adr),(3,.sc .sl),(4,.sc .sl),(5,.sc (.int .i64))] | 7=>[(1,.sc .adr),(3,.sc .sl),(4,.sc .sl),(5,.sc (.int .i64)),(6,.sc (.int .i64))] | _=>[]
 joins:=fun | _=>none
noncomputable def cayleyref21_Basis.body:Code:=match Tryd.f30.body with | some c=>c | none=>.skip
def cayleyref21_Basis.sh (p0_0:Int) (p0_1:Int) (p0_2:Sl) (p0_3:Sl) (R:Ending → World → Prop) (w:World):Prop:=
 New w (.cells #[(.int .i64 p0_0),(.int .i64 p0_1),(.slice p0_2.a p0_2.n p0_2.c),(.slice p0_3.a p0_3.n p0_3.c)] 27) fun b1 w2=>
 LoadT (.agg [.int .i64,.int .i64,.sl,.sl]) w2 (Addr.mk b1 0 none) fun x3=>
 CallT Tryd.prog 32 #[(.agg #[(.int .i64 x3.1),(.int .i64 x3.2.1),(.slice x3.2.2.1.a x3.2.2.1.n x3.2.2.1.c),(.slice x3.2.2.2.1.a x3.2.2.2.1.n x3.2.2.2.1.c)])] (.sc .sl) w2 (fun r4 w5=>
  New w5 (.cells #[] 9) fun b7 w8=>
  LoopT (σ:=Addr × Sl × Sl × Int × Unit) ((Addr.mk b1 0 none),r4,⟨(some (Addr.mk b7 0 none)),0,0⟩,0,()) w8 fun l9 g10 w11 I12=>
   LoadT (.sc .sl) w11 (l9.1.add 2) fun x13=>
   Br (decide ((l9.2.2.2.1:Int) < ((x13.n:Nat):Int)))
    (LoopT (σ:=Addr × Sl × Sl × Int × Int × Unit) (l9.1,l9.2.1,l9.2.2.1,l9.2.2.2.1,0,()) w11 fun l14 g15 w16 I17=>
     LoadT (.sc (.int .i64)) w16 (l14.1.add 0) fun x18=>
     Br (decide ((l14.2.2.2.2.1:Int) < x18))
      (LoadT (.sc .sl) w16 (l14.1.add 3) fun x19=>
      Idx x19.a x19.n 1 l14.2.2.2.1 fun a20=>
      LoadT (.sc .sl) w16 a20 fun x21=>
      Idx x21.a x21.n 1 l14.2.2.2.2.1 fun a22=>
      LoadT (.sc (.int .i64)) w16 a22 fun x23=>
      Br (decide ((x23:Int) ≥ 0))
       (CallT Tryd.prog 65 #[(.int .i64 l14.2.2.2.2.1)] (.sc (.int .u8)) w16 (fun r24 w25=>
        New w25 (.cells #[(.int .u8 r24)] 5) fun b27 w28=>
        RunT Tryd.prog (.sc .str) (convert 87 9 (.slice (some (Addr.mk b27 0 none)) 1 1)) w28 fun r29 w30=>
        ∃ S31:World → Prop,S31 w30.drew ∧
        (Idx l14.2.1.a l14.2.1.n 1 l14.2.2.2.1 fun a32=>
        LoadS S31 (.sc .str) a32 fun x33=>
        (((x33.size + r29.size:Nat):Int) ≤ 9223372036854775807) ∧
        Idx l14.2.1.a l14.2.1.n 1 x23 fun a34=>
        LoadS S31 (.sc .str) a34 fun x35=>
        CallT Tryd.prog 16 #[(.string x35)] (.sc .str) w30.drew (fun r36 w37=>
          S31 w37 ∧
          (((((x33 ++ r29).size + r36.size:Nat):Int) ≤ 9223372036854775807) ∧
          CallT Tryd.prog 25 #[(.string ((x33 ++ r29) ++ r36))] (.sc .str) w37 (fun r39 w40=>
            S31 w40 ∧
            (Br (!(r39.toList == (ByteArray.mk #[]).toList))
             (New w40 (.cells #[(.string r39)] 9) fun b42 w43=>
             RunT Tryd.prog (.sc .sl) (Builtin.append_ #[22,22] 22 #[(.slice l14.2.2.1.a l14.2.2.1.n l14.2.2.1.c),(.slice (some (Addr.mk b42 0 none)) 1 1)]) w43 fun r44 w45=>
             I17 (l14.1,l14.2.1,r44,l14.2.2.2.1,(IntKind.wrap .i64 (l14.2.2.2.2.1 + 2)),()) w45)
             (I17 (l14.1,l14.2.1,l14.2.2.1,l14.2.2.2.1,(IntKind.wrap .i64 (l14.2.2.2.2.1 + 2)),()) w40))) (fun h41 w40=>R (.panicked h41) w40))) (fun h38 w37=>R (.panicked h38) w37))) (fun h26 w25=>R (.panicked h26) w25))
       (I17 (l14.1,l14.2.1,l14.2.2.1,l14.2.2.2.1,(IntKind.wrap .i64 (l14.2.2.2.2.1 + 2)),()) w16))
      (I12 (l14.1,l14.2.1,l14.2.2.1,(IntKind.wrap .i64 (l14.2.2.2.1 + 1)),()) w16))
    (R (.returned (.slice l9.2.2.1.a l9.2.2.1.n l9.2.2.1.c)) w11)) (fun h6 w5=>R (.panicked h6) w5)
theorem cayleyref21_Basis.calls (p0_0:Int) (p0_1:Int) (p0_2:Sl) (p0_3:Sl) {R:Ending → World → Prop} {w:World} (h:cayleyref21_Basis.sh p0_0 p0_1 p0_2 p0_3 R w):Calls Tryd.prog 30 #[(.agg #[(.int .i64 p0_0),(.int .i64 p0_1),(.slice p0_2.a p0_2.n p0_2.c),(.slice p0_3.a p0_3.n p0_3.c)])] w R:=calls_of_wpc mixed Tryd.func30 (by kernel_rfl) (by kernel_rfl) ((show _ = wpc Tryd.prog cayleyref21_Basis.ann cayleyref21_Basis.body (fnKs Tryd.prog Tryd.f30 R) [] (env0 #[(.agg #[(.int .i64 p0_0),(.int .i64 p0_1),(.slice p0_2.a p0_2.n p0_2.c),(.slice p0_3.a p0_3.n p0_3.c)])]) w by kernel_rfl).mp h)
noncomputable def cayleyref21_Rank.ann:Ann where
 loops:=fun | _=>[]
 joins:=fun | _=>none
noncomputable def cayleyref21_Rank.body:Code:=match Tryd.f37.body with | some c=>c | none=>.skip
def cayleyref21_Rank.sh (p0_0:Int) (p0_1:Int) (p0_2:Sl) (p0_3:Sl) (R:Ending → World → Prop) (w:World):Prop:=
 New w (.cells #[(.int .i64 p0_0),(.int .i64 p0_1),(.slice p0_2.a p0_2.n p0_2.c),(.slice p0_3.a p0_3.n p0_3.c)] 27) fun b1 w2=>
 LoadT (.agg [.int .i64,.int .i64,.sl,.sl]) w2 (Addr.mk b1 0 none) fun x3=>
 CallT Tryd.prog 30 #[(.agg #[(.int .i64 x3.1),(.int .i64 x3.2.1),(.slice x3.2.2.1.a x3.2.2.1.n x3.2.2.1.c),(.slice x3.2.2.2.1.a x3.2.2.2.1.n x3.2.2.2.1.c)])] (.sc .sl) w2 (fun r4 w5=>
  R (.returned (.int .i64 ((r4.n:Nat):Int))) w5) (fun h6 w5=>R (.panicked h6) w5)
theorem cayleyref21_Rank.calls (p0_0:Int) (p0_1:Int) (p0_2:Sl) (p0_3:Sl) {R:Ending → World → Prop} {w:World} (h:cayleyref21_Rank.sh p0_0 p0_1 p0_2 p0_3 R w):Calls Tryd.prog 37 #[(.agg #[(.int .i64 p0_0),(.int .i64 p0_1),(.slice p0_2.a p0_2.n p0_2.c),(.slice p0_3.a p0_3.n p0_3.c)])] w R:=calls_of_wpc mixed Tryd.func37 (by kernel_rfl) (by kernel_rfl) ((show _ = wpc Tryd.prog cayleyref21_Rank.ann cayleyref21_Rank.body (fnKs Tryd.prog Tryd.f37 R) [] (env0 #[(.agg #[(.int .i64 p0_0),(.int .i64 p0_1),(.slice p0_2.a p0_2.n p0_2.c),(.slice p0_3.a p0_3.n p0_3.c)])]) w by kernel_rfl).mp h)
end Go.Proofs.YtffdjfkekdoeaaaDoor
end
section
set_option maxRecDepth 8000
set_option maxHeartbeats 4000000
namespace Go.Proofs.YtffdjfkekdoeaaaDoor.Rf
open Fw Wd Fo
abbrev tI:Ty:=.sc (.int .i64)
theorem conv53 (w:World) (c:Int) (h0:0 ≤ c) (h1:c ≤ 255):(convert 5 3 (.int .u8 c)).run Tryd.prog w = .ok (.int .i64 c) w:=by
 have hw:IntKind.wrap .i64 c = c:=wrap64 (by omega) (by omega)
 simp [convert,run_underlying under5,run_underlying under3,Conv.intToInt,hw]
theorem conv35 (w:World) (c:Int) (h0:0 ≤ c) (h1:c ≤ 255):(convert 3 5 (.int .i64 c)).run Tryd.prog w = .ok (.int .u8 c) w:=by
 have hw:IntKind.wrap .u8 c = c:=by simp [IntKind.wrap,IntKind.bits,IntKind.signed]; omega
 simp [convert,run_underlying under5,run_underlying under3,Conv.intToInt,hw]
theorem wrap8 {x:Int} (h0:0 ≤ x) (h1:x ≤ 255):IntKind.wrap .u8 x = x:=by simp [IntKind.wrap,IntKind.bits,IntKind.signed]; omega
theorem idx_low:∀ c:Fin 256,(97 ≤ c.val ∧ c.val < 105 → idxF (c.val:Int) = 2 * ((c.val:Int) - 97)) ∧ (65 ≤ c.val ∧ c.val < 73 → idxF (c.val:Int) = 2 * ((c.val:Int) - 65) + 1) ∧ (¬ (97 ≤ c.val ∧ c.val < 105) → ¬ (65 ≤ c.val ∧ c.val < 73) → idxF (c.val:Int) = -1):=by decide +kernel
theorem idx_at {c:Int} (h0:0 ≤ c) (h1:c ≤ 255):(97 ≤ c ∧ c < 105 → idxF c = 2 * (c - 97)) ∧ (65 ≤ c ∧ c < 73 → idxF c = 2 * (c - 65) + 1) ∧ (¬ (97 ≤ c ∧ c < 105) → ¬ (65 ≤ c ∧ c < 73) → idxF c = -1):=by
 obtain ⟨n,rfl⟩:=Int.eq_ofNat_of_zero_le h0
 have:=idx_low ⟨n,by omega⟩
 refine ⟨fun h=>this.1 (by dsimp only; omega),fun h=>this.2.1 (by dsimp only; omega),fun h h'=>this.2.2 (by dsimp only; omega) (by dsimp only; omega)⟩
theorem Index_ret (w:World) (c:Int) (h0:0 ≤ c) (h1:c ≤ 255):Ret Tryd.prog 61 #[.int .u8 c] tI w fun x w'=>x = idxF c ∧ w' = w:=by
 obtain ⟨i1,i2,i3⟩:=idx_at h0 h1
 refine cayleyref01_Index.calls c ?_
 unfold cayleyref01_Index.sh
 refine Join.by' (fun x w'=>x = (c,decide (97 ≤ c ∧ c < 105),()) ∧ w' = w) ?_ ?_
 ·rintro x w' g ⟨rfl,hw⟩
  rw [hw]; clear hw
  dsimp only
  refine Br.mk (fun hb=>?_) (fun hb=>?_)
  ·have hb':97 ≤ c ∧ c < 105:=by simpa using hb
   rw [wrap8 (by omega) (by omega)]
   refine ⟨c - 97,w,conv53 w _ (by omega) (by omega),?_⟩
   dsimp only
   rw [wrap64 (by omega) (by omega)]
   exact ⟨_,rfl,(i1 hb').symm,rfl⟩
  ·have hb':¬ (97 ≤ c ∧ c < 105):=by simpa using hb
   refine Join.by' (fun x w'=>x = (c,decide (65 ≤ c ∧ c < 73),()) ∧ w' = w) ?_ ?_
   ·rintro x w' g ⟨rfl,hw⟩
    rw [hw]; clear hw
    dsimp only
    refine Br.mk (fun hc=>?_) (fun hc=>?_)
    ·have hc':65 ≤ c ∧ c < 73:=by simpa using hc
     rw [wrap8 (by omega) (by omega)]
     refine ⟨c - 65,w,conv53 w _ (by omega) (by omega),?_⟩
     dsimp only
     rw [wrap64 (x:=2 * (c - 65)) (by omega) (by omega),wrap64 (by omega) (by omega)]
     exact ⟨_,rfl,(i2 hc').symm,rfl⟩
    ·have hc':¬ (65 ≤ c ∧ c < 73):=by simpa using hc
     exact ⟨_,rfl,(i3 hb' hc').symm,rfl⟩
   ·intro J hJ
    refine Br.dec (fun h=>hJ _ _ ⟨?_,rfl⟩) (fun h=>hJ _ _ ⟨?_,rfl⟩)
    ·have h:c ≥ 65:=h
     simp [h]
    ·have h:¬ c ≥ 65:=h
     simp [h]
 ·intro J hJ
  refine Br.dec (fun h=>hJ _ _ ⟨?_,rfl⟩) (fun h=>hJ _ _ ⟨?_,rfl⟩)
  ·have h:c ≥ 97:=h
   simp [h]
  ·have h:¬ c ≥ 97:=h
   simp [h]
theorem let_low:∀ i:Fin 16,letF (i.val:Int) = (if i.val % 2 = 0 then 97 else 65) + ((i.val / 2:Nat):Int):=by decide
theorem Letter_ret (w:World) (i:Int):Ret Tryd.prog 65 #[.int .i64 i] (.sc (.int .u8)) w fun x w'=>x = letF i ∧ w' = w:=by
 refine cayleyref01_Letter.calls i ?_
 unfold cayleyref01_Letter.sh
 refine Join.by' (fun x w'=>x = (i,()) ∧ w' = w ∧ 0 ≤ i ∧ i < 16) ?_ ?_
 ·rintro x w' g ⟨rfl,hw,h0,h1⟩
  rw [hw]; clear hw
  dsimp only
  obtain ⟨n,rfl⟩:=Int.eq_ofNat_of_zero_le h0
  have hn:n < 16:=by omega
  have hl:=let_low ⟨n,hn⟩
  dsimp only at hl
  have e1:Int.tmod (n:Int) 2 = ((n % 2:Nat):Int):=rfl
  have e2:Int.tdiv (n:Int) 2 = ((n / 2:Nat):Int):=rfl
  rw [e1,e2,wrap64 (by omega) (by omega)]
  refine ⟨by decide,Br.mk (fun hb=>?_) (fun hb=>?_)⟩
  ·have hb':n % 2 = 0:=by have:((n % 2:Nat):Int) = 0:=by simpa using hb
                          omega
   rw [if_pos hb'] at hl
   refine ⟨by decide,((n / 2:Nat):Int),w,conv35 w _ (by omega) (by omega),?_⟩
   dsimp only
   rw [wrap8 (by omega) (by omega)]
   exact ⟨_,rfl,hl.symm,rfl⟩
  ·have hb':¬ n % 2 = 0:=fun he=>by rw [he] at hb; simp at hb
   rw [if_neg hb'] at hl
   refine ⟨by decide,((n / 2:Nat):Int),w,conv35 w _ (by omega) (by omega),?_⟩
   dsimp only
   rw [wrap8 (by omega) (by omega)]
   exact ⟨_,rfl,hl.symm,rfl⟩
 ·intro J hJ
  refine Br.dec (fun h=>Br.t rfl ⟨_,rfl,by rw [letF,if_neg (by omega)],rfl⟩) (fun h=>Br.dec (fun h2=>⟨_,rfl,by rw [letF,if_neg (by omega)],rfl⟩) (fun h2=>hJ _ _ ⟨rfl,rfl,by omega,by omega⟩))
theorem byte_high:∀ c:Fin 256,127 < c.val → idxF (c.val:Int) = -1:=by decide +kernel
theorem bad_byte (k:Int) (b:UInt8):badF k (b.toNat:Int) = (decide (idxF (ofB b) < 0) || decide (idxF (ofB b) ≥ 2 * k)):=by
 have hb:ofB b = (b.toNat:Int):=rfl
 rw [hb]
 unfold badF
 by_cases h:(b.toNat:Int) > 127
 ·have:=byte_high ⟨b.toNat,UInt8.toNat_lt b⟩ (by dsimp only; omega)
  dsimp only at this
  rw [this]; simp
 ·simp [h]
theorem Check_ret (w:World) (k:Int) (s:ByteArray):Ret Tryd.prog 60 #[.int .i64 k,.string s] tI w fun x w'=>x = checkF k s ∧ w' = w:=by
 refine cayleyref01_Check.calls k s ?_
 unfold cayleyref01_Check.sh
 refine Join.by' (fun x w'=>x = (k,s,()) ∧ w' = w ∧ ¬ (k < 1 ∨ k > 8)) ?_ ?_
 ·rintro x w' g ⟨rfl,hw,hk⟩
  rw [hw]; clear hw
  dsimp only
  have hE:checkF k s = if (s.size:Int) > 100000 then 2 else if hasBad k s then 4 else 0:=by unfold checkF; rw [if_neg hk]
  rw [hE]
  refine Br.dec (fun h=>⟨_,rfl,by rw [if_pos h],rfl⟩) (fun h=>?_)
  rw [if_neg h]
  refine LoopT.mk (fun x w'=>∃ i:Nat,i ≤ s.size ∧ x = (k,s,(i:Int),()) ∧ w' = w ∧ (s.data.toList.drop i).any (fun b=>badF k (b.toNat:Int)) = hasBad k s) (fun x _=>s.size - x.2.2.1.toNat) ⟨0,Nat.zero_le _,rfl,rfl,rfl⟩ ?_
  rintro x g2 w2 ⟨i,hi,rfl,hw,hany⟩
  rw [hw]; clear hw
  dsimp only
  refine Br.dec (fun hlt=>?_) (fun hge=>?_)
  ·have hlt':i < s.size:=by omega
   have hdrop:s.data.toList.drop i = s[i] :: s.data.toList.drop (i + 1):=by
    rw [List.drop_eq_getElem_cons (by simpa using hlt')]; rfl
   rw [hdrop,List.any_cons,bad_byte] at hany
   refine StrIdx.mk i rfl hlt' ?_
   have hb:=UInt8.toNat_lt s[i]
   refine Ret.call (Index_ret w _ (by unfold ofB; omega) (by unfold ofB; omega)) ?_
   rintro _ w3 ⟨rfl,hw⟩
   rw [hw]; clear hw
   rw [wrap64 (x:=2 * k) (by omega) (by omega),wrap64 (x:=(i:Int) + 1) (by omega) (by omega)]
   refine Br.dec (fun h1=>Br.t rfl ⟨_,rfl,?_,rfl⟩) (fun h1=>Br.dec (fun h2=>⟨_,rfl,?_,rfl⟩) (fun h2=>?_))
   ·have h1:idxF (ofB s[i]) < 0:=h1
    rw [← hany]; simp [h1]
   ·have h2:idxF (ofB s[i]) ≥ 2 * k:=h2
    rw [← hany]; simp [h2]
   ·have h1:¬ idxF (ofB s[i]) < 0:=h1
    have h2:¬ idxF (ofB s[i]) ≥ 2 * k:=h2
    refine ⟨⟨i + 1,hlt',rfl,rfl,?_⟩,?_⟩
    ·rw [← hany]; simp [h1,h2]
    ·show s.size - (i + 1) < s.size - i
     omega
  ·have:i = s.size:=by omega
   subst this
   rw [List.drop_eq_nil_of_le (by simp)] at hany
   exact ⟨_,rfl,by rw [← hany]; rfl,rfl⟩
 ·intro J hJ
  refine Br.dec (fun h=>Br.t rfl ⟨_,rfl,by rw [checkF,if_pos (.inl h)],rfl⟩) (fun h=>Br.dec (fun h2=>⟨_,rfl,by rw [checkF,if_pos (.inr h2)],rfl⟩) (fun h2=>hJ _ _ ⟨rfl,rfl,by omega⟩))
theorem IsWord_ret (w:World) (k:Int) (s:ByteArray):Ret Tryd.prog 22 #[.int .i64 k,.string s] (.sc .bool) w fun x w'=>x = (checkF k s == 0) ∧ w' = w:=by
 refine cayleyref21_IsWord.calls k s ?_
 unfold cayleyref21_IsWord.sh
 refine Ret.call (Check_ret w k s) ?_
 rintro _ w1 ⟨rfl,hw⟩
 exact ⟨_,rfl,rfl,hw⟩
theorem Is_ret (w:World) (s:ByteArray):Ret Tryd.prog 53 #[.string s] (.sc .bool) w fun x w'=>x = (checkF 8 s == 0) ∧ w' = w:=by
 refine cayleyref01_Is.calls s ?_
 unfold cayleyref01_Is.sh
 refine Ret.call (Check_ret w 8 s) ?_
 rintro _ w1 ⟨rfl,hw⟩
 exact ⟨_,rfl,rfl,hw⟩
theorem other_low:∀ c:Fin 256,0 ≤ idxF (c.val:Int) → letF (((idxF (c.val:Int)).toNat ^^^ 1:Nat):Int) = ((UInt8.ofNat c.val ^^^ 32).toNat:Int) ∧ (idxF (c.val:Int)).toNat < 16:=by decide +kernel
theorem Other_ret (w:World) (b:UInt8) (hb:0 ≤ idxF (ofB b)):Ret Tryd.prog 54 #[.int .u8 (ofB b)] (.sc (.int .u8)) w fun x w'=>x = ofB (otherB b) ∧ w' = w:=by
 have hlt:=UInt8.toNat_lt b
 obtain ⟨h1,h2⟩:=other_low ⟨b.toNat,hlt⟩ hb
 refine cayleyref01_Other.calls _ ?_
 unfold cayleyref01_Other.sh
 refine Ret.call (Index_ret w _ (by unfold ofB; omega) (by unfold ofB; omega)) ?_
 rintro _ w1 ⟨rfl,hw⟩
 rw [hw]; clear hw
 have e:idxF (ofB b) = (((idxF (ofB b)).toNat:Nat):Int):=by omega
 rw [e,xor1 _ (by have:(idxF (ofB b)).toNat < 16:=h2; omega)]
 refine Ret.call (Letter_ret w _) ?_
 rintro _ w2 ⟨rfl,hw⟩
 refine ⟨_,rfl,?_,hw⟩
 have hu:UInt8.ofNat b.toNat = b:=UInt8.ofNat_toNat
 rw [hu] at h1
 exact h1
end Go.Proofs.YtffdjfkekdoeaaaDoor.Rf
end
section
set_option maxRecDepth 8000
set_option maxHeartbeats 4000000
namespace Go.Proofs.YtffdjfkekdoeaaaDoor.Rf
open Fw Wd Fo
theorem idx_of_check {s:ByteArray} (h:checkF 8 s = 0) (i:Nat) (hi:i < s.size):0 ≤ idxF (ofB s[i]):=by
 have:=(check8 h).2 s[i] (by
  have:=bytes_get s i hi
  exact List.mem_of_getElem? this)
 exact this
theorem Reduce_ret (w:World) (s:ByteArray):Ret Tryd.prog 25 #[.string s] (.sc .str) w fun x w'=>x = ReduceF s ∧ Chg Nil w w':=by
 refine cayleyref01_Reduce.calls s ?_
 unfold cayleyref01_Reduce.sh
 refine Ret.call (Is_ret w s) ?_
 rintro _ w1 ⟨rfl,hw⟩
 rw [hw]; clear hw
 refine Br.mk (fun hb=>⟨_,rfl,?_,Chg.refl w⟩) (fun hb=>?_)
 ·rw [ReduceF,if_neg]; simpa using hb
 have hz:checkF 8 s = 0:=by simpa using hb
 have hsz:=check_size hz
 rw [show ReduceF s = ⟨(redF s.data.toList).toArray⟩ by rw [ReduceF,if_pos hz]]
 refine LoopT.mk (fun x w'=>∃ (j:Nat) (o:Sl) (out:List UInt8),j ≤ s.size ∧ x = (s,o,(j:Int),()) ∧ Chg Nil w w' ∧ OwnB w' o out ∧ (∀ k,o.own k → w.heap.size ≤ k) ∧ (s.data.toList.drop j).foldl redStep out = redF s.data.toList ∧ out.length ≤ j) (fun x _=>s.size - x.2.2.1.toNat)
  ⟨0,⟨none,0,0⟩,[],Nat.zero_le _,rfl,Chg.refl w,OwnT.nil w 5 tB,fun k hk=>Own.nilk k hk,rfl,by simp⟩ ?_
 rintro x g w2 ⟨j,o2,out,hj,rfl,hc2,ho,hown,hred,hlen⟩
 dsimp only
 have hon:o2.n = out.length:=by rw [ho.len,List.length_map]
 refine Br.dec (fun hlt=>?_) (fun hge=>?_)
 ·have hlt':j < s.size:=by omega
  have hdrop:s.data.toList.drop j = s[j] :: s.data.toList.drop (j + 1):=by
   rw [List.drop_eq_getElem_cons (by simpa using hlt')]; rfl
  rw [hdrop,List.foldl_cons] at hred
  have hwj:IntKind.wrap .i64 ((j:Int) + 1) = ((j + 1:Nat):Int):=by rw [wrap64 (by omega) (by omega)]; rfl
  have hmu:s.size - (j + 1) < s.size - j:=by omega
  refine Join.by' (fun x w'=>∃ b:Bool,x = (s,o2,(j:Int),(out.length:Int),b,()) ∧ Chg Nil w2 w' ∧ (b = true ↔ out.getLast? = some (otherB s[j]))) ?_ ?_
  ·rintro x w3 g3 ⟨b,rfl,hc3,hb⟩
   dsimp only
   have ho3:OwnB w3 o2 out:=ho.chg hc3 fun _ _ h=>h
   rw [hwj]
   refine Br.mk (fun h=>?_) (fun h=>?_)
   ·have hl:=hb.1 h
    have hpos:0 < out.length:=by
     cases out with
     | nil=>simp at hl
     | cons _ _=>simp
    rw [wrap64 (by omega) (by omega)]
    refine OwnT.upto (t:=tB) ok87 ho3 (out.length - 1) (by omega) (by rw [List.length_map]; omega) fun s' hs' hown' hsn=>?_
    refine ⟨⟨j + 1,s',out.dropLast,hlt',rfl,hc2.then hc3,?_,fun k hk=>hown k (hown' k hk),?_,?_⟩,hmu⟩
    ·unfold OwnB; rw [List.dropLast_eq_take,List.map_take]; exact hs'
    ·rw [redStep,if_pos hl] at hred; exact hred
    ·rw [List.length_dropLast]; omega
   ·have hl:¬ out.getLast? = some (otherB s[j]):=fun hl=>by rw [hb.2 hl] at h; cases h
    refine StrIdx.mk j rfl hlt' ?_
    refine New.mk fun b' w4 hb' hnew hsz' hc4=>?_
    have ho4:OwnB w4 o2 out:=ho3.chg hc4 fun _ _ h=>h
    refine OwnT.append (t:=tB) (m:=1) ok87 rfl (by decide) ho4 [ofB s[j]] rfl (by decide) (fun i v hv=>?_) ?_ ?_ fun o' w5 ho5 hc5 hown5=>?_
    ·rw [cellOf hnew]; simpa [Ty.cells] using hv
    ·rw [List.length_map]; omega
    ·rw [List.length_map]; simp only [maxLen]; omega
    have hw4:w.heap.size ≤ w4.heap.size:=((hc2.then hc3).then hc4).size
    refine ⟨⟨j + 1,o',out ++ [s[j]],hlt',rfl,?_,?_,fun k hk=>?_,?_,?_⟩,hmu⟩
    ·exact ((hc2.then hc3).then hc4).trans hc5 (fun _ _ h=>h) fun i hi hk=>by have:=hown i hk; omega
    ·unfold OwnB; rw [List.map_append]; exact ho5
    ·rcases hown5 k hk with hk | hk
     ·exact hown k hk
     ·omega
    ·rw [redStep,if_neg hl] at hred; exact hred
    ·simp; omega
  ·intro J hJ
   have hd:Chg Nil w2 w2.drew:=Chg.drew w2
   refine ⟨fun w'=>Chg Nil w2 w',hd,?_⟩
   refine Br.dec (fun hpos=>?_) (fun hzero=>?_)
   ·have hpos':0 < out.length:=by omega
    have hlast:out[out.length - 1]? = out.getLast?:=by rw [List.getLast?_eq_getElem?]
    obtain ⟨c,hcl⟩:∃ c,out.getLast? = some c:=by
     cases hg:out.getLast? with
     | none=>rw [List.getLast?_eq_none_iff] at hg; subst hg; simp at hpos'
     | some c=>exact ⟨c,rfl⟩
    rw [hcl] at hlast
    have hm:(out.map ofB)[out.length - 1]? = some (ofB c):=by rw [List.getElem?_map,hlast]; rfl
    rw [wrap64 (by omega) (by omega)]
    refine ho.idx (t:=tB) (out.length - 1) (by omega) (by rw [List.length_map]; omega) fun g hg=>?_
    refine LoadS.sc (s:=.int .u8) (x:=ofB c) (fun w' hw=>(ho.chg hw fun _ _ h=>h).rd.cell1 hg hm) ?_
    refine StrIdx.mk j rfl hlt' ?_
    refine Ret.call (Other_ret _ _ (idx_of_check hz j hlt')) ?_
    rintro _ _ ⟨rfl,rfl⟩
    refine ⟨hd,hJ _ _ ⟨_,by rw [hon],hd,?_⟩⟩
    rw [hcl]
    simp [ofB_inj]
   ·have hz:out = []:=by
     cases out with
     | nil=>rfl
     | cons _ _=>rw [hon] at hzero; simp at hzero
    refine hJ _ _ ⟨false,by rw [hon],hd,?_⟩
    subst hz; simp
 ·have:j = s.size:=by omega
  subst this
  rw [List.drop_eq_nil_of_le (by simp)] at hred
  have hred:out = redF s.data.toList:=hred
  rw [← hred]
  exact bytes_string under87 under5 under9 ho.rd ⟨_,rfl,rfl,hc2⟩
theorem Inverse_ret (w:World) (s:ByteArray):Ret Tryd.prog 16 #[.string s] (.sc .str) w fun x w'=>x = InverseF s ∧ Chg Nil w w':=by
 refine cayleyref01_Inverse.calls s ?_
 unfold cayleyref01_Inverse.sh
 refine Ret.call (Is_ret w s) ?_
 rintro _ w1 ⟨rfl,hw⟩
 rw [hw]; clear hw
 refine Br.mk (fun hb=>⟨_,rfl,?_,Chg.refl w⟩) (fun hb=>?_)
 ·rw [InverseF,if_neg]; simpa using hb
 have hz:checkF 8 s = 0:=by simpa using hb
 have hsz:=check_size hz
 rw [show InverseF s = ⟨(invF s.data.toList).toArray⟩ by rw [InverseF,if_pos hz]]
 rw [wrap64 (by omega) (by omega)]
 refine LoopT.mk (fun x w'=>∃ (j:Nat) (o:Sl) (out:List UInt8),j ≤ s.size ∧ x = (s,o,(s.size:Int) - 1 - (j:Int),()) ∧ Chg Nil w w' ∧ OwnB w' o out ∧ (∀ k,o.own k → w.heap.size ≤ k) ∧ out = invF (s.data.toList.drop (s.size - j)) ∧ out.length = j) (fun x _=>(x.2.2.1 + 1).toNat)
  ⟨0,⟨none,0,0⟩,[],Nat.zero_le _,by simp,Chg.refl w,OwnT.nil w 5 tB,fun k hk=>Own.nilk k hk,by rw [List.drop_eq_nil_of_le (by simp)]; rfl,rfl⟩ ?_
 rintro x g w2 ⟨j,o2,out,hj,rfl,hc2,ho,hown,hred,hlen⟩
 dsimp only
 refine Br.dec (fun hlt=>?_) (fun hge=>?_)
 ·have hlt':j < s.size:=by omega
  refine StrIdx.mk (s.size - 1 - j) (by omega) (by omega) ?_
  refine Ret.call (Other_ret _ _ (idx_of_check hz _ (by omega))) ?_
  rintro _ w3 ⟨rfl,hw⟩
  rw [hw]; clear hw
  refine New.mk fun b' w4 hb' hnew hsz' hc4=>?_
  have ho4:OwnB w4 o2 out:=ho.chg hc4 fun _ _ h=>h
  refine OwnT.append (t:=tB) (m:=1) ok87 rfl (by decide) ho4 [ofB (otherB s[s.size - 1 - j])] rfl (by decide) (fun i v hv=>?_) ?_ ?_ fun o' w5 ho5 hc5 hown5=>?_
  ·rw [cellOf hnew]; simpa [Ty.cells] using hv
  ·rw [List.length_map]; omega
  ·rw [List.length_map]; simp only [maxLen]; omega
  have hw4:w.heap.size ≤ w4.heap.size:=(hc2.then hc4).size
  rw [wrap64 (by omega) (by omega)]
  refine ⟨⟨j + 1,o',out ++ [otherB s[s.size - 1 - j]],hlt',by congr 3; omega,?_,?_,fun k hk=>?_,?_,?_⟩,?_⟩
  ·exact (hc2.then hc4).trans hc5 (fun _ _ h=>h) fun i hi hk=>by have:=hown i hk; omega
  ·unfold OwnB; rw [List.map_append]; exact ho5
  ·rcases hown5 k hk with hk | hk
   ·exact hown k hk
   ·omega
  ·have hd:s.data.toList.drop (s.size - (j + 1)) = s[s.size - 1 - j] :: s.data.toList.drop (s.size - j):=by
    rw [show s.size - (j + 1) = s.size - 1 - j by omega,List.drop_eq_getElem_cons (by simp; omega),show s.size - 1 - j + 1 = s.size - j by omega]; rfl
   rw [hd]
   simp only [invF,List.map_cons,List.reverse_cons]
   exact congrArg (· ++ [otherB s[s.size - 1 - j]]) hred
  ·simp [hlen]
  ·show ((s.size:Int) - 1 - (j:Int) - 1 + 1).toNat < ((s.size:Int) - 1 - (j:Int) + 1).toNat
   omega
 ·have:j = s.size:=by omega
  subst this
  rw [Nat.sub_self,List.drop_zero] at hred
  subst hred
  exact bytes_string under87 under5 under9 ho.rd ⟨_,rfl,rfl,hc2⟩
end Go.Proofs.YtffdjfkekdoeaaaDoor.Rf
end
section
set_option maxRecDepth 8000
set_option maxHeartbeats 4000000
namespace Go.Proofs.YtffdjfkekdoeaaaDoor.Rf
open Fw Wd Fo
theorem take_snoc {α:Type} {l:List α} {i:Nat} (h:i < l.length):l.take (i + 1) = l.take i ++ [l[i]]:=by rw [List.take_add_one,List.getElem?_eq_getElem h]; rfl
theorem sameInts_ret {w:World} {s1 s2:Sl} {l1 l2:List Int} (h1:RdT w tI s1 l1) (h2:RdT w tI s2 l2) (hb:l1.length ≤ maxLen):Ret Tryd.prog 52 #[s1.v,s2.v] (.sc .bool) w fun x w'=>x = decide (l1 = l2) ∧ Chg Nil w w':=by
 refine cayleyref06_sameInts.calls s1 s2 ?_
 unfold cayleyref06_sameInts.sh
 have e1:=h1.len
 have e2:=h2.len
 simp only [maxLen] at hb
 refine Br.mk (fun hne=>⟨false,rfl,?_,Chg.refl w⟩) (fun heq=>?_)
 ·have:¬ l1 = l2:=fun he=>by subst he; rw [e1,e2] at hne; simp at hne
  simp [this]
 have hlen:l1.length = l2.length:=by
  have:(s1.n:Int) = (s2.n:Int):=by simpa using heq
  omega
 refine LoopT.mk (fun x w'=>∃ i:Nat,i ≤ l1.length ∧ x = (s1,s2,(i:Int),()) ∧ Chg Nil w w' ∧ l1.take i = l2.take i) (fun x _=>l1.length - x.2.2.1.toNat) ⟨0,Nat.zero_le _,rfl,Chg.refl w,rfl⟩ ?_
 rintro x g w2 ⟨i,hi,rfl,hc,ht⟩
 dsimp only
 have hd:=hc.then (Chg.drew (S:=Nil) w2)
 refine Br.dec (fun hlt=>?_) (fun hge=>?_)
 ·have hlt':i < l1.length:=by omega
  refine (h1.chg hd fun _ _ h=>h).get (t:=tI) i rfl (x:=l1[i]) (List.getElem?_eq_getElem hlt') ?_
  refine (h2.chg hd fun _ _ h=>h).get (t:=tI) i rfl (x:=l2[i]) (List.getElem?_eq_getElem (by omega)) ?_
  rw [wrap64 (by omega) (by omega)]
  refine Br.mk (fun hne=>⟨false,rfl,?_,hd⟩) (fun heq=>?_)
  ·have hne':l1[i] ≠ l2[i]:=by simpa using hne
   have:¬ l1 = l2:=fun he=>hne' (by subst he; rfl)
   simp [this]
  ·have heq':l1[i] = l2[i]:=by simpa using heq
   refine ⟨⟨i + 1,hlt',rfl,hd,?_⟩,?_⟩
   ·rw [take_snoc hlt',take_snoc (show i < l2.length by omega),ht,heq']
   ·show l1.length - (i + 1) < l1.length - i
    omega
 ·have hin:i = l1.length:=by omega
  rw [hin,List.take_length,hlen,List.take_length] at ht
  exact ⟨true,rfl,by simp [ht],hc⟩
def sameF (a b:Aut):Bool:=decide (a.sym = b.sym ∧ a.start = b.start ∧ a.acc = b.acc ∧ a.next = b.next)
theorem Same_ret {w:World} {x y:Int × Int × Sl × Sl × Unit} {a b:Aut} (ha:AutIn w x a) (hb:AutIn w y b) :
  Ret Tryd.prog 15 #[.agg #[.int .i64 x.1,.int .i64 x.2.1,x.2.2.1.v,x.2.2.2.1.v],.agg #[.int .i64 y.1,.int .i64 y.2.1,y.2.2.1.v,y.2.2.2.1.v]] (.sc .bool) w fun z w'=>z = sameF a b ∧ Chg Nil w w':=by
 obtain ⟨x1,x2,sa,sn,_⟩:=x
 obtain ⟨y1,y2,ta,tn,_⟩:=y
 refine cayleyref06_Same.calls x1 x2 sa sn y1 y2 ta tn ?_
 unfold cayleyref06_Same.sh
 refine New.mk fun b1 w1 hb1 hn1 hs1 hc1=>?_
 refine New.mk fun b3 w2 hb3 hn3 hs3 hc3=>?_
 have h12:=hc3.heap hn1 fun h=>h
 have hc02:=hc1.then hc3
 have a1:=ha.sym
 have a2:=ha.start
 have a3:=ha.hacc
 have a4:=ha.hnext
 have b1':=hb.sym
 have b2':=hb.start
 simp only at a1 a2 b1' b2'
 obtain ⟨hra,_,_,sls,hrn,hsl,hrws,_⟩:=ha.rd
 have hrn:RdT w (.sc .sl) sn sls:=hrn
 obtain ⟨hta,_,_,tls,htn,htl,htws,_⟩:=hb.rd
 have htn:RdT w (.sc .sl) tn tls:=htn
 have hra:RdT w (.sc .bool) sa a.acc:=hra
 have hta:RdT w (.sc .bool) ta b.acc:=hta
 have e1:=hra.len
 have e2:=hta.len
 have e3:=hrn.len
 have e4:=htn.len
 simp only [maxLen] at a3 a4
 refine Join.by' (fun x W=>x = (at0 b1,at0 b3,()) ∧ W = w2 ∧ a.sym = b.sym ∧ a.start = b.start ∧ a.acc.length = b.acc.length ∧ a.next.length = b.next.length) ?_ ?_
 ·rintro x W g ⟨rfl,hW,g1,g2,g3,g4⟩
  rw [hW]; clear hW
  dsimp only
  refine LoopT.mk (fun x W=>∃ i:Nat,i ≤ a.acc.length ∧ x = (at0 b1,at0 b3,(i:Int),()) ∧ Chg Nil w2 W ∧ a.acc.take i = b.acc.take i) (fun x _=>a.acc.length - x.2.2.1.toNat) ⟨0,Nat.zero_le _,rfl,Chg.refl w2,rfl⟩ ?_
  rintro x g5 W ⟨i,hi,rfl,hc,ht⟩
  dsimp only
  refine LoadT.sc (s:=.sl) (x:=sa) (by rw [cellOf (hc.heap h12 fun h=>h)]; rfl) ?_
  have hd:=hc.then (Chg.drew (S:=Nil) W)
  refine Br.dec (fun hlt=>?_) (fun hge=>?_)
  ·have hlt':i < a.acc.length:=by omega
   refine LoadT.sc (s:=.sl) (x:=sa) (by rw [cellOf (hd.heap h12 fun h=>h)]; rfl) ?_
   refine (hra.chg (hc02.then hd) fun _ _ h=>h).get (t:=.sc .bool) i rfl (x:=a.acc[i]) (List.getElem?_eq_getElem hlt') ?_
   refine LoadT.sc (s:=.sl) (x:=ta) (by rw [cellOf (hd.heap hn3 fun h=>h)]; rfl) ?_
   refine (hta.chg (hc02.then hd) fun _ _ h=>h).get (t:=.sc .bool) i rfl (x:=b.acc[i]) (List.getElem?_eq_getElem (by omega)) ?_
   rw [wrap64 (by omega) (by omega)]
   refine Br.mk (fun hne=>⟨false,rfl,?_,hc02.then hd⟩) (fun heq=>?_)
   ·have hne':a.acc[i] ≠ b.acc[i]:=by simpa using hne
    have:¬ a.acc = b.acc:=fun he=>hne' (by simp only [he])
    simp [sameF,this]
   ·have heq':a.acc[i] = b.acc[i]:=by simpa using heq
    refine ⟨⟨i + 1,hlt',rfl,hd,?_⟩,?_⟩
    ·rw [take_snoc hlt',take_snoc (show i < b.acc.length by omega),ht,heq']
    ·show a.acc.length - (i + 1) < a.acc.length - i
     omega
  ·have hin:i = a.acc.length:=by omega
   rw [hin,List.take_length,g3,List.take_length] at ht
   refine LoopT.mk (fun x W=>∃ i:Nat,i ≤ a.next.length ∧ x = (at0 b1,at0 b3,(i:Int),()) ∧ Chg Nil w2 W ∧ a.next.take i = b.next.take i) (fun x _=>a.next.length - x.2.2.1.toNat) ⟨0,Nat.zero_le _,rfl,hc,rfl⟩ ?_
   clear hc hd hi hge hin
   rintro x g6 W ⟨i,hi,rfl,hc,ht2⟩
   dsimp only
   refine LoadT.sc (s:=.sl) (x:=sn) (by rw [cellOf (hc.heap h12 fun h=>h)]; rfl) ?_
   have hd:=hc.then (Chg.drew (S:=Nil) W)
   refine Br.dec (fun hlt=>?_) (fun hge=>?_)
   ·have hlt':i < a.next.length:=by omega
    obtain ⟨s1,hs1'⟩:∃ s1,sls[i]? = some s1:=⟨_,List.getElem?_eq_getElem (by rw [hsl]; exact hlt')⟩
    obtain ⟨t1,ht1⟩:∃ t1,tls[i]? = some t1:=⟨_,List.getElem?_eq_getElem (by rw [htl]; show i < b.next.length; omega)⟩
    have hnb:i < b.next.length:=by omega
    refine LoadT.sc (s:=.sl) (x:=sn) (by rw [cellOf (hd.heap h12 fun h=>h)]; rfl) ?_
    refine (hrn.chg (hc02.then hd) fun _ _ h=>h).get (t:=.sc .sl) i rfl hs1' ?_
    refine LoadT.sc (s:=.sl) (x:=tn) (by rw [cellOf (hd.heap hn3 fun h=>h)]; rfl) ?_
    refine (htn.chg (hc02.then hd) fun _ _ h=>h).get (t:=.sc .sl) i rfl ht1 ?_
    have r1:=(hrws i s1 _ hs1' (List.getElem?_eq_getElem hlt')).chg (hc02.then hd) fun _ _ h=>h
    have r2:=(htws i t1 _ ht1 (List.getElem?_eq_getElem hnb)).chg (hc02.then hd) fun _ _ h=>h
    refine Ret.call (sameInts_ret r1 r2 (ha.hrow _ (List.getElem_mem hlt'))) ?_
    rintro _ W3 ⟨rfl,hc3'⟩
    rw [wrap64 (by omega) (by omega)]
    refine Br.mk (fun hne=>⟨false,rfl,?_,(hc02.then hd).then hc3'⟩) (fun heq=>?_)
    ·have hne':¬ a.next[i] = b.next[i]:=by simpa using hne
     have:¬ a.next = b.next:=fun he=>hne' (by simp only [he])
     simp [sameF,this]
    ·have heq':a.next[i] = b.next[i]:=by simpa using heq
     refine ⟨⟨i + 1,hlt',rfl,hd.then hc3',?_⟩,?_⟩
     ·rw [take_snoc hlt',take_snoc hnb,ht2,heq']
     ·show a.next.length - (i + 1) < a.next.length - i
      omega
   ·have hin:i = a.next.length:=by omega
    rw [hin,List.take_length,g4,List.take_length] at ht2
    exact ⟨true,rfl,by simp [sameF,g1,g2,ht,ht2],hc02.then hc⟩
 ·intro J hJ
  refine LoadT.sc (s:=.int .i64) (x:=x1) (by rw [cellOf h12]; rfl) ?_
  refine LoadT.sc (s:=.int .i64) (x:=y1) (by rw [cellOf hn3]; rfl) ?_
  refine Br.mk (fun hne=>Br.t rfl ⟨false,rfl,?_,hc02⟩) (fun g1=>?_)
  ·have:¬ a.sym = b.sym:=by rw [← a1,← b1']; simpa using hne
   simp [sameF,this]
  refine LoadT.sc (s:=.int .i64) (x:=x2) (by rw [cellOf h12]; rfl) ?_
  refine LoadT.sc (s:=.int .i64) (x:=y2) (by rw [cellOf hn3]; rfl) ?_
  refine Br.mk (fun hne=>Br.t rfl ⟨false,rfl,?_,hc02⟩) (fun g2=>?_)
  ·have:¬ a.start = b.start:=by rw [← a2,← b2']; simpa using hne
   simp [sameF,this]
  refine LoadT.sc (s:=.sl) (x:=sa) (by rw [cellOf h12]; rfl) ?_
  refine LoadT.sc (s:=.sl) (x:=ta) (by rw [cellOf hn3]; rfl) ?_
  refine Br.mk (fun hne=>Br.t rfl ⟨false,rfl,?_,hc02⟩) (fun g3=>?_)
  ·have:¬ a.acc = b.acc:=fun he=>by rw [e1,e2,he] at hne; simp at hne
   simp [sameF,this]
  refine LoadT.sc (s:=.sl) (x:=sn) (by rw [cellOf h12]; rfl) ?_
  refine LoadT.sc (s:=.sl) (x:=tn) (by rw [cellOf hn3]; rfl) ?_
  refine Br.mk (fun hne=>⟨false,rfl,?_,hc02⟩) (fun g4=>hJ _ _ ⟨rfl,rfl,?_,?_,?_,?_⟩)
  ·have:¬ a.next = b.next:=fun he=>by rw [e3,e4,hsl,htl,he] at hne; simp at hne
   simp [sameF,this]
  ·rw [← a1,← b1']; simpa using g1
  ·rw [← a2,← b2']; simpa using g2
  ·have:(sa.n:Int) = (ta.n:Int):=by simpa using g3
   omega
  ·have:(sn.n:Int) = (tn.n:Int):=by simpa using g4
   rw [e3,e4,hsl,htl] at this
   exact Int.ofNat.inj this
theorem Check6_ret {w:World} {x:Int × Int × Sl × Sl × Unit} {a:Aut} (ha:AutIn w x a) :
  Ret Tryd.prog 87 #[.agg #[.int .i64 x.1,.int .i64 x.2.1,x.2.2.1.v,x.2.2.2.1.v]] tI w fun z w'=>z = fsaF a.sym a.start a.acc a.next ∧ Chg Nil w w':=by
 obtain ⟨x1,x2,sa,sn,_⟩:=x
 refine cayleyref06_Check.calls x1 x2 sa sn ?_
 unfold cayleyref06_Check.sh
 refine New.mk fun b1 w1 hb1 hn1 hs1 hc1=>?_
 have a1:=ha.sym
 have a2:=ha.start
 simp only at a1 a2
 obtain ⟨hra,_,_,sls,hrn,hsl,hrws,_⟩:=ha.rd
 have hrn:RdT w (.sc .sl) sn sls:=hrn
 have e1:sa.n = a.acc.length:=hra.len
 have e3:sn.n = a.next.length:=by rw [hrn.len,hsl]
 have l0:∀ {W:World},Chg Nil w1 W → W.heap[b1]? = some (.cells #[.int .i64 x1,.int .i64 x2,sa.v,sn.v] 27 (0,0)):=fun hW=>hW.heap hn1 fun h=>h
 refine LoadT.sc (s:=.sl) (x:=sn) (by rw [cellOf hn1]; rfl) ?_
 rw [e3]
 let bad1:Prop:=a.sym < 1 ∨ a.sym > 400 ∨ (a.acc.length:Int) > 20000 ∨ a.next.length ≠ a.acc.length ∨ a.start < 0 ∨ a.start ≥ max (a.acc.length:Int) 1
 have hbad:bad1 → fsaF a.sym a.start a.acc a.next = 60:=fun h=>by unfold fsaF; rw [if_pos h]
 have hok:¬ bad1 → fsaF a.sym a.start a.acc a.next = if a.next.any (badRow a.sym a.acc.length) then 60 else 0:=fun h=>by unfold fsaF; rw [if_neg h]
 refine Join.by' (fun y W=>y = (at0 b1,((a.next.length:Nat):Int),()) ∧ W = w1 ∧ ¬ bad1) ?_ ?_
 ·rintro y W g ⟨rfl,hW,hg⟩
  rw [hW]; clear hW
  dsimp only
  rw [hok hg]
  have hlen:a.next.length = a.acc.length:=by
   by_cases h:a.next.length = a.acc.length
   ·exact h
   ·exact absurd (.inr (.inr (.inr (.inl h)))) hg
  have hl2:a.next.length ≤ 20000:=by
   by_cases h:(a.acc.length:Int) > 20000
   ·exact absurd (.inr (.inr (.inl h))) hg
   ·omega
  have hsym:1 ≤ a.sym ∧ a.sym ≤ 400:=⟨by by_cases h:a.sym < 1; exact absurd (.inl h) hg; omega,by by_cases h:a.sym > 400; exact absurd (.inr (.inl h)) hg; omega⟩
  refine LoopT.mk (fun y W=>∃ i:Nat,i ≤ a.next.length ∧ y = (at0 b1,((a.next.length:Nat):Int),(i:Int),()) ∧ Chg Nil w1 W ∧ (a.next.take i).any (badRow a.sym a.acc.length) = false) (fun y _=>a.next.length - y.2.2.1.toNat) ⟨0,Nat.zero_le _,rfl,Chg.refl _,rfl⟩ ?_
  rintro y g2 W ⟨i,hi,rfl,hc,hgood⟩
  dsimp only
  refine Br.dec (fun hlt=>?_) (fun hge=>?_)
  ·have hlt':i < a.next.length:=by omega
   have hd:=hc.then (Chg.drew (S:=Nil) W)
   obtain ⟨s1,hs1'⟩:∃ s1,sls[i]? = some s1:=⟨_,List.getElem?_eq_getElem (by rw [hsl]; exact hlt')⟩
   have hrow:=hrws i s1 _ hs1' (List.getElem?_eq_getElem hlt')
   have hsl1:s1.n = a.next[i].length:=hrow.len
   refine LoadT.sc (s:=.sl) (x:=sn) (by rw [cellOf (l0 hd)]; rfl) ?_
   refine (hrn.chg (hc1.then hd) fun _ _ h=>h).get (t:=.sc .sl) i rfl hs1' ?_
   refine LoadT.sc (s:=.int .i64) (x:=x1) (by rw [cellOf (l0 hd)]; rfl) ?_
   have hmem:a.next[i] ∈ a.next:=List.getElem_mem hlt'
   have herr:badRow a.sym a.acc.length a.next[i] = true → ∀ V:World,Chg Nil w V → (∃ z,Ending.returned (.int .i64 60) = .returned (tI.val z) ∧ z = (if a.next.any (badRow a.sym a.acc.length) = true then 60 else 0) ∧ Chg Nil w V):=fun hb V hV=>by
    have:a.next.any (badRow a.sym a.acc.length) = true:=List.any_eq_true.2 ⟨_,hmem,hb⟩
    exact ⟨60,rfl,by rw [if_pos this],hV⟩
   refine Br.mk (fun hne=>herr ?_ _ (hc1.then hd)) (fun heq=>?_)
   ·have:((s1.n:Int)) ≠ x1:=by simpa using hne
    unfold badRow
    rw [hsl1,a1] at this
    simp [this]
   have hsym2:(a.next[i].length:Int) = a.sym:=by
    have:((s1.n:Int)) = x1:=by simpa using heq
    rw [hsl1,a1] at this; exact this
   generalize hR:a.next[i] = row at *
   refine LoopT.mk (fun y W=>∃ j:Nat,j ≤ row.length ∧ y = (at0 b1,((a.next.length:Nat):Int),(i:Int),(j:Int),()) ∧ Chg Nil w1 W ∧ (row.take j).any (fun t=>decide (t < -1) || decide (t ≥ (a.acc.length:Int))) = false) (fun y _=>row.length - y.2.2.2.1.toNat) ⟨0,Nat.zero_le _,rfl,hd,rfl⟩ ?_
   clear hd hc
   rintro y g3 V ⟨j,hj,rfl,hc,hg3⟩
   dsimp only
   refine LoadT.sc (s:=.int .i64) (x:=x1) (by rw [cellOf (l0 hc)]; rfl) ?_
   rw [a1]
   refine Br.dec (fun hlt2=>?_) (fun hge2=>?_)
   ·have hlt2':j < row.length:=by omega
    have hrV:=hrow.chg (hc1.then hc) fun _ _ h=>h
    have hsV:=hrn.chg (hc1.then hc) fun _ _ h=>h
    have hany:(decide (row[j] < -1) || decide (row[j] ≥ (a.acc.length:Int))) = true → badRow a.sym a.acc.length row = true:=fun hb=>by
     unfold badRow
     rw [Bool.or_eq_true]
     exact .inr (List.any_eq_true.2 ⟨_,List.getElem_mem hlt2',hb⟩)
    refine LoadT.sc (s:=.sl) (x:=sn) (by rw [cellOf (l0 hc)]; rfl) ?_
    refine hsV.get (t:=.sc .sl) i rfl hs1' ?_
    refine hrV.get (t:=tI) j rfl (x:=row[j]) (List.getElem?_eq_getElem hlt2') ?_
    rw [wrap64 (x:=(j:Int) + 1) (by omega) (by omega)]
    refine Br.dec (fun hb=>Br.t rfl (herr (hany (by have hb:row[j] < -1:=hb; simp [hb])) _ (hc1.then hc))) (fun hnb=>?_)
    refine LoadT.sc (s:=.sl) (x:=sn) (by rw [cellOf (l0 hc)]; rfl) ?_
    refine hsV.get (t:=.sc .sl) i rfl hs1' ?_
    refine hrV.get (t:=tI) j rfl (x:=row[j]) (List.getElem?_eq_getElem hlt2') ?_
    refine Br.dec (fun hb=>herr (hany ?_) _ (hc1.then hc)) (fun hnb2=>?_)
    ·have hb:row[j] ≥ ((a.next.length:Nat):Int):=hb
     rw [hlen] at hb; simp [hb]
    ·refine ⟨⟨j + 1,hlt2',rfl,hc,?_⟩,?_⟩
     ·have hnb:¬ row[j] < -1:=hnb
      have hnb2:¬ row[j] ≥ ((a.next.length:Nat):Int):=hnb2
      rw [hlen] at hnb2
      rw [take_snoc hlt2',List.any_append,hg3]
      simp [hnb,hnb2]
     ·show row.length - (j + 1) < row.length - j
      omega
   ·have hjn:j = row.length:=by omega
    rw [hjn,List.take_length] at hg3
    rw [wrap64 (x:=(i:Int) + 1) (by omega) (by omega)]
    refine ⟨⟨i + 1,hlt',rfl,hc,?_⟩,?_⟩
    ·rw [take_snoc hlt',hR,List.any_append,hgood]
     simp only [List.any_cons,List.any_nil,Bool.or_false,Bool.false_or,badRow,hg3,hsym2]
     simp
    ·show a.next.length - (i + 1) < a.next.length - i
     omega
  ·have hin:i = a.next.length:=by omega
   rw [hin,List.take_length] at hgood
   exact ⟨0,rfl,by rw [if_neg (by rw [hgood]; simp)],hc1.then hc⟩
 ·intro J hJ
  have herr:bad1 → ∃ z,Ending.returned (.int .i64 60) = .returned (tI.val z) ∧ z = fsaF a.sym a.start a.acc a.next ∧ Chg Nil w w1:=fun h=>⟨60,rfl,(hbad h).symm,hc1⟩
  refine LoadT.sc (s:=.int .i64) (x:=x1) (by rw [cellOf hn1]; rfl) ?_
  rw [a1]
  refine Br.dec (fun h=>Br.t rfl (herr (.inl h))) (fun h1=>?_)
  refine LoadT.sc (s:=.int .i64) (x:=x1) (by rw [cellOf hn1]; rfl) ?_
  rw [a1]
  refine Br.dec (fun h=>Br.t rfl (herr (.inr (.inl h)))) (fun h2=>?_)
  refine LoadT.sc (s:=.sl) (x:=sa) (by rw [cellOf hn1]; rfl) ?_
  rw [e1]
  refine Br.mk (fun h=>Br.t rfl (herr (.inr (.inr (.inr (.inl ?_)))))) (fun h3=>?_)
  ·have:(a.acc.length:Int) ≠ (a.next.length:Int):=by simpa using h
   omega
  have hlen:a.acc.length = a.next.length:=by have:(a.acc.length:Int) = (a.next.length:Int):=by simpa using h3
                                             omega
  refine Br.dec (fun h=>Br.t rfl (herr (.inr (.inr (.inl (by have h:(a.next.length:Int) > 20000:=h; omega)))))) (fun h4=>?_)
  refine LoadT.sc (s:=.int .i64) (x:=x2) (by rw [cellOf hn1]; rfl) ?_
  rw [a2]
  refine Br.dec (fun h=>Br.t rfl (herr (.inr (.inr (.inr (.inr (.inl h))))))) (fun h5=>?_)
  have h1:¬ a.sym < 1:=h1
  have h2:¬ a.sym > 400:=h2
  have h4:¬ (a.next.length:Int) > 20000:=h4
  have h5:¬ a.start < 0:=h5
  have good:a.start < max (a.acc.length:Int) 1 → ¬ bad1:=fun h=>by
   rintro (h | h | h | h | h | h)
   ·exact h1 h
   ·exact h2 h
   ·omega
   ·exact h hlen.symm
   ·exact h5 h
   ·omega
  have ebad:a.start ≥ max (a.acc.length:Int) 1 → bad1:=fun h=>.inr (.inr (.inr (.inr (.inr h))))
  refine Br.mk (fun h6=>?_) (fun h6=>?_)
  ·have h6':a.next.length = 0:=by have:(a.next.length:Int) = 0:=by simpa using h6
                                  omega
   refine LoadT.sc (s:=.int .i64) (x:=x2) (by rw [cellOf hn1]; rfl) ?_
   rw [a2]
   refine Br.mk (fun h=>Br.t rfl (herr (ebad ?_))) (fun h=>Br.no ?_ (Br.f rfl (hJ _ _ ⟨rfl,rfl,good ?_⟩)))
   ·have:a.start ≠ 0:=by simpa using h
    omega
   ·rw [h6']; decide
   ·have:a.start = 0:=by simpa using h
    omega
  ·have h6':¬ a.next.length = 0:=fun he=>by rw [he] at h6; simp at h6
   refine Br.yes (by show (a.next.length:Int) > 0; omega) ?_
   refine LoadT.sc (s:=.int .i64) (x:=x2) (by rw [cellOf hn1]; rfl) ?_
   rw [a2]
   refine Br.dec (fun h=>herr (ebad (by have h:a.start ≥ (a.next.length:Int):=h; omega))) (fun h=>hJ _ _ ⟨rfl,rfl,good (by have h:¬ a.start ≥ (a.next.length:Int):=h; omega)⟩)
end Go.Proofs.YtffdjfkekdoeaaaDoor.Rf
end
