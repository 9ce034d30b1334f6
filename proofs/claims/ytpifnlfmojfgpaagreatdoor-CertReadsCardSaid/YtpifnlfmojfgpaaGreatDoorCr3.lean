/- Parts of a proof, laid one behind the other by our own merge.py: FwHeap FwRun PwOps PwCode PwRel PwQ PwQ2. -/
import Derived.Test.YtpifnlfmojfgpaaGreatDoorCr2
import Derived.Laws.OwnMore
import Derived.Laws.IdiomStrings
import Derived.Laws.BytesArg
import Derived.Laws.Slices
import Derived.Test.YtpifnlfmojfgpaaGreatDoorCr1
import Derived.Laws.Cover3
import Derived.Laws.Strings
import Derived.Laws.Pointers
import Derived.Laws.Strings2
set_option linter.unusedVariables false
set_option linter.unusedSimpArgs false
section
namespace Go.Proofs.YtpifnlfmojfgpaaGreatDoor.Fw
open RowKit
structure Chg (S:Nat → Prop) (w w':World):Prop where
 os:w'.os = w.os
 tape:w'.tape = w.tape
 output:w'.output = w.output
 size:w.heap.size ≤ w'.heap.size
 block:∀ k,k < w.heap.size → ¬ S k → w'.heap[k]? = w.heap[k]?
abbrev Nil:Nat → Prop:=fun _=>False
theorem Chg.refl {S:Nat → Prop} (w:World):Chg S w w:=⟨rfl,rfl,rfl,Nat.le_refl _,fun _ _ _=>rfl⟩
theorem Chg.trans {S T U:Nat → Prop} {a b c:World} (h:Chg S a b) (k:Chg T b c) (h1:∀ i,i < a.heap.size → S i → U i) (h2:∀ i,i < a.heap.size → T i → U i):Chg U a c:=
 ⟨k.os.trans h.os,k.tape.trans h.tape,k.output.trans h.output,Nat.le_trans h.size k.size,fun i hi hu=>
  (k.block i (Nat.lt_of_lt_of_le hi h.size) (fun ht=>hu (h2 i hi ht))).trans (h.block i hi (fun hs=>hu (h1 i hi hs)))⟩
theorem Chg.mono {S T:Nat → Prop} {a b:World} (h:Chg S a b) (h1:∀ i,i < a.heap.size → S i → T i):Chg T a b:=
 ⟨h.os,h.tape,h.output,h.size,fun i hi hu=>h.block i hi fun hs=>hu (h1 i hi hs)⟩
theorem Chg.then {S:Nat → Prop} {a b c:World} (h:Chg S a b) (k:Chg S b c):Chg S a c:=h.trans k (fun _ _ h=>h) (fun _ _ h=>h)
theorem Chg.nil {S:Nat → Prop} {a b:World} (h:Chg Nil a b):Chg S a b:=h.mono fun _ _ h=>h.elim
theorem Chg.alloc {S:Nat → Prop} (w:World) (o:Obj):Chg S w (w.alloc o):=⟨rfl,rfl,rfl,by simp,fun k hk _=>heap_alloc_old w o k hk⟩
theorem Chg.drew {S:Nat → Prop} (w:World):Chg S w w.drew:=⟨rfl,rfl,rfl,Nat.le_refl _,fun _ _ _=>rfl⟩
theorem Chg.setCell {S:Nat → Prop} (w:World) {a:Addr} (v:Value) (h:S a.block):Chg S w (w.setCell a v):=
 ⟨rfl,rfl,rfl,by simp,fun k hk hs=>heap_setCell_other w a k v (fun e=>hs (e ▸ h))⟩
theorem Chg.grown {S:Nat → Prop} {w w':World} {row:Option Nat} (hg:w.grownBy w' row) (h:∀ k,row = some k → S k):Chg S w w':=
 ⟨hg.os,hg.tape,hg.output,hg.size,fun k hk hs=>hg.block k hk fun e=>hs (h k e.symm)⟩
theorem Chg.toBelow {w w':World} (h:Chg Nil w w'):Below w.heap.size w w':=⟨h.os,h.tape,h.output,h.size,fun k hk=>h.block k hk (fun h=>h)⟩
theorem lt_of_heap {w:World} {k:Nat} {o:Obj} (h:w.heap[k]? = some o):k < w.heap.size:=(Array.getElem?_eq_some_iff.1 h).1
theorem Chg.heap {S:Nat → Prop} {w w':World} (h:Chg S w w') {k:Nat} {o:Obj} (hk:w.heap[k]? = some o) (hs:¬ S k):w'.heap[k]? = some o:=
 (h.block k (lt_of_heap hk) hs).trans hk
theorem Chg.cell {S:Nat → Prop} {w w':World} (h:Chg S w w') {a:Addr} {v:Value} (hk:w.cell? a = some v) (hs:¬ S a.block):w'.cell? a = some v:=
 (World.cell?_of_block (h.block a.block (World.block_lt_of_cell? w a hk) hs)).trans hk
def Marks (w:World) (rs:List Nat):Prop:=rs.Nodup ∧ ∀ r ∈ rs,w.heap[r]? = some (.deferred (some []))
def marksOf (rs:List Nat):List Deferred:=rs.map Fw.mark
theorem retM_marks:∀ (rs:List Nat) (w:World) {K:World → Prop},Marks w rs → (∀ w',Chg (fun k=>k ∈ rs) w w' → K w') → RetM (marksOf rs) w K
 | [],w,K,_,hk=>hk w (Chg.refl w)
 | r :: rs,w,K,h,hk=>by
  refine ⟨h.2 r (by simp),?_⟩
  have hn:=List.nodup_cons.1 h.1
  have hc:Chg (· = r) w (w.putObj r (.deferred none)):=⟨rfl,rfl,rfl,by simp [World.putObj],fun k hk hs=>by
   show (w.heap.setIfInBounds r _)[k]? = _
   rw [Array.getElem?_setIfInBounds_ne (fun e:r = k=>hs e.symm)]⟩
  refine retM_marks rs _ ⟨hn.2,fun k hk'=>hc.heap (h.2 k (by simp [hk'])) fun he=>?_⟩ fun w' hc'=>?_
  ·have he:k = r:=he
   subst he; exact hn.1 hk'
  ·refine hk w' (hc.trans hc' (fun i _ hi=>?_) fun i _ hi=>by simp [hi])
   have hi:i = r:=hi
   simp [hi]
theorem add0 (a:Addr):a.add 0 = a:=Addr.add_zero' a
theorem mk_add (b o n:Nat):(Addr.mk b o none).add n = ⟨b,o + n,none⟩:=Addr.add_lit b o n
theorem add_block (a:Addr) (n:Nat):(a.add n).block = a.block:=by
 cases n with
 | zero=>rw [add0]
 | succ n=>rw [Addr.add_succ']
theorem cellOf {w:World} {b:Nat} {cs:Array Value} {t:TypeId} {fr:Nat × Nat} (h:w.heap[b]? = some (.cells cs t fr)) (k:Nat):w.cell? ((Addr.mk b 0 none).add k) = cs[k]?:=by
 rw [mk_add,cell_of_row w b _ cs t fr h,Nat.zero_add]
theorem cellOf0 {w:World} {b:Nat} {cs:Array Value} {t:TypeId} {fr:Nat × Nat} (h:w.heap[b]? = some (.cells cs t fr)):w.cell? (Addr.mk b 0 none) = cs[0]?:=by
 rw [cell_of_row w b _ cs t fr h]
theorem frozenOf {w:World} {b k:Nat} {cs:Array Value} {t:TypeId} (h:w.heap[b]? = some (.cells cs t (0,0))):w.frozen? ((Addr.mk b 0 none).add k) = false:=by
 rw [mk_add]; exact frozen_of_row w b _ cs t h
theorem Br.mk {b:Bool} {A B:Prop} (h1:b = true → A) (h2:b = false → B):Br b A B:=⟨h1,h2⟩
theorem Br.t {b:Bool} {A B:Prop} (h:b = true) (h1:A):Br b A B:=⟨fun _=>h1,fun hf=>by rw [h] at hf; cases hf⟩
theorem Br.f {b:Bool} {A B:Prop} (h:b = false) (h1:B):Br b A B:=⟨fun hf=>(by rw [h] at hf; cases hf),fun _=>h1⟩
theorem Br.dec {p:Prop} [Decidable p] {A B:Prop} (h1:p → A) (h2:¬ p → B):Br (decide p) A B:=⟨fun h=>h1 (of_decide_eq_true h),fun h=>h2 (of_decide_eq_false h)⟩
theorem NilCk.mk {a:Addr} {K:Addr → Prop} (k:K a):NilCk (some a) K:=⟨a,rfl,k⟩
theorem New.mk {w:World} {o:Obj} {K:Nat → World → Prop} (k:∀ b w',b = w.heap.size → w'.heap[b]? = some o → w'.heap.size = b + 1 → Chg Nil w w' → K b w'):New w o K:=
 k _ _ rfl (heap_alloc_new w o) (by simp) (Chg.alloc w o)
theorem LoadT.sc {w:World} {a:Addr} {s:Sc} {x:s.den} {K:s.den → Prop} (h:w.cell? a = some (s.val x)) (k:K x):LoadT (.sc s) w a K:=⟨x,h,k⟩
theorem Idx.mk {a:Addr} {len sz:Nat} {i:Int} {K:Addr → Prop} (j:Nat) (hi:i = (j:Int)) (hj:j < len) (k:K (a.add (j * sz))):Idx (some a) len sz i K:=
 ⟨a,rfl,by omega,by omega,by rw [hi]; simpa using k⟩
theorem Join.mk {σ:Type} {Y:σ → Env → World → Prop} {F:(σ → World → Prop) → Prop} (h:F fun x w=>∀ g,Y x g w):Join Y F:=h
theorem Join.by' {σ:Type} {Y:σ → Env → World → Prop} {F:(σ → World → Prop) → Prop} (P:σ → World → Prop) (h1:∀ x w g,P x w → Y x g w) (h2:∀ J:σ → World → Prop,(∀ x w,P x w → J x w) → F J):Join Y F:=
 h2 _ fun x w hp g=>h1 x w g hp
theorem LoopT.mk {σ:Type} {x0:σ} {w:World} {body:σ → Env → World → (σ → World → Prop) → Prop} (I:σ → World → Prop) (μ:σ → World → Nat) (h0:I x0 w)
  (h:∀ x g w,I x w → body x g w fun y w'=>I y w' ∧ μ y w' < μ x w):LoopT x0 w body:=⟨I,μ,h0,h⟩
def Ret (P:Program) (f:FuncId) (args:Array Value) (t:Ty) (w:World) (Q:t.den → World → Prop):Prop:=Calls P f args w fun e w'=>∃ x,e = .returned (t.val x) ∧ Q x w'
theorem Ret.call {P:Program} {f:FuncId} {args:Array Value} {t:Ty} {w:World} {K Q:t.den → World → Prop} {Kp:List PanicEntry → World → Prop} (h:Ret P f args t w Q) (k:∀ x w',Q x w' → K x w'):CallT P f args t w K Kp:=
 Calls.mono h fun e w' he=>by obtain ⟨x,rfl,hq⟩:=he; exact ⟨x,rfl,k x w' hq⟩
theorem wrap64 {x:Int} (h0:-9223372036854775808 ≤ x) (h1:x ≤ 9223372036854775807):IntKind.wrap .i64 x = x:=by rw [IntKind.wrap_i64]; omega
def Ty.sz:Ty → Nat
 | .sc _=>1
 | .agg l=>l.length
def Ty.cells:(t:Ty) → t.den → List Value
 | .sc s,x=>[s.val x]
 | .agg l,x=>vals l x
theorem vals_len:∀ (l:List Sc) (x:dens l),(vals l x).length = l.length
 | [],_=>rfl
 | s :: l,(x,y)=>by simp [vals,vals_len l y]
theorem Ty.cells_length (t:Ty) (x:t.den):(t.cells x).length = t.sz:=by
 cases t with
 | sc s=>rfl
 | agg l=>exact vals_len l x
theorem flat_length (t:Ty) (xs:List t.den):(xs.flatMap t.cells).length = xs.length * t.sz:=by
 induction xs with
 | nil=>simp
 | cons x xs ih=>simp only [List.flatMap_cons,List.length_append,Ty.cells_length,ih,List.length_cons]; rw [Nat.add_mul,Nat.one_mul,Nat.add_comm]
theorem flat_get (t:Ty):∀ (xs:List t.den) (i j:Nat) (x:t.den),xs[i]? = some x → j < t.sz → (xs.flatMap t.cells)[i * t.sz + j]? = (t.cells x)[j]?
 | [],i,j,x,h,_=>by simp at h
 | y :: xs,0,j,x,h,hj=>by
  simp only [List.getElem?_cons_zero,Option.some.injEq] at h
  subst h
  rw [List.flatMap_cons,Nat.zero_mul,Nat.zero_add,List.getElem?_append_left (by rw [Ty.cells_length]; exact hj)]
 | y :: xs,i + 1,j,x,h,hj=>by
  simp only [List.getElem?_cons_succ] at h
  rw [List.flatMap_cons,List.getElem?_append_right (by rw [Ty.cells_length]; rw [Nat.add_mul]; omega),Ty.cells_length]
  rw [show (i + 1) * t.sz + j - t.sz = i * t.sz + j by rw [Nat.add_mul]; omega]
  exact flat_get t xs i j x h hj
theorem holds_of {w:World} {a:Addr}:∀ (vs:List Value) (i:Nat),(∀ j v,vs[j]? = some v → w.cell? (a.add (i + j)) = some v) → Holds w a i vs
 | [],_,_=>trivial
 | v :: vs,i,h=>⟨by simpa using h 0 v (by simp),holds_of vs (i + 1) fun j u hu=>by have:=h (j + 1) u (by simpa using hu); rwa [show i + (j + 1) = i + 1 + j by omega] at this⟩
theorem LoadT.mk {w:World} {a:Addr} (t:Ty) {x:t.den} {K:t.den → Prop} (h:∀ j v,(t.cells x)[j]? = some v → w.cell? (a.add j) = some v) (k:K x):LoadT t w a K:=by
 cases t with
 | sc s=>exact ⟨x,by simpa [add0] using h 0 (s.val x) rfl,k⟩
 | agg l=>exact ⟨x,holds_of _ 0 (fun j v hv=>by rw [Nat.zero_add]; exact h j v hv),k⟩
structure RdT (w:World) (t:Ty) (s:Sl) (xs:List t.den):Prop where
 len:s.n = xs.length
 at':∀ i x,xs[i]? = some x → ∃ a,s.a = some a ∧ ∀ j v,(t.cells x)[j]? = some v → w.cell? ((a.add (i * t.sz)).add j) = some v
theorem RdT.cellAt {w:World} {t:Ty} {s:Sl} {xs:List t.den} (h:RdT w t s xs) {a:Addr} (ha:s.a = some a) {i:Nat} {x:t.den} (hx:xs[i]? = some x):∀ j v,(t.cells x)[j]? = some v → w.cell? ((a.add (i * t.sz)).add j) = some v:=by
 obtain ⟨a',h1,h2⟩:=h.at' i x hx
 rw [ha] at h1; cases h1; exact h2
theorem RdT.cell1 {w:World} {t:Sc} {s:Sl} {xs:List t.den} (h:RdT w (.sc t) s xs) {a:Addr} (ha:s.a = some a) {i:Nat} {x:t.den} (hx:xs[i]? = some x):w.cell? (a.add (i * 1)) = some (t.val x):=by
 have:=h.cellAt ha hx 0 (t.val x) rfl
 rwa [add0] at this
abbrev Sl.v (s:Sl):Value:=.slice s.a s.n s.c
structure OwnT (w:World) (e:TypeId) (t:Ty) (s:Sl) (xs:List t.den):Prop where
 row:w.ownsRow 0 e t.sz s.v s.n (xs.flatMap t.cells)
 len:s.n = xs.length
theorem OwnT.nil (w:World) (e:TypeId) (t:Ty):OwnT w e t ⟨none,0,0⟩ []:=⟨w.ownsRow_nil 0 e t.sz,rfl⟩
theorem OwnT.block {w:World} {e:TypeId} {t:Ty} {s:Sl} {xs:List t.den} (h:OwnT w e t s xs):s.a = none ∧ xs = [] ∨ ∃ g cur,s.a = some ⟨g,0,none⟩ ∧ w.heap[g]? = some (.cells cur e (0,0)) ∧ s.n ≤ s.c ∧ s.c ≤ maxLen ∧ cur.size = s.c * t.sz ∧ cur.toList.take (s.n * t.sz) = xs.flatMap t.cells:=by
 rcases h.row.2 with ⟨h1,h2⟩ | ⟨g,cap,cur,h1,_,h2,h3,h4,h5,h6⟩
 ·simp only [Value.slice.injEq] at h1
  refine .inl ⟨h1.1,?_⟩
  have:=h.len
  rw [h2] at this
  exact List.length_eq_zero_iff.1 this.symm
 ·simp only [Value.slice.injEq] at h1
  obtain ⟨h1,_,h7⟩:=h1
  subst h7
  exact .inr ⟨g,cur,h1,h2,h3,h4,h5,h6⟩
theorem OwnT.lt {w:World} {e:TypeId} {t:Ty} {s:Sl} {xs:List t.den} (h:OwnT w e t s xs):∀ a,s.a = some a → a.block < w.heap.size:=fun a ha=>by
 rcases h.block with ⟨h1,_⟩ | ⟨g,cur,h1,h2,_⟩
 ·rw [h1] at ha; cases ha
 ·rw [h1] at ha; cases ha; exact lt_of_heap h2
theorem OwnT.rd {w:World} {e:TypeId} {t:Ty} {s:Sl} {xs:List t.den} (h:OwnT w e t s xs):RdT w t s xs:=by
 refine ⟨h.len,fun i x hx=>?_⟩
 have hlt:i < xs.length:=(List.getElem?_eq_some_iff.1 hx).1
 rcases h.block with ⟨_,h1⟩ | ⟨g,cur,h1,h2,h3,h4,h5,h6⟩
 ·subst h1; simp at hlt
 ·refine ⟨_,h1,fun j v hj=>?_⟩
  have hjl:j < t.sz:=by rw [← Ty.cells_length t x]; exact (List.getElem?_eq_some_iff.1 hj).1
  rw [mk_add,mk_add,cell_of_row w g _ cur e _ h2]
  have hf:=flat_get t xs i j x hx hjl
  rw [hj,← h6,List.getElem?_take] at hf
  split at hf
  ·simpa using hf
  ·cases hf
theorem OwnT.chg {S:Nat → Prop} {w w':World} {e:TypeId} {t:Ty} {s:Sl} {xs:List t.den} (h:OwnT w e t s xs) (hc:Chg S w w') (hs:∀ a,s.a = some a → ¬ S a.block):OwnT w' e t s xs:=by
 refine ⟨⟨h.row.1,?_⟩,h.len⟩
 rcases h.row.2 with hn | ⟨g,cap,cur,h1,h2,h3,h4⟩
 ·exact .inl hn
 ·refine .inr ⟨g,cap,cur,h1,h2,hc.heap h3 ?_,h4⟩
  simp only [Value.slice.injEq] at h1
  exact hs ⟨g,0,none⟩ h1.1
theorem OwnT.idx {w:World} {e:TypeId} {t:Ty} {s:Sl} {xs:List t.den} (h:OwnT w e t s xs) {i:Int} (j:Nat) (hi:i = (j:Int)) (hj:j < xs.length) {K:Addr → Prop}
  (k:∀ g,s.a = some ⟨g,0,none⟩ → K ((Addr.mk g 0 none).add (j * t.sz))):Idx s.a s.n t.sz i K:=by
 rcases h.block with ⟨_,h1⟩ | ⟨g,cur,h1,h2,h3,h4,h5,h6⟩
 ·subst h1; simp at hj
 ·exact ⟨_,h1,by omega,by rw [h.len]; omega,by rw [hi]; simpa using k g h1⟩
theorem set_flat1 (s:Sc) (xs:List s.den) (j:Nat) (x:s.den):(xs.set j x).flatMap (Ty.cells (.sc s)) = (xs.flatMap (Ty.cells (.sc s))).set j (s.val x):=by
 have:∀ ys:List s.den,ys.flatMap (Ty.cells (.sc s)) = ys.map s.val:=fun ys=>by
  induction ys with
  | nil=>rfl
  | cons y ys ih=>rw [List.flatMap_cons,ih]; rfl
 rw [this,this,List.map_set]
theorem OwnT.store {w:World} {e:TypeId} {s:Sc} {sl:Sl} {xs:List s.den} (h:OwnT w e (.sc s) sl xs) {g:Nat} (hg:sl.a = some ⟨g,0,none⟩) (j:Nat) (hj:j < xs.length) {x:s.den} {K:World → Prop}
  (k:∀ w',OwnT w' e (.sc s) sl (xs.set j x) → Chg (· = g) w w' → w'.heap.size = w.heap.size → K w'):Store1 w ((Addr.mk g 0 none).add (j * Ty.sz (.sc s))) (s.val x) K:=by
 obtain ⟨a,n,c⟩:=sl
 simp only at hg
 subst hg
 have hrow:=h.row
 have hlen:=h.len
 simp only at hlen
 have hadd:(Addr.mk g 0 none).add (j * Ty.sz (.sc s)) = ⟨g,j,none⟩:=by rw [mk_add]; simp [Ty.sz]
 rw [hadd]
 refine ⟨⟨?_,hrow.frozenAt j⟩,?_⟩
 ·rw [hrow.cellAt j (by rw [hlen]; simpa [Ty.sz] using hj)]
  rw [List.getElem?_eq_getElem (by rw [flat_length]; simpa [Ty.sz] using hj)]
  rfl
 ·have hst:=hrow.stored j (s.val x)
  refine k _ ⟨?_,by simpa using hlen⟩ (Chg.grown hst.2 (fun k hk=>by cases hk; rfl)) (by simp)
  rw [set_flat1]
  exact hst.1
theorem LoadS.sc {S:World → Prop} {s:Sc} {a:Addr} {x:s.den} {K:s.den → Prop} (h:∀ w',S w' → w'.cell? a = some (s.val x)) (k:K x):LoadS S (.sc s) a K:=⟨x,h,k⟩
theorem LoadS.mk {S:World → Prop} (t:Ty) {a:Addr} {x:t.den} {K:t.den → Prop} (h:∀ w',S w' → ∀ j v,(t.cells x)[j]? = some v → w'.cell? (a.add j) = some v) (k:K x):LoadS S t a K:=by
 refine ⟨x,fun w' hw=>?_,k⟩
 cases t with
 | sc s=>exact (by simpa [add0] using h w' hw 0 (s.val x) rfl:w'.cell? a = some (s.val x))
 | agg l=>exact holds_of _ 0 (fun j v hv=>by rw [Nat.zero_add]; exact h w' hw j v hv)
open Classical in
theorem LoopT.fuel {σ:Type} {x0:σ} {w:World} {body:σ → Env → World → (σ → World → Prop) → Prop} (J:Nat → σ → World → Prop) (k0:Nat) (h0:J k0 x0 w)
  (h:∀ k x g w (C:σ → World → Prop),J k x w → (∀ y w' k',k' < k → J k' y w' → C y w') → body x g w C):LoopT x0 w body:=by
 have key:∀ x w,(∃ k,J k x w) → ∃ m,J m x w ∧ ∀ k,J k x w → m ≤ k:=by
  intro x w ⟨k,hk⟩
  induction k using Nat.strongRecOn with
  | _ k ih=>
   by_cases hlt:∃ k',k' < k ∧ J k' x w
   ·obtain ⟨k',h1,h2⟩:=hlt
    exact ih k' h1 h2
   ·exact ⟨k,hk,fun k' hk'=>Nat.le_of_not_lt fun hl=>hlt ⟨k',hl,hk'⟩⟩
 refine ⟨fun x w=>∃ k,J k x w,fun x w=>if hx:∃ k,J k x w then Classical.choose (key x w hx) else 0,⟨k0,h0⟩,fun x g w hx=>?_⟩
 have hm:=Classical.choose_spec (key x w hx)
 refine h _ x g w _ hm.1 fun y w' k' hlt hj=>⟨⟨k',hj⟩,?_⟩
 have hy:∃ k,J k y w':=⟨k',hj⟩
 simp only [dif_pos hy,dif_pos hx]
 exact Nat.lt_of_le_of_lt ((Classical.choose_spec (key y w' hy)).2 k' hj) hlt
theorem OwnT.elem {w:World} {e:TypeId} {t:Ty} {s:Sl} {xs:List t.den} (h:OwnT w e t s xs) {k:Nat} (hk:∃ a,s.a = some a ∧ a.block = k):∃ cur,w.heap[k]? = some (.cells cur e (0,0)):=by
 obtain ⟨a,ha,rfl⟩:=hk
 rcases h.block with ⟨h1,_⟩ | ⟨g,cur,h1,h2,_⟩
 ·rw [h1] at ha; cases ha
 ·rw [h1] at ha; cases ha; exact ⟨cur,h2⟩
theorem Store1.at {w:World} {b:Nat} {cs:Array Value} {t:TypeId} (h:w.heap[b]? = some (.cells cs t (0,0))) (k:Nat) (hk:k < cs.size) {v:Value} {cs':Array Value} (hcs:cs.setIfInBounds k v = cs') {K:World → Prop}
  (hK:∀ w',w'.heap[b]? = some (.cells cs' t (0,0)) → Chg (· = b) w w' → w'.heap.size = w.heap.size → K w'):Store1 w ((Addr.mk b 0 none).add k) v K:=by
 refine ⟨⟨?_,frozenOf h⟩,hK _ ?_ (Chg.setCell w v (by rw [add_block])) (by simp)⟩
 ·rw [cellOf h,Array.getElem?_eq_getElem hk]; rfl
 ·rw [mk_add,Nat.zero_add,← hcs]; exact heap_setCell_same w b k cs t v h
theorem StoreN.at {b:Nat} {t:TypeId}:∀ (vs:List Value) (w:World) (cs:Array Value) (i:Nat) {K:World → Prop},w.heap[b]? = some (.cells cs t (0,0)) → i + vs.length ≤ cs.size →
  (∀ w' cs',w'.heap[b]? = some (.cells cs' t (0,0)) → cs'.size = cs.size → (∀ j v,vs[j]? = some v → cs'[i + j]? = some v) → (∀ j,j < i → cs'[j]? = cs[j]?) → Chg (· = b) w w' → w'.heap.size = w.heap.size → K w') →
  OpenN w (Addr.mk b 0 none) i vs.length ∧ K (setCells w (Addr.mk b 0 none) i vs)
 | [],w,cs,i,K,h,hl,hK=>⟨trivial,hK w cs h rfl (fun j v hv=>by simp at hv) (fun j hj=>rfl) (Chg.refl w) rfl⟩
 | v :: vs,w,cs,i,K,h,hl,hK=>by
  simp only [List.length_cons] at hl
  have hopen:Open1 w ((Addr.mk b 0 none).add i):=⟨by rw [cellOf h,Array.getElem?_eq_getElem (by omega)]; rfl,frozenOf h⟩
  have hset:(w.setCell ((Addr.mk b 0 none).add i) v).heap[b]? = some (.cells (cs.setIfInBounds i v) t (0,0)):=by rw [mk_add,Nat.zero_add]; exact heap_setCell_same w b i cs t v h
  have hc:Chg (· = b) w (w.setCell ((Addr.mk b 0 none).add i) v):=Chg.setCell w v (by rw [add_block])
  have ih:=StoreN.at vs (w.setCell ((Addr.mk b 0 none).add i) v) (cs.setIfInBounds i v) (i + 1) (K:=fun w'=>OpenN w (Addr.mk b 0 none) (i + 1) vs.length → K w') hset (by simp; omega) (fun w' cs' h1 h2 h3 h4 h5 h6 _=>?_)
  ·have hop:∀ n j,i < j → j + n ≤ cs.size → OpenN w (Addr.mk b 0 none) j n:=by
    intro n
    induction n with
    | zero=>intro j _ _; trivial
    | succ n ihn=>intro j hj hle; exact ⟨⟨by rw [cellOf h,Array.getElem?_eq_getElem (by omega)]; rfl,frozenOf h⟩,ihn (j + 1) (by omega) (by omega)⟩
   exact ⟨⟨hopen,hop _ _ (by omega) (by omega)⟩,ih.2 (hop _ _ (by omega) (by omega))⟩
  ·refine hK w' cs' h1 (by simpa using h2) (fun j u hu=>?_) (fun j hj=>?_) (hc.then h5) (by simpa using h6)
   ·cases j with
    | zero=>
     simp only [List.getElem?_cons_zero,Option.some.injEq] at hu
     subst hu
     rw [Nat.add_zero,h4 i (by omega),Array.getElem?_setIfInBounds_self_of_lt (by omega)]
    | succ j=>rw [show i + (j + 1) = i + 1 + j by omega]; exact h3 j u (by simpa using hu)
   ·rw [h4 j (by omega),Array.getElem?_setIfInBounds_ne (by omega)]
theorem StoreN.whole {w:World} {b:Nat} {cs:Array Value} {t:TypeId} {vs:List Value} (h:w.heap[b]? = some (.cells cs t (0,0))) (hl:cs.size = vs.length) {K:World → Prop}
  (hK:∀ w',w'.heap[b]? = some (.cells vs.toArray t (0,0)) → Chg (· = b) w w' → w'.heap.size = w.heap.size → K w'):StoreN w (Addr.mk b 0 none) vs K:=by
 refine StoreN.at vs w cs 0 h (by omega) fun w' cs' h1 h2 h3 _ h5 h6=>hK w' ?_ h5 h6
 have:cs' = vs.toArray:=by
  apply Array.ext_getElem?
  intro j
  by_cases hj:j < vs.length
  ·have:=h3 j vs[j] (List.getElem?_eq_getElem hj)
   rw [Nat.zero_add] at this
   rw [this]; simp [hj]
  ·rw [Array.getElem?_eq_none (by omega)]; simp [Nat.le_of_not_lt hj]
 rw [← this]; exact h1
end Go.Proofs.YtpifnlfmojfgpaaGreatDoor.Fw
end
section
namespace Go.Proofs.YtpifnlfmojfgpaaGreatDoor.Fw
open RowKit
def slOk (P:Program) (t e:TypeId) (sz bytes:Nat):Bool:=
 match P.underlying t,P.info? e with
 | some (.slice e'),some i=>Nat.beq e' e && Nat.beq i.size sz && Nat.ble i.bytes bytes && (match i.zero with | some z=>Nat.beq z.cells.size sz | none=>false)
 | _,_=>false
theorem slOk_spec {P:Program} {t e:TypeId} {sz bytes:Nat} (h:slOk P t e sz bytes = true) :
  ∃ i z,P.underlying t = some (.slice e) ∧ P.info? e = some i ∧ i.size = sz ∧ i.bytes ≤ bytes ∧ i.zero = some z ∧ z.cells.size = sz:=by
 unfold slOk at h
 split at h
 ·rename_i e' i h1 h2
  simp only [Bool.and_eq_true] at h
  obtain ⟨⟨⟨h3,h4⟩,h5⟩,h6⟩:=h
  split at h6
  ·rename_i z hz
   have h3:=Nat.eq_of_beq_eq_true h3
   subst h3
   exact ⟨i,z,h1,h2,Nat.eq_of_beq_eq_true h4,Nat.le_of_ble_eq_true h5,hz,Nat.eq_of_beq_eq_true h6⟩
  ·cases h6
 ·cases h
def Sc.one:Sc → Bool
 | .raw=>false
 | _=>true
theorem Sc.one_val {s:Sc} (h:s.one = true) (x:s.den):(s.val x).oneCell' = true:=by cases s <;> first | rfl | cases h
def Ty.one:Ty → Bool
 | .sc s=>s.one
 | .agg l=>l.all Sc.one
theorem vals_one:∀ {l:List Sc},l.all Sc.one = true → ∀ (x:dens l) (v:Value),v ∈ vals l x → v.oneCell' = true
 | [],_,x,v,h=>by simp [vals] at h
 | s :: l,ho,(x,y),v,h=>by
  simp only [List.all_cons,Bool.and_eq_true] at ho
  simp only [vals,List.mem_cons] at h
  rcases h with rfl | h
  ·exact Sc.one_val ho.1 x
  ·exact vals_one ho.2 y v h
theorem Ty.one_cells {t:Ty} (h:t.one = true) (x:t.den) (v:Value) (hv:v ∈ t.cells x):v.oneCell' = true:=by
 cases t with
 | sc s=>simp only [Ty.cells,List.mem_singleton] at hv; subst hv; exact Sc.one_val h x
 | agg l=>exact vals_one h x v hv
def Sl.own (s:Sl):Nat → Prop:=fun k=>∃ a,s.a = some a ∧ a.block = k
theorem OwnT.append {P:Program} {w:World} {st ty e:TypeId} {t:Ty} {bytes:Nat} (ok:slOk P st e t.sz bytes = true) (ht:t.one = true) (hsz:0 < t.sz) {s:Sl} {xs:List t.den} (h:OwnT w e t s xs)
  {b:Addr} {m c:Nat} (news:List t.den) (hm:m = news.length) (h0:0 < m) (hnews:∀ j v,(news.flatMap t.cells)[j]? = some v → w.cell? (b.add j) = some v)
  (hb:(xs.length + m) * bytes ≤ 140737488355328) (h63:xs.length + m ≤ maxLen) {K:Sl → World → Prop}
  (k:∀ s' w',OwnT w' e t s' (xs ++ news) → Chg s.own w w' → (∀ i,s'.own i → s.own i ∨ w.heap.size ≤ i) → K s' w') :
  RunT P (.sc .sl) (Builtin.append_ #[st,st] ty #[s.v,.slice (some b) m c]) w K:=by
 obtain ⟨i,z,h1,h2,h3,h4,h5,h6⟩:=slOk_spec ok
 have hlen:=h.len
 have hl:(news.flatMap t.cells).length = m * i.size:=by rw [flat_length,hm,h3]
 have hl':(news.flatMap t.cells).length = m * t.sz:=by rw [flat_length,hm]
 have hone:∀ u ∈ news.flatMap t.cells,u.oneCell' = true:=fun u hu=>by
  obtain ⟨x,_,hx⟩:=List.mem_flatMap.1 hu
  exact Ty.one_cells ht x u hx
 have hbytes:(s.n + m) * i.bytes ≤ 140737488355328:=by rw [hlen]; exact Nat.le_trans (Nat.mul_le_mul_left _ h4) hb
 have h63':s.n + m ≤ maxLen:=by rw [hlen]; exact h63
 have fin:∀ (v':Value) (w':World),(Builtin.append_ #[st,st] ty #[s.v,.slice (some b) m c]).run P w = .ok v' w' → w'.ownsRow 0 e t.sz v' (s.n + m) (xs.flatMap t.cells ++ news.flatMap t.cells) → w.grownBy w' s.v.ownBlock →
   (∃ g n c',v' = .slice (some ⟨g,0,none⟩) n c' ∧ (s.own g ∨ w.heap.size ≤ g)) → RunT P (.sc .sl) (Builtin.append_ #[st,st] ty #[s.v,.slice (some b) m c]) w K:=by
  rintro v' w' hrun hown hgr ⟨g,n,c',rfl,hg⟩
  have hn:n = s.n + m:=by
   rcases hown.2 with ⟨hh,_⟩ | ⟨_,_,_,hh,_⟩ <;> simp only [Value.slice.injEq] at hh
   ·cases hh.1
   ·exact hh.2.1
  refine ⟨⟨some ⟨g,0,none⟩,n,c'⟩,w',hrun,k _ _ ⟨?_,?_⟩ (Chg.grown hgr fun k hk=>?_) fun i hi=>?_⟩
  ·rw [List.flatMap_append]; subst hn; exact hown
  ·rw [List.length_append]; show n = _; omega
  ·unfold Value.ownBlock at hk
   split at hk
   ·rename_i a _ _ hv
    cases hk
    simp only [Value.slice.injEq] at hv
    exact ⟨a,hv.1,rfl⟩
   ·cases hk
  ·obtain ⟨a,ha,rfl⟩:=hi
   cases ha; exact hg
 rcases h.block with ⟨ha,hx⟩ | ⟨g,cur,ha,hcur,hnc,hcm,hcs,htake⟩
 ·have hrow:w.ownsRow w.heap.size e t.sz s.v s.n (xs.flatMap t.cells):=by
   rcases h.row.2 with hn | ⟨g,cap,cur,hn,_⟩
   ·exact ⟨h.row.1,.inl hn⟩
   ·simp only [Value.slice.injEq] at hn; rw [ha] at hn; cases hn.1
  obtain ⟨v',w',hr,ho,hg,hnil⟩:=run_append_own (P:=P) w w.heap.size st ty e i z t.sz i.bytes h1 h2 h5 h3 rfl h6 hsz s.v s.n (xs.flatMap t.cells) hrow b m c _ hl' hnews hone h63' hbytes (Nat.le_refl _)
  rcases ho.2 with ⟨hv,_⟩ | ⟨g',cap,cur',hv,hge,hh⟩
  ·have:=(hnil.1 hv).2; omega
  ·exact fin v' w' hr ⟨ho.1,.inr ⟨g',cap,cur',hv,Nat.zero_le _,hh⟩⟩ hg ⟨g',_,_,hv,.inr hge⟩
 ·have hv:s.v = .slice (some ⟨g,0,none⟩) s.n s.c:=by simp only [Sl.v]; rw [ha]
  by_cases hroom:s.n + m ≤ s.c
  ·obtain ⟨w',hr,ho,hg⟩:=run_append_fits (P:=P) w 0 st ty e i t.sz h1 h2 h3 g s.n s.c (xs.flatMap t.cells) (hv ▸ h.row) b m c _ hl' hnews hone hroom
   refine fin _ w' (by rw [hv]; exact hr) ho (by rw [hv]; exact hg) ⟨g,_,_,rfl,.inl ⟨_,ha,rfl⟩⟩
  ·obtain ⟨v',w',hr,ho,hg,_⟩:=run_append_own (P:=P) w 0 st ty e i z t.sz i.bytes h1 h2 h5 h3 rfl h6 hsz s.v s.n (xs.flatMap t.cells) h.row b m c _ hl' hnews hone h63' hbytes (Nat.zero_le _)
   have holds:∀ j v,(xs.flatMap t.cells)[j]? = some v → w.cell? ((Addr.mk g 0 none).add j) = some v:=fun j v hj=>by
    rw [cellOf hcur]
    rw [← htake,List.getElem?_take] at hj
    split at hj
    ·simpa using hj
    ·cases hj
   have hgrow:=run_append_grow (P:=P) w st ty e i z h1 h2 h5 ⟨g,0,none⟩ s.n s.c (xs.flatMap t.cells) (by rw [flat_length,h3,hlen]) holds b m c _ hl hnews (by omega) (by simp only [maxLen] at h63'; omega) (growslice_fits (by omega) hbytes)
   rw [hv] at hr
   rw [hgrow] at hr
   cases hr
   refine fin _ _ (by rw [hv]; exact hgrow) ho hg ⟨_,_,_,rfl,.inr (Nat.le_refl _)⟩
def zeroIs (P:Program) (e:TypeId) (v:Value):Prop:=(P.info? e).bind (·.zero) = some v
theorem makeSlice_own {P:Program} {w:World} {st e:TypeId} {s:Sc} {bytes:Nat} (ok:slOk P st e 1 bytes = true) {z:s.den} (hz:zeroIs P e (s.val z)) (ho:s.one = true) {n:Int} (n':Nat) (hn:n = (n':Int)) (hb:bytes * n' ≤ 140737488355328) (h63:n' ≤ maxLen) {kl kc:IntKind} {K:Sl → World → Prop}
  (k:∀ g w',OwnT w' e (.sc s) ⟨some ⟨g,0,none⟩,n',n'⟩ (List.replicate n' z) → Chg Nil w w' → g = w.heap.size → K ⟨some ⟨g,0,none⟩,n',n'⟩ w') :
  RunT P (.sc .sl) (Instr.makeSlice st (.int kl n) (.int kc n)) w K:=by
 obtain ⟨i,z',h1,h2,h3,h4,h5,h6⟩:=slOk_spec ok
 unfold zeroIs at hz
 rw [h2] at hz
 simp only [Option.bind_some] at hz
 rw [h5] at hz; cases hz
 have hcells:(s.val z).cells = #[s.val z]:=by
  have:=Sc.one_val ho z
  cases hv:s.val z <;> rw [hv] at this <;> first | rfl | (simp [Value.oneCell'] at this)
 obtain ⟨w',hr,hrow,hg⟩:=run_make_full (P:=P) w w.heap.size st e i _ 1 h1 h2 h5 h3 kl kc n' (Nat.le_trans (Nat.mul_le_mul_right _ h4) (by omega)) h63 (Nat.le_refl _)
 refine ⟨⟨some ⟨w.heap.size,0,none⟩,n',n'⟩,w',by rw [hn]; exact hr,k _ _ ⟨?_,by simp⟩ (Chg.grown hg fun k hk=>by cases hk) rfl⟩
 ·have hf:(List.replicate n' z).flatMap (Ty.cells (.sc s)) = List.replicate n' (s.val z):=by
   clear hr hrow hg hb h63 hn k
   induction n' with
   | zero=>rfl
   | succ n ih=>rw [List.replicate_succ,List.flatMap_cons,ih]; rfl
  rw [hf,← toList_madeCells_one]
  rw [hcells,Nat.mul_one] at hrow
  rcases hrow.2 with ⟨hh,_⟩ | ⟨g,cap,cur,hh,_,hrest⟩
  ·simp at hh
  ·exact ⟨hrow.1,.inr ⟨g,cap,cur,hh,Nat.zero_le _,hrest⟩⟩
theorem bytes_string {P:Program} {w:World} {src dst e:TypeId} (hs:P.underlying src = some (.slice e)) (he:P.underlying e = some (.int .u8)) (hd:P.underlying dst = some .string) {s:Sl} {l:List UInt8}
  (h:RdT w (.sc (.int .u8)) s (l.map fun b=>(b.toNat:Int))) {K:ByteArray → World → Prop} (k:K ⟨l.toArray⟩ w):RunT P (.sc .str) (convert src dst s.v) w K:=by
 have hn:s.n = l.length:=by rw [h.len,List.length_map]
 cases ha:s.a with
 | none=>
  have hl:l = []:=by
   cases l with
   | nil=>rfl
   | cons b l=>
    obtain ⟨a,h1,_⟩:=h.at' 0 (b.toNat:Int) (by simp)
    rw [ha] at h1; cases h1
  subst hl
  refine ⟨_,w,?_,k⟩
  rw [show s.v = .slice none s.n s.c by simp only [Sl.v]; rw [ha]]
  exact run_convert_bytes_nil w src e hs he _ _ dst hd
 | some a=>
  refine ⟨_,w,?_,k⟩
  rw [show s.v = .slice (some a) l.length s.c by simp only [Sl.v]; rw [ha,hn]]
  refine run_convert_bytes_back w src dst e a s.c l hs he hd fun j hj=>?_
  obtain ⟨a',h1,h2⟩:=h.at' j (l[j].toNat:Int) (by simp [List.getElem?_eq_getElem hj])
  rw [ha] at h1; cases h1
  have:=h2 0 _ rfl
  simpa [add0,Ty.sz] using this
end Go.Proofs.YtpifnlfmojfgpaaGreatDoor.Fw
end
section
namespace Go.Proofs.YtpifnlfmojfgpaaGreatDoor.Pw
open Fw
def big:Nat:=4611686018427387904
structure BrP (b:Bool) (A B:Prop):Prop where
 t:b = true → A
 f:b = false → B
inductive GetL {α:Type} (xs:List α) (i:Int) (K:α → Prop):Prop
 | mk (x:α) (h0:0 ≤ i) (h:xs[i.toNat]? = some x) (k:K x)
structure SubL {α:Type} (xs:List α) (lo hi:Int) (K:List α → Prop):Prop where
 h0:0 ≤ lo
 h1:lo ≤ hi
 h2:hi ≤ (xs.length:Int)
 k:K ((xs.take hi.toNat).drop lo.toNat)
structure LenL {α:Type} (xs:List α) (A:Prop):Prop where
 k:xs.length ≤ 9223372036854775807 → A
inductive BytL (xs:List Int) (K:List UInt8 → Prop):Prop
 | mk (b:List UInt8) (h:xs = b.map fun c=>(c.toNat:Int)) (hn:b.length ≤ big) (k:K b)
def FlatV:(t:PT) → t.den → List Value → Prop
 | .int k,x,vs=>vs = [.int k x]
 | .bool,x,vs=>vs = [.bool x]
 | .str,x,vs=>∃ b:ByteArray,vs = [.string b] ∧ b.data.toList = x
 | .lst _,_,_=>False
 | .nil,_,vs=>vs = []
 | .cons h t,x,vs=>∃ us us',vs = us ++ us' ∧ FlatV h x.1 us ∧ FlatV t x.2 us'
structure EqOk (P:Program) (xt:TypeId) (t:PT):Prop where
 e:∀ (x y:t.den) (us vs:List Value),FlatV t x us → FlatV t y vs → ∀ (w:World) (ox oy:Operand),(do eqGuard .eql xt ox oy (.agg us.toArray) (.agg vs.toArray); binOp .eql xt (.agg us.toArray) (.agg vs.toArray):Sem Value).run P w = .ok (.bool (t.beq x y)) w
 n:∀ (x y:t.den) (us vs:List Value),FlatV t x us → FlatV t y vs → ∀ (w:World) (ox oy:Operand),(do eqGuard .neq xt ox oy (.agg us.toArray) (.agg vs.toArray); binOp .neq xt (.agg us.toArray) (.agg vs.toArray):Sem Value).run P w = .ok (.bool (!(t.beq x y))) w
structure AppL {α:Type} (xs ys:List α) (A:Prop):Prop where
 h:xs.length + ys.length ≤ 68719476736
 k:A
structure CatL {α:Type} (xs ys:List α) (A:Prop):Prop where
 h:xs.length + ys.length ≤ big
 k:A
structure NilL {α:Type} (xs:List α) (K:Bool → Prop):Prop where
 k:∀ b,(b = true → xs = []) → K b
structure QuoP (b:Int) (A:Prop):Prop where
 h:b ≠ 0
 k:A
structure MakeL (n:Int) (A:Prop):Prop where
 h0:0 ≤ n
 h1:n ≤ 68719476736
 k:A
def okTy (P:Program) (t:TypeId):Bool:=bif isAggT P t then Nat.beq (sizeP P t) (shOf P 8 t).sz && (P.info? t).isSome else (P.underlying t).isSome
def slElem (P:Program) (t:TypeId):Option TypeId:=
 match P.underlying t with
 | some (.slice e)=>some e
 | _=>none
def okEl (P:Program) (t:TypeId) (n:Nat):Bool:=
 match slElem P t with
 | some el=>Nat.beq (sizeP P el) n && (P.info? el).isSome
 | none=>false
def isPtrT (P:Program) (t:TypeId):Bool:=
 match P.underlying t with
 | some (.pointer _)=>true
 | _=>false
def buildOk (P:Program) (t:TypeId):Bool:=
 match P.underlying t with
 | some (.struct fs)=>infosOf P fs
 | some (.array _ el)=>(P.info? el).isSome
 | _=>false
def okBytes (P:Program) (t:TypeId):Bool:=
 match slElem P t with
 | some el=>(match P.underlying el with
  | some (.int .u8)=>Nat.beq (sizeP P el) 1 && (P.info? el).isSome
  | _=>false)
 | none=>false
def evA (e:AEnv):Operand → AV
 | .tmp t=>e t
 | .const v=>constA v
 | .global g=>.cst (.pointer (some ⟨g,0,none⟩))
 | .func f=>.fn f .anil
def boolA (v:AV) (K:Bool → Prop):Prop:=
 match v with
 | .lit b=>K b
 | .pv .bool b=>K b
 | _=>False
def intB (op:BinOp) (k:IntKind) (a b:Int) (K:AV → Prop):Prop:=
 match op with
 | .add=>K (.pv (.int k) (k.wrap (a + b)))
 | .sub=>K (.pv (.int k) (k.wrap (a - b)))
 | .mul=>K (.pv (.int k) (k.wrap (a * b)))
 | .quo=>QuoP b (K (.pv (.int k) (k.wrap (a.tdiv b))))
 | .rem=>QuoP b (K (.pv (.int k) (a.tmod b)))
 | .and=>K (.pv (.int k) (Go.bits .and k a b))
 | .or=>K (.pv (.int k) (Go.bits .or k a b))
 | .xor=>K (.pv (.int k) (Go.bits .xor k a b))
 | .eql=>K (.pv .bool (a == b))
 | .neq=>K (.pv .bool (a != b))
 | .lss=>K (.pv .bool (decide (a < b)))
 | .leq=>K (.pv .bool (decide (a ≤ b)))
 | .gtr=>K (.pv .bool (decide (a > b)))
 | .geq=>K (.pv .bool (decide (a ≥ b)))
 | _=>False
def strB (op:BinOp) (a b:List UInt8) (K:AV → Prop):Prop:=
 match op with
 | .add=>CatL a b (K (.pv .str (a ++ b)))
 | .eql=>K (.pv .bool (a == b))
 | .neq=>K (.pv .bool (a != b))
 | _=>False
def eqB (op:BinOp) (t:PT) (a b:t.den) (K:AV → Prop):Prop:=
 bif t.flat then
  match op with
  | .eql=>K (.pv .bool (t.beq a b))
  | .neq=>K (.pv .bool (!(t.beq a b)))
  | _=>False
 else False
def isNil (v:AV) (K:Bool → Prop):Prop:=
 match v with
 | .cst (.slice none 0 0)=>K true
 | .pv (.lst _) xs=>NilL xs K
 | .ls _ xs _=>NilL xs K
 | _=>False
def binP (P:Program) (xt:TypeId) (op:BinOp) (a b:AV) (K:AV → Prop):Prop:=
 match a,b with
 | .pv (.int k) x,.pv (.int k') y=>match PT.dec (.int k) (.int k') with
  | .yes _=>intB op k x y K
  | .no=>False
 | .pv .str x,.pv .str y=>strB op x y K
 | .pv (.cons h t) x,.pv (.cons h' t') y=>match PT.dec (PT.cons h' t') (.cons h t) with
  | .yes e=>EqOk P xt (.cons h t) ∧ eqB op (.cons h t) x (castP e y) K
  | .no=>False
 | a,.cst (.slice none 0 0)=>bif (slElem P xt).isSome then (match op with
  | .eql=>isNil a fun r=>K (.pv .bool r)
  | .neq=>isNil a fun r=>K (.pv .bool (!r))
  | _=>False) else False
 | .adr _ _,.cst (.pointer none)=>bif isPtrT P xt then (match op with
  | .eql=>K (.lit false)
  | .neq=>K (.lit true)
  | _=>False) else False
 | a,b=>bif isBoolT P xt then boolA a fun x=>boolA b fun y=>(match op with
  | .eql=>K (.pv .bool (x == y))
  | .neq=>K (.pv .bool (x != y))
  | _=>False) else False
def listA (v:AV) (K:(t:PT) → List t.den → Prop):Prop:=
 match v with
 | .pv (.lst t) xs=>K t xs
 | .ls t xs _=>K t xs
 | _=>False
def intA (v:AV) (K:Int → Prop):Prop:=
 match v with
 | .pv (.int _) n=>K n
 | _=>False
def lenA (P:Program) (t:TypeId) (v:AV) (K:AV → Prop):Prop:=
 bif isStrT P t then (match v with
 | .pv .str s=>LenL s (K (.pv (.int .i64) (s.length:Int)))
 | _=>False)
 else bif (slElem P t).isSome then (match v with
 | .pv (.lst _) xs=>LenL xs (K (.pv (.int .i64) (xs.length:Int)))
 | .ls _ xs _=>LenL xs (K (.pv (.int .i64) (xs.length:Int)))
 | .cst (.slice none 0 0)=>K (.pv (.int .i64) 0)
 | _=>False) else False
def optA (o:Option AV) (K:AV → Prop):Prop:=
 match o with
 | some v=>K v
 | none=>False
def boundA (o:Option AV) (d:Int) (K:Int → Prop):Prop:=
 match o with
 | none=>K d
 | some v=>intA v K
def subA (P:Program) (xt:TypeId) (v:AV) (lo hi:Option AV) (K:AV → Prop):Prop:=
 match v with
 | .pv .str s=>bif isStrT P xt then boundA lo 0 fun a=>boundA hi s.length fun b=>SubL s a b fun r=>K (.pv .str r) else False
 | .pv (.lst t) xs=>bif okEl P xt t.sz then boundA lo 0 fun a=>boundA hi xs.length fun b=>SubL xs a b fun r=>K (.pv (.lst t) r) else False
 | .ls t xs _=>bif okEl P xt t.sz then boundA lo 0 fun a=>boundA hi xs.length fun b=>SubL xs a b fun r=>K (.pv (.lst t) r) else False
 | _=>False
def fillA (place:Nat → Option (Nat × Nat)):AV → List (Nat × AV) → Option AV
 | v,[]=>some v
 | v,(i,x) :: l=>match place i,v.nth i,v.setN i x with
  | some (o,k),some y,some u=>bif Nat.beq o (v.offs i) && Nat.beq k x.sz && Nat.beq y.sz x.sz && x.val then fillA place u l else none
  | _,_,_=>none
def placeOf (P:Program) (t:TypeId) (i:Nat):Option (Nat × Nat):=
 match P.underlying t with
 | some (.struct fs)=>bif infosOf P fs then (fs[i]?).map fun f=>(f.offset,sizeP P f.type) else none
 | some (.array _ el)=>bif (P.info? el).isSome then some (i * sizeP P el,sizeP P el) else none
 | _=>none
def i64of (P:Program) (t:TypeId):Option IntKind:=
 match P.underlying t with
 | some (.int k)=>some k
 | _=>none
def opQ (P:Program) (M:Nat → Nat → Bool) (op:Op) (e:AEnv) (H:AHeap) (K:AV → Prop):Prop:=
 match op with
 | .move x=>K (evA e x)
 | .assign x=>K (evA e x)
 | .pick c a b=>
  match evA e c with
  | .lit t=>(match t with | true=>K (evA e a) | false=>K (evA e b))
  | .pv .bool t=>BrP t (K (evA e a)) (K (evA e b))
  | _=>False
 | .build t ps=>match zeroA P t with
  | some z=>bif buildOk P t then optA (fillA (placeOf P t) z (ps.toList.map fun (i,x)=>(i,evA e x))) K else False
  | none=>False
 | .load t x=>
  match evA e x with
  | .adr id o=>bif okTy P t && (List.range (shOf P 8 t).sz).all (fun j=>!M id (o + j)) then optA (ofCells (shOf P 8 t) (H.c id) o) K else False
  | .ref t' y=>bif okTy P t && Nat.beq (shOf P 8 t).sz t'.sz && (isAggT P t == t'.isAgg) then K (.pv t' y) else False
  | _=>False
 | .nilCheck x=>
  match evA e x with
  | .adr id o=>K (.adr id o)
  | .ref t y=>K (.ref t y)
  | .fn f c=>K (.fn f c)
  | _=>False
 | .binOp op xt x y _=>binP P xt op (evA e x) (evA e y) K
 | .unOp .not _ x=>(match evA e x with
  | .lit b=>K (.lit (!b))
  | .pv .bool b=>K (.pv .bool (!b))
  | _=>False)
 | .unOp .neg _ x=>(match evA e x with
  | .pv (.int k) n=>K (.pv (.int k) (k.wrap (-n)))
  | _=>False)
 | .convert s d x=>(match evA e x with
  | .pv (.int k') n=>match i64of P s,i64of P d with
   | some k0,some k=>bif decide (k0 = k') then K (.pv (.int k) (k.wrap n)) else False
   | _,_=>False
  | .pv (.lst (.int .u8)) xs=>bif isStrT P d && okBytes P s then BytL xs fun b=>K (.pv .str b) else False
  | .ls (.int .u8) xs _=>bif isStrT P d && okBytes P s then BytL xs fun b=>K (.pv .str b) else False
  | _=>False)
 | .makeInterface t x=>(match P.underlying t with
  | some (.interface _)=>False
  | some _=>bif (evA e x).val then K (.ifc t (evA e x)) else False
  | none=>False)
 | .makeFunc fn fi ca=>(match fn with
  | .func f=>bif Nat.beq fi.size 0 && ca.toList.all (fun x=>(evA e x).val && !(evA e x).isAgg) then K (.fn f (ca.toList.foldr (fun x l=>.acons (evA e x) l) .anil)) else False
  | _=>False)
 | .fieldAddr s x f=>(match fieldOff P s f with
  | some (off,t)=>bif Nat.blt 0 (sizeP P t) then (match evA e x with
   | .adr id o=>K (.adr id (o + off))
   | .ref t' y=>bif Nat.beq off ((AV.pv t' y).offs f) then (match (AV.pv t' y).nth f with
    | some (.pv t'' z)=>K (.ref t'' z)
    | _=>False) else False
   | _=>False) else False
  | none=>False)
 | .field s x f=>(match fieldOff P s f with
  | some (off,t)=>(match (evA e x).nth f with
   | some v=>bif Nat.beq off ((evA e x).offs f) && (isAggT P t == v.isAgg) && (bif isAggT P t then Nat.beq (sizeP P t) v.sz && (P.info? t).isSome else (P.underlying t).isSome) then K v else False
   | none=>False)
  | none=>False)
 | .indexAddr t x i=>listA (evA e x) fun s xs=>bif okEl P t s.sz then intA (evA e i) fun n=>GetL xs n fun y=>K (.ref s y) else False
 | .index t x i=>(match evA e x with
  | .pv .str s=>bif isStrT P t then intA (evA e i) fun n=>GetL s n fun b=>K (.pv (.int .u8) (b.toNat:Int)) else False
  | _=>False)
 | .slice xt x lo hi mx=>(match mx with
  | none=>subA P xt (evA e x) (lo.map (evA e)) (hi.map (evA e)) K
  | some _=>False)
 | .extract t i=>(match evA e t with
  | .tup l=>optA (l.nth i) K
  | _=>False)
 | .call c=>(match c.callee with
  | .builtin .len=>(match c.args.toList,c.argTypes.toList with
   | [x],[t]=>lenA P t (evA e x) K
   | _,_=>False)
  | _=>False)
 | _=>False
def ptL (f:TypeId → PT):List Field → PT
 | []=>.nil
 | x :: l=>.cons (f x.type) (ptL f l)
def repP (h:PT):Nat → PT
 | 0=>.nil
 | n + 1=>.cons h (repP h n)
def ptOf (P:Program):Nat → TypeId → PT
 | 0,_=>.nil
 | n + 1,t=>
  match P.underlying t with
  | some (.int k)=>.int k
  | some .bool=>.bool
  | some .string=>.str
  | some (.slice e)=>.lst (ptOf P n e)
  | some (.struct fs)=>ptL (ptOf P n) fs.toList
  | some (.array len el)=>repP (ptOf P n el) len
  | _=>.nil
def allPv (t:PT):List AV → (List t.den → Prop) → Prop
 | [],K=>K []
 | v :: l,K=>toPv t v fun x=>allPv t l fun xs=>K (x :: xs)
def storesOk (M:Nat → Nat → Bool) (bar:Bool) (id o n:Nat):Bool:=bar || (List.range n).all fun j=>M id (o + j)
abbrev CallH:=(Nat → Nat → Bool) → Bool → FuncId → List AV → AHeap → Nat → (AV → AHeap → Nat → Prop) → (AV → AHeap → Prop) → Prop
def opW (P:Program) (M:Nat → Nat → Bool) (bar:Bool) (call:CallH)
  (o:Oper) (e:AEnv) (H:AHeap) (n:Nat) (K:AV → AHeap → Nat → Prop) (Kp:AV → AHeap → Prop):Prop:=
 match o.op with
 | .alloc t=>match zeroA P t with
  | some z=>K (.adr n 0) (H.setL n 0 z.cells) (n + 1)
  | none=>False
 | .box _ x=>bif (evA e x).val then K (.adr n 0) (H.setL n 0 (evA e x).cells) (n + 1) else False
 | .store t x y=>
  match evA e x with
  | .adr id off=>bif (evA e y).val && (P.info? t).isSome && Nat.beq (sizeP P t) (evA e y).cells.length && (List.range (evA e y).cells.length).all (fun j=>(H.c id (off + j)).isSome) && storesOk M bar id off (evA e y).cells.length then K .top (H.setL id off (evA e y).cells) n else False
  | _=>False
 | .buildSlice t len ps=>match slElem P t with
  | some el=>allPv (ptOf P 8 el) (ps.toList.map fun p=>evA e p.2) fun xs=>
    bif slOk P t el (ptOf P 8 el).sz 2048 && Nat.blt 0 (ptOf P 8 el).sz && Nat.beq len ps.size && (ps.toList.map (·.1) == List.range len) && Nat.ble (len * sizeP P el) 16777216 then K (.ls (ptOf P 8 el) xs n) (H.setT n (some el)) (n + 1) else False
  | none=>False
 | .makeSlice t l c=>match slElem P t with
  | some el=>match zeroA P el with
   | some z=>toPv (ptOf P 8 el) z fun x=>bif slOk P t el (ptOf P 8 el).sz 2048 && Nat.blt 0 (ptOf P 8 el).sz then
     intA (evA e l) fun m=>intA (evA e c) fun m'=>m' = m ∧ MakeL m (K (.ls (ptOf P 8 el) (List.replicate m.toNat x) n) (H.setT n (some el)) (n + 1)) else False
   | none=>False
  | none=>False
 | .convert sr d x=>(match evA e x with
  | .pv .str b=>bif isStrT P sr && okBytes P d then K (.pv (.lst (.int .u8)) (b.map fun c=>(c.toNat:Int))) H n else False
  | _=>False)
 | .panic x=>(match evA e x with
  | .ifc t v=>Kp (.ifc t v) H
  | _=>False)
 | .call c=>
  match c.callee with
  | .builtin .append=>(match c.args.toList,c.argTypes.toList with
   | [a,b],[st,st']=>bif Nat.beq st st' then (match slElem P st with
    | some el=>bif slOk P st el (ptOf P 8 el).sz 2048 && Nat.blt 0 (ptOf P 8 el).sz then
      toLs el (ptOf P 8 el) (evA e a) H fun xs H1=>toPv (.lst (ptOf P 8 el)) (evA e b) fun ys=>AppL xs ys (K (.ls (ptOf P 8 el) (xs ++ ys) n) (H1.setT n (some el)) (n + 1)) else False
    | none=>False) else False
   | _,_=>False)
  | .value f=>
   match evA e f with
   | .fn g ca=>call M bar g ((c.args.toList.map (evA e)) ++ ca.cells) H n K Kp
   | _=>False
  | _=>False
 | _=>False
end Go.Proofs.YtpifnlfmojfgpaaGreatDoor.Pw
end
section
namespace Go.Proofs.YtpifnlfmojfgpaaGreatDoor.Pw
open Fw
inductive Ent where
 | sl (d:Nat) (t:AT)
 | mem (id off:Nat) (t:AT)
 | kp (d:Nat)
 /-- A slot that keeps its value. -/
 | kv (d:Nat)
 /-- A box that keeps its cells. -/
 | km (id:Nat)
@[reducible] def eden:List Ent → Type
 | []=>Unit
 | .kp _ :: l=>eden l
 | .kv _ :: l=>eden l
 | .km _ :: l=>eden l
 | .sl _ t :: l=>t.den × eden l
 | .mem _ _ t :: l=>t.den × eden l
@[reducible] def aden:List AT → Type
 | []=>Unit
 | t :: l=>t.den × aden l
inductive Sched where
 | fin
 | op (i:Nat) (bar:Bool) (s:Sched)
 | alt (i j:Nat) (s t:Sched)
structure Sig where
 ps:List AT
 out:List AT
 res:List AT
structure FAnn where
 sig:Option Sig:=none
 loops:Nat → List Ent:=fun _=>[]
 joins:Nat → Option (List Ent):=fun _=>none
 sched:Nat → Sched:=fun _=>.fin
 hot:Nat → List (Nat × Nat × Nat):=fun _=>[]
def takeS (t:AT) (v:AV) (H:AHeap) (K:t.den → AHeap → Prop):Prop:=bif v.val && (v.isAgg == t.isAgg) && Nat.beq v.cells.length t.sz then takeA t (fun _ j=>v.cells[j]?) 0 H K else False
def AV.same:AV → AV → Bool
 | .adr i o,.adr j p=>Nat.beq i j && Nat.beq o p
 | .fn f a,.fn g b=>Nat.beq f g && a.same b
 | .yld l,.yld k=>Nat.beq l k
 | .anil,.anil=>true
 | .acons a b,.acons c d=>a.same c && b.same d
 | _,_=>false
structure SameV {α:Type} (a b:α) (K:Prop):Prop where
 h:a = b
 k:K
def AHeap.dropB (H:AHeap) (i:Nat):AHeap:={ H with c:=fun j p=>match Nat.beq j i with | true=>Option.none | false=>H.c j p }
def AHeap.putB (H:AHeap) (i:Nat) (f:Nat → Option AV):AHeap:={ H with c:=fun j p=>match Nat.beq j i with | true=>orL (H.c j p) (f p) | false=>H.c j p }
def takeE (e0:AEnv) (H0:AHeap):(l:List Ent) → AEnv → AHeap → (eden l → AHeap → Prop) → Prop
 | [],_,H,K=>K () H
 | .kp d :: l,e,H,K=>bif (e d).same (e0 d) then takeE e0 H0 l e H K else False
 | .kv d :: l,e,H,K=>SameV (e d) (e0 d) (takeE e0 H0 l e H K)
 | .km i :: l,e,H,K=>SameV (H.c i) (H0.c i) (takeE e0 H0 l e (H.dropB i) K)
 | .sl d t :: l,e,H,K=>takeS t (e d) H fun x H=>takeE e0 H0 l e H fun y H=>K (x,y) H
 | .mem i o t :: l,e,H,K=>bif (H.c i o).isSome then takeA (.box t) (fun _ _=>some (.adr i o)) 0 H fun x H=>takeE e0 H0 l e H fun y H=>K (x,y) H else False
def layC:(t:AT) → t.den → AHeap → Nat → (List AV → AHeap → Nat → Prop) → Prop
 | .pv t,x,H,n,K=>K (pvCells t x) H n
 | .ls e t,xs,H,n,K=>K [.ls t xs n] (H.setT n (some e)) (n + 1)
 | .box a,x,H,n,K=>layC a x H n fun l H n=>K [.adr n 0] (H.setL n 0 l) (n + 1)
 | .fn f a,x,H,n,K=>layC a x H n fun l H n=>K [.fn f (l.foldr .acons .anil)] H n
 | .cst v,_,H,n,K=>K [.cst v] H n
 | .any,_,H,n,K=>K [.top] H n
 | .nil,_,H,n,K=>K [] H n
 | .cons h t,x,H,n,K=>layC h x.1 H n fun a H n=>layC t x.2 H n fun b H n=>K (a ++ b) H n
def layS:(t:AT) → t.den → AHeap → Nat → (AV → AHeap → Nat → Prop) → Prop
 | .pv t,x,H,n,K=>K (.pv t x) H n
 | .ls e t,xs,H,n,K=>K (.ls t xs n) (H.setT n (some e)) (n + 1)
 | .box a,x,H,n,K=>layC a x H n fun l H n=>K (.adr n 0) (H.setL n 0 l) (n + 1)
 | .fn f a,x,H,n,K=>layC a x H n fun l H n=>K (.fn f (l.foldr .acons .anil)) H n
 | .cst v,_,H,n,K=>K (.cst v) H n
 | .any,_,H,n,K=>K .top H n
 | .nil,_,H,n,K=>K .anil H n
 | .cons h t,x,H,n,K=>layS h x.1 H n fun a H n=>layS t x.2 H n fun b H n=>K (.acons a b) H n
def junk:AEnv:=fun _=>.top
def layE (e0:AEnv) (H0:AHeap):(l:List Ent) → eden l → AHeap → Nat → (AEnv → AHeap → Nat → Prop) → Prop
 | [],_,H,n,K=>K junk H n
 | .kp d :: l,x,H,n,K=>layE e0 H0 l x H n fun e H n=>K (aupd e d (e0 d)) H n
 | .kv d :: l,x,H,n,K=>layE e0 H0 l x H n fun e H n=>K (aupd e d (e0 d)) H n
 | .km i :: l,x,H,n,K=>layE e0 H0 l x H n fun e H n=>K e (H.putB i (H0.c i)) n
 | .sl d t :: l,x,H,n,K=>layS t x.1 H n fun v H n=>layE e0 H0 l x.2 H n fun e H n=>K (aupd e d v) H n
 | .mem i o t :: l,x,H,n,K=>layC t x.1 H n fun c H n=>layE e0 H0 l x.2 H n fun e H n=>K e (H.setL i o c) n
inductive LoopP {σ:Type} (x0:σ) (body:σ → (σ → Prop) → Prop):Prop
 | mk (I:σ → Prop) (μ:σ → Nat) (h0:I x0) (h:∀ x,I x → body x fun y=>I y ∧ μ y < μ x)
 /-- Round by round. -/
 | run (n:Nat) (R:Nat → σ → Prop) (z:∀ x,¬ R 0 x) (h:∀ n x,R (n + 1) x → body x (R n)) (h0:R n x0)
inductive JoinP {σ:Type} (Y:σ → Prop) (F:(σ → Prop) → Prop):Prop
 | mk (I:σ → Prop) (h:∀ x,I x → Y x) (k:F I)
structure AKs where
 N:AEnv → AHeap → Nat → Prop
 X:Nat → AEnv → AHeap → Nat → Prop
 R:AEnv → AHeap → Nat → Prop
 P:AV → AHeap → Prop
def gateP (ops:Array Oper) (o:Oper) (e:AEnv) (run skip:AEnv → Prop):Prop:=
 match guardSlot ops o with
 | none=>run e
 | some (d,want)=>
  match e d with
  | .lit b=>bif b == want then run e else skip e
  | .pv .bool b=>BrP b (bif want then run (aupd e d (.lit true)) else skip (aupd e d (.lit true))) (bif want then skip (aupd e d (.lit false)) else run (aupd e d (.lit false)))
  | .tup .anil=>skip e
  | _=>False
def isQ (P:Program):Op → Bool
 | .move _ | .assign _ | .pick _ _ _ | .build _ _ | .load _ _ | .nilCheck _ | .binOp _ _ _ _ _ | .unOp _ _ _ | .makeInterface _ _ | .makeFunc _ _ _
 | .fieldAddr _ _ _ | .field _ _ _ | .indexAddr _ _ _ | .index _ _ _ | .slice _ _ _ _ _ | .extract _ _=>true
 | .convert _ d _=>match P.underlying d with | some (.slice _)=>false | _=>true
 | .call c=>match c.callee with | .builtin .len=>true | _=>false
 | _=>false
def stepP (P:Program) (call:CallH) (ops:Array Oper) (M:Nat → Nat → Bool) (bar:Bool) (o:Oper) (e:AEnv) (H:AHeap) (n:Nat) (K:AEnv → AHeap → Nat → Prop) (Kp:AV → AHeap → Prop):Prop:=
 gateP ops o e (fun e=>match isQ P o.op with
  | true=>opQ P M o.op e H fun v=>K (aupdO e o.dst v) H n
  | false=>opW P M bar call o e H n (fun v H n=>K (aupdO e o.dst v) H n) Kp) (fun e=>K (aupdO e o.dst (.tup .anil)) H n)
def noM:Nat → Nat → Bool:=fun _ _=>false
def seqP (P:Program) (call:CallH) (ops:Array Oper) (K:AEnv → AHeap → Nat → Prop) (Kp:AV → AHeap → Prop):List Oper → AEnv → AHeap → Nat → Prop
 | [],e,H,n=>K e H n
 | o :: l,e,H,n=>stepP P call ops noM true o e H n (seqP P call ops K Kp l) Kp
def opAt (ops:List Oper) (i:Nat) (K:Oper → Prop):Prop:=
 match ops[i]? with
 | some o=>K o
 | none=>False
def ordP (P:Program) (call:CallH) (ops:Array Oper) (M:Nat → Nat → Bool) (K:AEnv → AHeap → Nat → Prop) (Kp:AV → AHeap → Prop):Sched → AEnv → AHeap → Nat → Prop
 | .fin,e,H,n=>K e H n
 | .op i bar s,e,H,n=>opAt ops.toList i fun o=>stepP P call ops M bar o e H n (ordP P call ops M K Kp s) Kp
 | .alt i j s t,e,H,n=>
  (opAt ops.toList i fun o=>stepP P call ops M false o e H n (ordP P call ops M K Kp s) Kp) ∧
  (opAt ops.toList j fun o=>stepP P call ops M false o e H n (ordP P call ops M K Kp t) Kp)
def mutOf (e:AEnv):List (Nat × Nat × Nat) → Nat → Nat → Bool
 | []=>noM
 | (d,o,k) :: l=>match Nat.ble 1000000 d with
  | true=>fun i q=>(Nat.beq i (d - 1000000) && Nat.ble o q && Nat.blt q (o + k)) || mutOf e l i q
  | false=>match e d with
   | .adr id p=>fun i q=>(Nat.beq i id && Nat.ble (p + o) q && Nat.blt q (p + o + k)) || mutOf e l i q
   | _=>mutOf e l
def entOk (n:Nat):List Ent → Bool
 | []=>true
 | .mem i _ _ :: l=>Nat.blt i n && entOk n l
 | .km i :: l=>Nat.blt i n && entOk n l
 | _ :: l=>entOk n l
def loopEnts (A:FAnn) (c:Code):List Ent:=match firstReg c with | some i=>A.loops i | none=>[]
def wppC (P:Program) (call:CallH) (A:FAnn):Code → AKs → AEnv → AHeap → Nat → Prop
 | .skip,k,e,H,n=>k.N e H n
 | .region id ops draw,k,e,H,n=>
  match draw with
  | false=>seqP P call ops k.N k.P ops.toList e H n
  | true=>ordP P call ops (mutOf e (A.hot id)) k.N k.P (A.sched id) e H n
 | .seq a b,k,e,H,n=>
  match (match firstReg b with | some i=>A.joins i | none=>none) with
  | none=>wppC P call A a { k with N:=wppC P call A b k } e H n
  | some l=>bif !entOk n l then False else JoinP (σ:=eden l) (fun x=>layE e H l x AHeap.none n fun e H n=>wppC P call A b k e H n) fun J=>wppC P call A a { k with N:=fun e' H' n=>takeE e H l e' H' fun x _=>J x } e H n
 | .cond c a b,k,e,H,n=>
  match evA e c with
  | .lit t=>(match t with | true=>wppC P call A a k e H n | false=>wppC P call A b k e H n)
  | .pv .bool t=>BrP t (wppC P call A a k e H n) (wppC P call A b k e H n)
  | _=>False
 | .block id c,k,e,H,n=>wppC P call A c { k with X:=fun i e H n=>bif Nat.beq i id then k.N e H n else k.X i e H n } e H n
 | .exit id,k,e,H,n=>k.X id e H n
 | .ret,k,e,H,n=>k.R e H n
 | .loop c,k,e,H,n=>
  match loopEnts A c with
  | l=>bif !entOk n l then False else takeE e H l e H fun x _=>LoopP x fun x C=>layE e H l x AHeap.none n fun e1 H1 n=>wppC P call A c { k with N:=fun e' H' n=>takeE e H l e' H' fun x _=>C x } e1 H1 n
 | _,_,_,_,_=>False
def resA (P:Program) (e:AEnv) (H:AHeap):ResultVar → (AV → Prop) → Prop
 | .tmp t,K=>K (e t)
 | .cell a t,K=>match e a with
  | .adr id o=>bif okTy P t then optA (ofCells (shOf P 8 t) (H.c id) o) K else False
  | _=>False
def ressA (P:Program) (e:AEnv) (H:AHeap):List ResultVar → (List AV → Prop) → Prop
 | [],K=>K []
 | r :: l,K=>resA P e H r fun v=>ressA P e H l fun w=>K (v :: w)
def argEnv (args:List AV):AEnv:=fun t=>(args[t]?).getD .top
def takeL:(l:List AT) → List AV → AHeap → (aden l → AHeap → Prop) → Prop
 | [],[],H,K=>K () H
 | t :: l,v :: vs,H,K=>takeS t v H fun x H=>takeL l vs H fun y H=>K (x,y) H
 | _,_,_,_=>False
def layL:(l:List AT) → aden l → AHeap → Nat → (List AV → AHeap → Nat → Prop) → Prop
 | [],_,H,n,K=>K [] H n
 | t :: l,x,H,n,K=>layS t x.1 H n fun v H n=>layL l x.2 H n fun vs H n=>K (v :: vs) H n
def putL:(l:List AT) → aden l → List AV → AHeap → Nat → (AHeap → Nat → Prop) → Prop
 | [],_,[],H,n,K=>K H n
 | .box t :: l,x,v :: vs,H,n,K=>match v with
  | .adr id o=>layC t x.1 H n fun c H n=>putL l x.2 vs (H.setL id o c) n K
  | _=>False
 | .any :: l,x,_ :: vs,H,n,K=>putL l x.2 vs H n K
 | _,_,_,_,_,_=>False
def valA:List AV → AV
 | [v]=>v
 | l=>.tup (l.foldr .acons .anil)
def bodyOf (P:Program) (f:FuncId) (K:Func → Code → Prop):Prop:=
 match P.funcs[f]? with
 | some fn=>match fn.body with
  | some c=>K fn c
  | none=>False
 | none=>False
def takeO:(l:List AT) → List AV → AHeap → (aden l → AHeap → Prop) → Prop
 | [],[],H,K=>K () H
 | .box t :: l,v :: vs,H,K=>takeS (.box t) v H fun x H=>takeO l vs H fun y H=>K (x,y) H
 | .any :: l,_ :: vs,H,K=>takeO l vs H fun y H=>K ((),y) H
 | _,_,_,_=>False
end Go.Proofs.YtpifnlfmojfgpaaGreatDoor.Pw
end
section
namespace Go.Proofs.YtpifnlfmojfgpaaGreatDoor.Pw
open Fw RowKit
abbrev Pos:=Nat → Nat → Prop
structure Cx where
 A:Pos
 w:World
 b:Nat → Nat × Nat
 s:Nat → Sl
 n:Nat
def Rp (A:Pos) (w:World):(t:PT) → t.den → List Value → Prop
 | .int k,x,vs=>vs = [.int k x]
 | .bool,x,vs=>vs = [.bool x]
 | .str,x,vs=>∃ b:ByteArray,vs = [.string b] ∧ b.data.toList = x ∧ x.length ≤ big
 | .lst e,xs,vs=>∃ (a:Option Addr) (n c:Nat),vs = [.slice a n c] ∧ n = xs.length ∧ n ≤ c ∧ c ≤ maxLen ∧
   ∀ (i:Nat) (x:e.den),xs[i]? = some x → ∃ g o us,a = some ⟨g,o,none⟩ ∧ Rp A w e x us ∧ ∀ (j:Nat) (v:Value),us[j]? = some v → A g (o + i * e.sz + j) ∧ w.cell? ⟨g,o + i * e.sz + j,none⟩ = some v
 | .nil,_,vs=>vs = []
 | .cons h t,x,vs=>∃ us us',vs = us ++ us' ∧ Rp A w h x.1 us ∧ Rp A w t x.2 us'
theorem Rp.len {A:Pos} {w:World}:∀ {t:PT} {x:t.den} {vs:List Value},Rp A w t x vs → vs.length = t.sz
 | .int _,_,_,h=>by simp only [Rp] at h; subst h; rfl
 | .bool,_,_,h=>by simp only [Rp] at h; subst h; rfl
 | .str,_,_,⟨_,h,_⟩=>by subst h; rfl
 | .lst _,_,_,⟨_,_,_,h,_⟩=>by subst h; rfl
 | .nil,_,_,h=>by simp only [Rp] at h; subst h; rfl
 | .cons h t,x,_,⟨us,us',he,h1,h2⟩=>by subst he; rw [List.length_append,h1.len,h2.len]; rfl
theorem Rp.ext {A A':Pos} {w w':World} (h:∀ g o,A g o → A' g o ∧ w'.cell? ⟨g,o,none⟩ = w.cell? ⟨g,o,none⟩):∀ {t:PT} {x:t.den} {vs:List Value},Rp A w t x vs → Rp A' w' t x vs
 | .int _,_,_,hr=>hr
 | .bool,_,_,hr=>hr
 | .str,_,_,hr=>hr
 | .lst e,_,_,⟨a,n,c,h1,h2,h3,h4,h5⟩=>⟨a,n,c,h1,h2,h3,h4,fun i x hx=>by
   obtain ⟨g,o,us,h6,h7,h8⟩:=h5 i x hx
   exact ⟨g,o,us,h6,h7.ext h,fun j v hv=>⟨(h _ _ (h8 j v hv).1).1,((h _ _ (h8 j v hv).1).2).trans (h8 j v hv).2⟩⟩⟩
 | .nil,_,_,hr=>hr
 | .cons _ _,_,_,⟨us,us',he,h1,h2⟩=>⟨us,us',he,h1.ext h,h2.ext h⟩
def AV.pack (av:AV) (vs:List Value) (u:Value):Prop:=match av.isAgg with
 | true=>u = .agg vs.toArray
 | false=>vs = [u]
def RV (s:Cx):AV → List Value → Prop
 | .pv t x,vs=>Rp s.A s.w t x vs
 | .lit b,vs=>vs = [.bool b]
 | .ls t xs id,vs=>id < s.n ∧ vs = [(s.s id).v] ∧ Rp s.A s.w (.lst t) xs vs
 | .adr id o,vs=>id < s.n ∧ vs = [.pointer (some ⟨(s.b id).1,(s.b id).2 + o,none⟩)]
 | .ref t x,vs=>∃ g o us,vs = [.pointer (some ⟨g,o,none⟩)] ∧ Rp s.A s.w t x us ∧ ∀ (j:Nat) (v:Value),us[j]? = some v → s.A g (o + j) ∧ s.w.cell? ⟨g,o + j,none⟩ = some v
 | .fn f c,vs=>∃ cs,RV s c cs ∧ vs = [.func (.func f) #[] cs.toArray]
 | .yld l,vs=>vs = [.func (.yield l) #[] #[]]
 | .ifc t v,vs=>∃ us u,RV s v us ∧ v.pack us u ∧ vs = [.iface t u]
 | .anil,vs=>vs = []
 | .acons a b,vs=>∃ us us',vs = us ++ us' ∧ RV s a us ∧ RV s b us'
 | .tup _,_=>False
 | .cst v,vs=>vs = [v] ∧ v.oneCell' = true
 | .top,vs=>∃ v,vs = [v] ∧ v.oneCell' = true
def RS1 (s:Cx) (av:AV) (v:Value):Prop:=∃ vs,RV s av vs ∧ av.pack vs v
def RT (s:Cx):AV → List Value → Prop
 | .acons a b,v :: vs=>RS1 s a v ∧ RT s b vs
 | .anil,[]=>True
 | _,_=>False
def RS (s:Cx):AV → Value → Prop
 | .tup l,v=>∃ vs,v = .tuple vs.toArray ∧ RT s l vs
 | .top,_=>True
 | av,v=>RS1 s av v
structure Ext (s s':Cx):Prop where
 sub:∀ g o,s.A g o → s'.A g o ∧ s'.w.cell? ⟨g,o,none⟩ = s.w.cell? ⟨g,o,none⟩
 b:∀ i,i < s.n → s'.b i = s.b i
 l:∀ i,i < s.n → s'.s i = s.s i
 n:s.n ≤ s'.n
theorem Ext.refl (s:Cx):Ext s s:=⟨fun _ _ h=>⟨h,rfl⟩,fun _ _=>rfl,fun _ _=>rfl,Nat.le_refl _⟩
theorem Ext.trans {a b c:Cx} (h:Ext a b) (k:Ext b c):Ext a c:=
 ⟨fun g o hg=>⟨(k.sub g o (h.sub g o hg).1).1,(k.sub g o (h.sub g o hg).1).2.trans (h.sub g o hg).2⟩,fun i hi=>(k.b i (Nat.lt_of_lt_of_le hi h.n)).trans (h.b i hi),
  fun i hi=>(k.l i (Nat.lt_of_lt_of_le hi h.n)).trans (h.l i hi),Nat.le_trans h.n k.n⟩
theorem RV.ext {s s':Cx} (h:Ext s s'):∀ {av:AV} {vs:List Value},RV s av vs → RV s' av vs
 | .pv _ _,_,hr=>Rp.ext h.sub hr
 | .lit _,_,hr=>hr
 | .ls _ _ id,_,⟨h1,h2,h3⟩=>⟨Nat.lt_of_lt_of_le h1 h.n,by rw [h.l id h1]; exact h2,Rp.ext h.sub h3⟩
 | .adr id _,_,⟨h1,h2⟩=>⟨Nat.lt_of_lt_of_le h1 h.n,by rw [h.b id h1]; exact h2⟩
 | .ref _ _,_,⟨g,o,us,h1,h2,h3⟩=>⟨g,o,us,h1,Rp.ext h.sub h2,fun j v hv=>⟨(h.sub _ _ (h3 j v hv).1).1,(h.sub _ _ (h3 j v hv).1).2.trans (h3 j v hv).2⟩⟩
 | .fn _ _,_,⟨cs,h1,h2⟩=>⟨cs,h1.ext h,h2⟩
 | .yld _,_,hr=>hr
 | .ifc _ _,_,⟨us,u,h1,h2,h3⟩=>⟨us,u,h1.ext h,h2,h3⟩
 | .anil,_,hr=>hr
 | .acons _ _,_,⟨us,us',he,h1,h2⟩=>⟨us,us',he,h1.ext h,h2.ext h⟩
 | .tup _,_,hr=>hr
 | .cst _,_,hr=>hr
 | .top,_,hr=>hr
theorem RS1.ext {s s':Cx} (h:Ext s s') {av:AV} {v:Value} (hr:RS1 s av v):RS1 s' av v:=by
 obtain ⟨vs,h1,h2⟩:=hr
 exact ⟨vs,h1.ext h,h2⟩
theorem RT.ext {s s':Cx} (h:Ext s s'):∀ {av:AV} {vs:List Value},RT s av vs → RT s' av vs
 | .acons _ _,_ :: _,⟨h1,h2⟩=>⟨h1.ext h,h2.ext h⟩
 | .anil,[],_=>trivial
theorem RS.ext {s s':Cx} (h:Ext s s') {av:AV} {v:Value} (hr:RS s av v):RS s' av v:=by
 cases av <;> first | exact RS1.ext h hr | skip
 case tup l=>obtain ⟨vs,h1,h2⟩:=hr; exact ⟨vs,h1,h2.ext h⟩
 case top=>trivial
theorem RS.one {s:Cx} {av:AV} {v:Value} (h:RS1 s av v):RS s av v:=by
 cases av <;> first | exact h | skip
 case tup l=>obtain ⟨vs,h1,h2⟩:=h; exact h1.elim
 case top=>trivial
def TailOk (P:Program) (A:Pos) (w:World) (sl:Sl) (e:TypeId):Prop:=
 (sl = ⟨none,0,0⟩) ∨ ∃ g cur,sl.a = some ⟨g,0,none⟩ ∧ w.heap[g]? = some (.cells cur e (0,0)) ∧ sl.n ≤ sl.c ∧ sl.c ≤ maxLen ∧ cur.size = sl.c * sizeP P e ∧ ∀ k,sl.n * sizeP P e ≤ k → ¬ A g k
structure HR (P:Program) (s:Cx) (H:AHeap):Prop where
 low:∀ g o,s.A g o → g < s.w.heap.size
 cell:∀ i o av,H.c i o = some av → i < s.n ∧ av.isAgg = false ∧ (∃ v,s.w.cell? ⟨(s.b i).1,(s.b i).2 + o,none⟩ = some v ∧ RV s av [v]) ∧ s.w.frozen? ⟨(s.b i).1,(s.b i).2 + o,none⟩ = false ∧ ¬ s.A (s.b i).1 ((s.b i).2 + o)
 inj:∀ i o j p,H.c i o ≠ none → H.c j p ≠ none → (s.b i).1 = (s.b j).1 → (s.b i).2 + o = (s.b j).2 + p → i = j ∧ o = p
 tok:∀ i e,H.t i = some e → i < s.n ∧ TailOk P s.A s.w (s.s i) e
 apart:∀ i e j o,H.t i = some e → H.c j o ≠ none → ∀ a,(s.s i).a = some a → a.block ≠ (s.b j).1
 tinj:∀ i j e f,H.t i = some e → H.t j = some f → i ≠ j → ∀ a c,(s.s i).a = some a → (s.s j).a = some c → a.block ≠ c.block
structure Still (s:Cx) (M:Nat → Nat → Bool) (H:AHeap) (w':World):Prop where
 a:∀ g o,s.A g o → w'.cell? ⟨g,o,none⟩ = s.w.cell? ⟨g,o,none⟩
 c:∀ i o,H.c i o ≠ none → M i o = false → w'.cell? ⟨(s.b i).1,(s.b i).2 + o,none⟩ = s.w.cell? ⟨(s.b i).1,(s.b i).2 + o,none⟩
theorem Still.refl (s:Cx) (M:Nat → Nat → Bool) (H:AHeap):Still s M H s.w:=⟨fun _ _ _=>rfl,fun _ _ _ _=>rfl⟩
theorem pack_agg {av:AV} {vs:List Value} {u:Value} (h:av.isAgg = true):av.pack vs u ↔ u = .agg vs.toArray:=by unfold AV.pack; rw [h]
theorem pack_one {av:AV} {vs:List Value} {u:Value} (h:av.isAgg = false):av.pack vs u ↔ vs = [u]:=by unfold AV.pack; rw [h]
theorem constA_agg (v:Value):(constA v).isAgg = false:=by
 cases v <;> first | rfl | skip
 case string b=>simp only [constA]; cases Nat.ble b.data.toList.length 1000 <;> rfl
theorem constA_ok (s:Cx) (v:Value) (h1:v.oneCell' = true):RV s (constA v) [v]:=by
 cases v <;> first | rfl | exact ⟨rfl,rfl⟩ | (cases h1; done) | skip
 case string b=>
  simp only [constA]
  cases hb:Nat.ble b.data.toList.length 1000 with
  | true=>exact ⟨b,rfl,rfl,Nat.le_trans (Nat.le_of_ble_eq_true hb) (by unfold big; omega)⟩
  | false=>exact ⟨rfl,rfl⟩
theorem constA_RS (s:Cx) (v:Value):RS s (constA v) v:=by
 cases h1:v.oneCell' with
 | true=>
  refine RS.one ⟨[v],constA_ok s v h1,?_⟩
  rw [pack_one (constA_agg v)]
 | false=>cases v <;> first | (cases h1; done) | trivial
theorem mkpv_ok (s:Cx) (t:PT) (x:t.den):∀ (u:PT) (y:u.den) (vs vs':List Value),RV s (.pv t x) vs → RV s (.pv u y) vs' → RV s (mkpv t x u y) (vs ++ vs'):=by
 intro u y vs vs' h1 h2
 cases u <;> exact ⟨vs,vs',rfl,h1,h2⟩
theorem mkc_ok (s:Cx) {a b:AV} {vs vs':List Value} (h1:RV s a vs) (h2:RV s b vs'):RV s (mkc a b) (vs ++ vs'):=by
 unfold mkc
 split
 ·exact mkpv_ok s _ _ _ _ _ _ h1 h2
 ·exact mkpv_ok s .bool _ _ _ _ _ h1 h2
 ·exact ⟨vs,vs',rfl,h1,h2⟩
theorem mkpv_agg (t:PT) (x:t.den) (u:PT) (y:u.den):(mkpv t x u y).isAgg = true:=by cases u <;> rfl
theorem mkc_agg (a b:AV):(mkc a b).isAgg = true:=by
 unfold mkc
 split
 ·exact mkpv_agg _ _ _ _
 ·exact mkpv_agg _ _ _ _
 ·rfl
theorem Rp.flat {s:Cx}:∀ {t:PT} {x:t.den} {vs:List Value},Rp s.A s.w t x vs → ∀ (j:Nat) (av:AV),(pvCells t x)[j]? = some av → av.isAgg = false ∧ ∃ v,vs[j]? = some v ∧ RV s av [v]
 | .cons h t,x,vs,⟨us,us',he,h1,h2⟩,j,av,hj=>by
  subst he
  have hl1:=h1.len
  have hlc:∀ {t:PT} (x:t.den),(pvCells t x).length = t.sz:=by
   intro t
   induction t with
   | cons h t ih1 ih2=>intro x; simp only [pvCells,List.length_append,ih1,ih2,PT.sz]
   | _=>intro x; rfl
  simp only [pvCells] at hj
  by_cases hlt:j < h.sz
  ·rw [List.getElem?_append_left (by rw [hlc]; exact hlt)] at hj
   obtain ⟨h3,v,h4,h5⟩:=h1.flat j av hj
   exact ⟨h3,v,by rw [List.getElem?_append_left (by omega)]; exact h4,h5⟩
  ·rw [List.getElem?_append_right (by rw [hlc]; omega),hlc] at hj
   obtain ⟨h3,v,h4,h5⟩:=h2.flat _ av hj
   exact ⟨h3,v,by rw [List.getElem?_append_right (by omega),hl1]; exact h4,h5⟩
 | .nil,_,_,_,j,av,hj=>by simp [pvCells] at hj
 | .int k,x,vs,hr,j,av,hj=>by
  have hr':=hr
  simp only [Rp] at hr; subst hr
  cases j with
  | zero=>simp only [pvCells,List.getElem?_cons_zero,Option.some.injEq] at hj; subst hj; exact ⟨rfl,_,rfl,hr'⟩
  | succ j=>simp [pvCells] at hj
 | .bool,x,vs,hr,j,av,hj=>by
  have hr':=hr
  simp only [Rp] at hr; subst hr
  cases j with
  | zero=>simp only [pvCells,List.getElem?_cons_zero,Option.some.injEq] at hj; subst hj; exact ⟨rfl,_,rfl,hr'⟩
  | succ j=>simp [pvCells] at hj
 | .str,x,vs,hr,j,av,hj=>by
  have hr':=hr
  obtain ⟨b,rfl,_⟩:=hr
  cases j with
  | zero=>simp only [pvCells,List.getElem?_cons_zero,Option.some.injEq] at hj; subst hj; exact ⟨rfl,_,rfl,hr'⟩
  | succ j=>simp [pvCells] at hj
 | .lst e,x,vs,hr,j,av,hj=>by
  have hr':=hr
  obtain ⟨a,n,c,rfl,_⟩:=hr
  cases j with
  | zero=>simp only [pvCells,List.getElem?_cons_zero,Option.some.injEq] at hj; subst hj; exact ⟨rfl,_,rfl,hr'⟩
  | succ j=>simp [pvCells] at hj
end Go.Proofs.YtpifnlfmojfgpaaGreatDoor.Pw
end
section
namespace Go.Proofs.YtpifnlfmojfgpaaGreatDoor.Pw
open Fw RowKit
theorem RV.len {s:Cx}:∀ {av:AV} {vs:List Value},RV s av vs → vs.length = av.sz
 | .pv _ _,_,h=>Rp.len h
 | .lit _,_,h=>by simp only [RV] at h; subst h; rfl
 | .ls _ _ _,_,⟨_,h,_⟩=>by subst h; rfl
 | .adr _ _,_,⟨_,h⟩=>by subst h; rfl
 | .ref _ _,_,⟨_,_,_,h,_⟩=>by subst h; rfl
 | .fn _ _,_,⟨_,_,h⟩=>by subst h; rfl
 | .yld _,_,h=>by simp only [RV] at h; subst h; rfl
 | .ifc _ _,_,⟨_,_,_,_,h⟩=>by subst h; rfl
 | .anil,_,h=>by simp only [RV] at h; subst h; rfl
 | .acons _ _,_,⟨us,us',he,h1,h2⟩=>by subst he; rw [List.length_append,h1.len,h2.len]; rfl
 | .tup _,_,h=>h.elim
 | .cst _,_,⟨h,_⟩=>by subst h; rfl
 | .top,_,⟨_,h,_⟩=>by subst h; rfl
theorem Rp.oneCell {A:Pos} {w:World}:∀ {t:PT} {x:t.den} {vs:List Value},Rp A w t x vs → ∀ v ∈ vs,v.oneCell' = true
 | .int _,_,_,h,v,hv=>by simp only [Rp] at h; subst h; simp at hv; subst hv; rfl
 | .bool,_,_,h,v,hv=>by simp only [Rp] at h; subst h; simp at hv; subst hv; rfl
 | .str,_,_,⟨_,h,_⟩,v,hv=>by subst h; simp at hv; subst hv; rfl
 | .lst _,_,_,⟨_,_,_,h,_⟩,v,hv=>by subst h; simp at hv; subst hv; rfl
 | .nil,_,_,h,v,hv=>by simp only [Rp] at h; subst h; simp at hv
 | .cons _ _,_,_,⟨us,us',he,h1,h2⟩,v,hv=>by
  subst he
  rcases List.mem_append.1 hv with hv | hv
  ·exact h1.oneCell v hv
  ·exact h2.oneCell v hv
theorem RV.oneCell {s:Cx}:∀ {av:AV} {vs:List Value},RV s av vs → ∀ v ∈ vs,v.oneCell' = true
 | .pv _ _,_,h=>Rp.oneCell h
 | .lit _,_,h=>fun v hv=>by simp only [RV] at h; subst h; simp at hv; subst hv; rfl
 | .ls _ _ _,_,⟨_,h,_⟩=>fun v hv=>by subst h; simp at hv; subst hv; rfl
 | .adr _ _,_,⟨_,h⟩=>fun v hv=>by subst h; simp at hv; subst hv; rfl
 | .ref _ _,_,⟨_,_,_,h,_⟩=>fun v hv=>by subst h; simp at hv; subst hv; rfl
 | .fn _ _,_,⟨_,_,h⟩=>fun v hv=>by subst h; simp at hv; subst hv; rfl
 | .yld _,_,h=>fun v hv=>by simp only [RV] at h; subst h; simp at hv; subst hv; rfl
 | .ifc _ _,_,⟨_,_,_,_,h⟩=>fun v hv=>by subst h; simp at hv; subst hv; rfl
 | .anil,_,h=>fun v hv=>by simp only [RV] at h; subst h; simp at hv
 | .acons _ _,_,⟨us,us',he,h1,h2⟩=>fun v hv=>by
  subst he
  rcases List.mem_append.1 hv with hv | hv
  ·exact h1.oneCell v hv
  ·exact h2.oneCell v hv
 | .tup _,_,h=>h.elim
 | .cst _,_,⟨h,h1⟩=>fun v hv=>by subst h; simp at hv; subst hv; exact h1
 | .top,_,⟨_,h,h1⟩=>fun v hv=>by subst h; simp at hv; subst hv; exact h1
theorem RS.val {s:Cx} {av:AV} {v:Value} (h:RS s av v) (hv:av.val = true):RS1 s av v:=by
 cases av <;> first | exact h | cases hv
theorem RS1.cells {s:Cx} {av:AV} {v:Value} (h:RS1 s av v):RV s av v.cells.toList:=by
 obtain ⟨vs,h1,h2⟩:=h
 unfold AV.pack at h2
 split at h2
 ·subst h2; simpa [Value.cells] using h1
 ·subst h2
  have:=h1.oneCell v (by simp)
  have hc:v.cells = #[v]:=by cases v <;> first | rfl | simp [Value.oneCell'] at this
  rw [hc]; exact h1
theorem evA_ok {s:Cx} {E:AEnv} {e:Env} (hE:∀ d,RS s (E d) (e d)) (x:Operand):RS s (evA E x) (ev e x):=by
 cases x with
 | tmp t=>exact hE t
 | const v=>exact constA_RS s v
 | global g=>exact RS.one ⟨_,⟨rfl,rfl⟩,rfl⟩
 | func f=>exact RS.one ⟨_,⟨[],rfl,rfl⟩,rfl⟩
section
variable {s:Cx} {v:Value}
theorem RS.int {k:IntKind} {n:Int} (h:RS s (.pv (.int k) n) v):v = .int k n:=by
 obtain ⟨vs,h1,h2⟩:=h.val rfl
 simp only [RV,Rp] at h1; subst h1
 rw [pack_one rfl] at h2; simpa using h2.symm
theorem RS.bool {b:Bool} (h:RS s (.pv .bool b) v):v = .bool b:=by
 obtain ⟨vs,h1,h2⟩:=h.val rfl
 simp only [RV,Rp] at h1; subst h1
 rw [pack_one rfl] at h2; simpa using h2.symm
theorem RS.lit {b:Bool} (h:RS s (.lit b) v):v = .bool b:=by
 obtain ⟨vs,h1,h2⟩:=h.val rfl
 simp only [RV] at h1; subst h1
 rw [pack_one rfl] at h2; simpa using h2.symm
theorem RS.str {x:List UInt8} (h:RS s (.pv .str x) v):∃ b:ByteArray,v = .string b ∧ b.data.toList = x ∧ x.length ≤ big:=by
 obtain ⟨vs,⟨b,h1,h3⟩,h2⟩:=h.val rfl
 subst h1
 rw [pack_one rfl] at h2
 exact ⟨b,by simpa using h2.symm,h3⟩
theorem RS.lst {e:PT} {x:List e.den} (h:RS s (.pv (.lst e) x) v):∃ a n c,v = .slice a n c ∧ Rp s.A s.w (.lst e) x [v]:=by
 obtain ⟨vs,h1,h2⟩:=h.val rfl
 have h1':=h1
 obtain ⟨a,n,c,h3,_⟩:=h1'
 rw [pack_one rfl] at h2
 subst h2
 exact ⟨a,n,c,by simpa using h3,h1⟩
theorem RS.ls {e:PT} {x:List e.den} {id:Nat} (h:RS s (.ls e x id) v):id < s.n ∧ v = (s.s id).v ∧ Rp s.A s.w (.lst e) x [v]:=by
 obtain ⟨vs,⟨h0,h1,h3⟩,h2⟩:=h.val rfl
 rw [pack_one rfl] at h2
 subst h2
 exact ⟨h0,by simpa using h1,h3⟩
theorem RS.adr {id o:Nat} (h:RS s (.adr id o) v):id < s.n ∧ v = .pointer (some ⟨(s.b id).1,(s.b id).2 + o,none⟩):=by
 obtain ⟨vs,⟨h0,h1⟩,h2⟩:=h.val rfl
 subst h1
 rw [pack_one rfl] at h2
 exact ⟨h0,by simpa using h2.symm⟩
theorem RS.ref {t:PT} {x:t.den} (h:RS s (.ref t x) v):∃ g o us,v = .pointer (some ⟨g,o,none⟩) ∧ Rp s.A s.w t x us ∧ ∀ (j:Nat) (u:Value),us[j]? = some u → s.A g (o + j) ∧ s.w.cell? ⟨g,o + j,none⟩ = some u:=by
 obtain ⟨vs,⟨g,o,us,h1,h3,h4⟩,h2⟩:=h.val rfl
 subst h1
 rw [pack_one rfl] at h2
 exact ⟨g,o,us,by simpa using h2.symm,h3,h4⟩
theorem RS.cst {u:Value} (h:RS s (.cst u) v):v = u:=by
 obtain ⟨vs,⟨h1,_⟩,h2⟩:=h.val rfl
 subst h1
 rw [pack_one rfl] at h2; simpa using h2.symm
theorem RS.fn {f:FuncId} {c:AV} (h:RS s (.fn f c) v):∃ cs,RV s c cs ∧ v = .func (.func f) #[] cs.toArray:=by
 obtain ⟨vs,⟨cs,h1,h3⟩,h2⟩:=h.val rfl
 subst h3
 rw [pack_one rfl] at h2
 exact ⟨cs,h1,by simpa using h2.symm⟩
theorem RS.agg {av:AV} (h:RS s av v) (ha:av.isAgg = true):∃ vs,v = .agg vs.toArray ∧ RV s av vs:=by
 obtain ⟨vs,h1,h2⟩:=h.val (by cases av <;> first | rfl | cases ha)
 rw [pack_agg ha] at h2
 exact ⟨vs,h2,h1⟩
end
theorem RS.of_int (s:Cx) (k:IntKind) (n:Int):RS s (.pv (.int k) n) (.int k n):=RS.one ⟨_,rfl,rfl⟩
theorem RS.of_bool (s:Cx) (b:Bool):RS s (.pv .bool b) (.bool b):=RS.one ⟨_,rfl,rfl⟩
theorem RS.of_lit (s:Cx) (b:Bool):RS s (.lit b) (.bool b):=RS.one ⟨_,rfl,rfl⟩
theorem RS.of_str (s:Cx) (b:ByteArray) (h:b.data.toList.length ≤ big):RS s (.pv .str b.data.toList) (.string b):=RS.one ⟨_,⟨b,rfl,rfl,h⟩,rfl⟩
theorem intB_ok {P:Program} {s:Cx} {op:BinOp} {xt:TypeId} {k:IntKind} {a b:Int} {x y:Operand} {K:AV → Prop} (h:intB op k a b K) :
  ∃ av v,K av ∧ RS s av v ∧ ∀ w,(do eqGuard op xt x y (.int k a) (.int k b); binOp op xt (.int k a) (.int k b):Sem Value).run P w = .ok v w:=by
 have hg:eqGuard op xt x y (.int k a) (.int k b) = pure ():=by cases op <;> rfl
 rw [hg]
 cases op <;> simp only [intB] at h <;> try exact h.elim
 case quo=>exact ⟨_,_,h.k,RS.of_int _ _ _,fun w=>by simp [binOp,Op.intDiv,h.h]⟩
 case rem=>exact ⟨_,_,h.k,RS.of_int _ _ _,fun w=>by simp [binOp,Op.intDiv,h.h]⟩
 all_goals first
  | exact ⟨_,_,h,RS.of_int _ _ _,fun w=>by simp [binOp,Op.intArith,Op.intCmp,Op.intBits,Go.bits]⟩
  | exact ⟨_,_,h,RS.of_bool _ _,fun w=>by simp [binOp,Op.intArith,Op.intCmp,Op.intBits,Go.bits]⟩
theorem strEq (a b:ByteArray):(a.toList == b.toList) = (a.data.toList == b.data.toList):=by rw [ByteArray.toList_eq,ByteArray.toList_eq]
theorem size_len (a:ByteArray):a.size = a.data.toList.length:=(Array.length_toList (xs:=a.data)).symm
theorem data_append (a b:ByteArray):(a ++ b).data.toList = a.data.toList ++ b.data.toList:=by rw [ByteArray.data_append,Array.toList_append]
theorem strB_ok {P:Program} {s:Cx} {op:BinOp} {xt:TypeId} {a b:ByteArray} {x y:Operand} {K:AV → Prop} (h:strB op a.data.toList b.data.toList K) :
  ∃ av v,K av ∧ RS s av v ∧ ∀ w,(do eqGuard op xt x y (.string a) (.string b); binOp op xt (.string a) (.string b):Sem Value).run P w = .ok v w:=by
 have hg:eqGuard op xt x y (.string a) (.string b) = pure ():=by cases op <;> rfl
 rw [hg]
 cases op <;> simp only [strB] at h <;> try exact h.elim
 case add=>
  have h1:=h.h
  rw [← size_len,← size_len] at h1
  refine ⟨_,.string (a ++ b),h.k,?_,fun w=>?_⟩
  ·have:=RS.of_str s (a ++ b) (by rw [data_append,List.length_append]; exact h.h)
   rw [data_append] at this; exact this
  ·simp only [binOp,Op.stringOp,pure_bind]
   unfold big at h1
   simp
   omega
 case eql=>exact ⟨_,.bool (a.data.toList == b.data.toList),h,RS.of_bool _ _,fun w=>by rw [← strEq]; simp [binOp,Op.stringOp]⟩
 case neq=>exact ⟨_,.bool (a.data.toList != b.data.toList),h,RS.of_bool _ _,fun w=>by simp only [bne]; rw [← strEq]; simp [binOp,Op.stringOp]⟩
theorem boolA_ok {s:Cx} {a:AV} {u:Value} {K:Bool → Prop} (hr:RS s a u) (h:boolA a K):∃ b,u = .bool b ∧ K b:=by
 unfold boolA at h
 split at h
 ·exact ⟨_,hr.lit,h⟩
 ·exact ⟨_,hr.bool,h⟩
 ·exact h.elim
theorem intA_ok {s:Cx} {a:AV} {u:Value} {K:Int → Prop} (hr:RS s a u) (h:intA a K):∃ k n,u = .int k n ∧ K n:=by
 unfold intA at h
 split at h
 ·exact ⟨_,_,hr.int,h⟩
 ·exact h.elim
theorem boolB_ok {P:Program} {s:Cx} {op:BinOp} {xt:TypeId} {a b:Bool} {x y:Operand} {K:AV → Prop} (hb:isBoolT P xt = true) (h:match op with
  | .eql=>K (.pv .bool (a == b))
  | .neq=>K (.pv .bool (a != b))
  | _=>False) :
  ∃ av v,K av ∧ RS s av v ∧ ∀ w,(do eqGuard op xt x y (.bool a) (.bool b); binOp op xt (.bool a) (.bool b):Sem Value).run P w = .ok v w:=by
 have hg:eqGuard op xt x y (.bool a) (.bool b) = pure ():=by cases op <;> rfl
 have hu:P.underlying xt = some .bool:=by
  unfold isBoolT at hb
  split at hb
  ·assumption
  ·cases hb
 rw [hg]
 cases op <;> first | exact h.elim | skip
 case eql=>exact ⟨_,_,h,RS.of_bool _ _,fun w=>by simp [run_eql_bool w xt a b hu]⟩
 case neq=>exact ⟨_,_,h,RS.of_bool _ _,fun w=>by simp [run_neq_bool w xt a b hu,bne]⟩
theorem slElem_spec {P:Program} {t:TypeId} (h:(slElem P t).isSome = true):∃ e,P.underlying t = some (.slice e) ∧ slElem P t = some e:=by
 unfold slElem at h ⊢
 split at h
 ·rename_i e he; exact ⟨e,he,rfl⟩
 ·cases h
theorem isNil_ok {s:Cx} {a:AV} {u:Value} {K:Bool → Prop} (hr:RS s a u) (h:isNil a K):∃ p n c,u = .slice p n c ∧ K p.isNone:=by
 unfold isNil at h
 split at h
 ·exact ⟨none,0,0,hr.cst,h⟩
 ·rename_i e xs
  obtain ⟨p,n,c,h1,h2⟩:=hr.lst
  refine ⟨p,n,c,h1,h.k _ fun hp=>?_⟩
  obtain ⟨p',n',c',h3,h4,_,_,h5⟩:=h2
  rw [h1] at h3
  simp only [List.cons.injEq,Value.slice.injEq,and_true] at h3
  obtain ⟨rfl,rfl,rfl⟩:=h3
  cases hx:xs with
  | nil=>rfl
  | cons y ys=>
   obtain ⟨g,o,us,h6,_⟩:=h5 0 y (by rw [hx]; rfl)
   rw [h6] at hp; cases hp
 ·rename_i e xs id
  obtain ⟨_,h1,h2⟩:=hr.ls
  refine ⟨_,_,_,h1,h.k _ fun hp=>?_⟩
  obtain ⟨p',n',c',h3,h4,_,_,h5⟩:=h2
  rw [h1] at h3
  simp only [List.cons.injEq,Value.slice.injEq,and_true] at h3
  obtain ⟨rfl,rfl,rfl⟩:=h3
  cases hx:xs with
  | nil=>rfl
  | cons y ys=>
   obtain ⟨g,o,us,h6,_⟩:=h5 0 y (by rw [hx]; rfl)
   rw [h6] at hp; cases hp
 ·exact h.elim
theorem nilB_ok {P:Program} {s:Cx} {op:BinOp} {xt e:TypeId} {p:Option Addr} {n c:Nat} {x y:Operand} {K:AV → Prop} (hu:P.underlying xt = some (.slice e)) (h:match op with
  | .eql=>K (.pv .bool p.isNone)
  | .neq=>K (.pv .bool (!p.isNone))
  | _=>False) :
  ∃ av v,K av ∧ RS s av v ∧ ∀ w,(do eqGuard op xt x y (.slice p n c) (.slice none 0 0); binOp op xt (.slice p n c) (.slice none 0 0):Sem Value).run P w = .ok v w:=by
 cases op <;> first | exact h.elim | skip
 case eql=>
  refine ⟨_,_,h,RS.of_bool _ _,fun w=>?_⟩
  rw [eqGuard_at_slice,Sem.run_bind,Sem.run_pure,Result.andThen_ok]
  simp only [binOp]
  simp [run_equal_slice_nil w xt e p n c hu]
 case neq=>
  refine ⟨_,_,h,RS.of_bool _ _,fun w=>?_⟩
  rw [eqGuard_at_slice,Sem.run_bind,Sem.run_pure,Result.andThen_ok,run_neq_slice_nil w xt e p n c hu]
end Go.Proofs.YtpifnlfmojfgpaaGreatDoor.Pw
end
section
namespace Go.Proofs.YtpifnlfmojfgpaaGreatDoor.Pw
open Fw RowKit
theorem take_app {α:Type} (us us':List α) (n:Nat):(us ++ us').take (us.length + n) = us ++ us'.take n:=by
 rw [List.take_append,List.take_of_length_le (by omega),Nat.add_sub_cancel_left]
theorem drop_app {α:Type} (us us':List α) (n:Nat):(us ++ us').drop (us.length + n) = us'.drop n:=by
 rw [List.drop_append,List.drop_of_length_le (by omega),Nat.add_sub_cancel_left,List.nil_append]
theorem nth_ok {s:Cx}:∀ (i:Nat) {av a:AV} {vs:List Value},av.nth i = some a → RV s av vs → RV s a ((vs.drop (av.offs i)).take a.sz)
 | 0,av,a,vs,h,hr=>by
  cases av <;> first | (simp [AV.nth] at h; done) | skip
  case pv t x=>
   cases t <;> first | (simp [AV.nth] at h; done) | skip
   rename_i t1 t2
   simp only [AV.nth,Option.some.injEq] at h; subst h
   obtain ⟨us,us',rfl,h1,h2⟩:=hr
   have:=h1.len
   simp only [AV.offs,AV.sz,List.drop_zero]
   rw [← this,List.take_left']
   ·exact h1
   ·rfl
  case acons t1 t2=>
   simp only [AV.nth,Option.some.injEq] at h; subst h
   obtain ⟨us,us',rfl,h1,h2⟩:=hr
   have:=h1.len
   simp only [AV.offs,List.drop_zero]
   rw [← this,List.take_left']
   ·exact h1
   ·rfl
 | i + 1,av,a,vs,h,hr=>by
  cases av <;> first | (simp [AV.nth] at h; done) | skip
  case pv t x=>
   cases t <;> first | (simp [AV.nth] at h; done) | skip
   rename_i t1 t2
   simp only [AV.nth] at h
   obtain ⟨us,us',rfl,h1,h2⟩:=hr
   have hl:=h1.len
   have:=nth_ok i h (show RV s (.pv t2 x.2) us' from h2)
   simp only [AV.offs]
   rw [← hl,drop_app]
   exact this
  case acons t1 t2=>
   simp only [AV.nth] at h
   obtain ⟨us,us',rfl,h1,h2⟩:=hr
   have hl:=h1.len
   have:=nth_ok i h h2
   simp only [AV.offs]
   rw [← hl,drop_app]
   exact this
theorem setN_ok {s:Cx} {x:AV} {xs:List Value} (hx:RV s x xs):∀ (i:Nat) {av y u:AV} {vs:List Value},av.nth i = some y → av.setN i x = some u → y.sz = x.sz → RV s av vs →
  RV s u (vs.take (av.offs i) ++ xs ++ vs.drop (av.offs i + x.sz)) ∧ u.isAgg = true
 | 0,av,y,u,vs,hn,h,hz,hr=>by
  cases av <;> first | (simp [AV.nth] at hn; done) | skip
  case pv t p=>
   cases t <;> first | (simp [AV.nth] at hn; done) | skip
   rename_i t1 t2
   simp only [AV.setN,Option.some.injEq] at h
   simp only [AV.nth,Option.some.injEq] at hn
   subst h; subst hn
   obtain ⟨us,us',rfl,h1,h2⟩:=hr
   have hl:=h1.len
   simp only [AV.sz] at hz
   refine ⟨?_,mkc_agg _ _⟩
   simp only [AV.offs,List.take_zero,List.nil_append,Nat.zero_add]
   rw [← hz,← hl,← Nat.add_zero us.length,drop_app,List.drop_zero]
   exact mkc_ok s hx h2
  case acons t1 t2=>
   simp only [AV.setN,Option.some.injEq] at h
   simp only [AV.nth,Option.some.injEq] at hn
   subst h; subst hn
   obtain ⟨us,us',rfl,h1,h2⟩:=hr
   have hl:=h1.len
   refine ⟨?_,mkc_agg _ _⟩
   simp only [AV.offs,List.take_zero,List.nil_append,Nat.zero_add]
   rw [← hz,← hl,← Nat.add_zero us.length,drop_app,List.drop_zero]
   exact mkc_ok s hx h2
 | i + 1,av,y,u,vs,hn,h,hz,hr=>by
  cases av <;> first | (simp [AV.nth] at hn; done) | skip
  case pv t p=>
   cases t <;> first | (simp [AV.nth] at hn; done) | skip
   rename_i t1 t2
   simp only [AV.setN,Option.map_eq_some_iff] at h
   obtain ⟨u',h,rfl⟩:=h
   simp only [AV.nth] at hn
   obtain ⟨us,us',rfl,h1,h2⟩:=hr
   have hl:=h1.len
   have:=(setN_ok hx i hn h hz (show RV s (.pv t2 p.2) us' from h2)).1
   refine ⟨?_,mkc_agg _ _⟩
   simp only [AV.offs]
   rw [← hl,Nat.add_assoc,take_app,drop_app,List.append_assoc,List.append_assoc,← List.append_assoc (us'.take _)]
   exact mkc_ok s h1 this
  case acons t1 t2=>
   simp only [AV.setN,Option.map_eq_some_iff] at h
   obtain ⟨u',h,rfl⟩:=h
   simp only [AV.nth] at hn
   obtain ⟨us,us',rfl,h1,h2⟩:=hr
   have hl:=h1.len
   have:=(setN_ok hx i hn h hz h2).1
   refine ⟨?_,mkc_agg _ _⟩
   simp only [AV.offs]
   rw [← hl,Nat.add_assoc,take_app,drop_app,List.append_assoc,List.append_assoc,← List.append_assoc (us'.take _)]
   exact mkc_ok s h1 this
theorem nth_le {s:Cx}:∀ (i:Nat) {av a:AV},av.nth i = some a → av.offs i + a.sz ≤ av.sz
 | 0,av,a,h=>by
  cases av <;> first | (simp [AV.nth] at h; done) | skip
  case pv t x=>
   cases t <;> first | (simp [AV.nth] at h; done) | skip
   simp only [AV.nth,Option.some.injEq] at h; subst h
   simp only [AV.offs,AV.sz,PT.sz]; omega
  case acons t1 t2=>
   simp only [AV.nth,Option.some.injEq] at h; subst h
   simp only [AV.offs,AV.sz]; omega
 | i + 1,av,a,h=>by
  cases av <;> first | (simp [AV.nth] at h; done) | skip
  case pv t x=>
   cases t <;> first | (simp [AV.nth] at h; done) | skip
   simp only [AV.nth] at h
   have:=nth_le (s:=s) i h
   simp only [AV.offs,AV.sz,PT.sz] at this ⊢; omega
  case acons t1 t2=>
   simp only [AV.nth] at h
   have:=nth_le (s:=s) i h
   simp only [AV.offs,AV.sz] at this ⊢; omega
theorem put_zipIdx:∀ (xs:List Value) (k off:Nat) (cs:Array Value),off + k + xs.length ≤ cs.size →
  ((xs.zipIdx k).foldl (fun cs (p:Value × Nat)=>cs.setIfInBounds (off + p.2) p.1) cs).toList = cs.toList.take (off + k) ++ xs ++ cs.toList.drop (off + k + xs.length)
 | [],k,off,cs,h=>by simp
 | x :: xs,k,off,cs,h=>by
  simp only [List.zipIdx_cons,List.foldl_cons,List.length_cons] at h ⊢
  rw [put_zipIdx xs (k + 1) off _ (by rw [Array.size_setIfInBounds]; omega)]
  rw [Array.toList_setIfInBounds]
  have hlt:off + k < cs.toList.length:=by rw [Array.length_toList]; omega
  have h1:(cs.toList.set (off + k) x).take (off + (k + 1)) = cs.toList.take (off + k) ++ [x]:=by
   rw [show off + (k + 1) = off + k + 1 by omega,List.take_add_one,List.take_set_of_le (Nat.le_refl _),List.getElem?_set_self hlt]
   rfl
  have h2:(cs.toList.set (off + k) x).drop (off + (k + 1) + xs.length) = cs.toList.drop (off + k + (xs.length + 1)):=by
   rw [List.drop_set_of_lt (by omega)]; congr 1; omega
  rw [h1,h2]; simp
theorem zipIdx_fold (xs:Array Value) (off:Nat) (cs:Array Value) (h:off + xs.size ≤ cs.size) :
  ((xs.zipIdx).foldl (fun (cs:Array Value) (p:Value × Nat)=>cs.setIfInBounds (off + p.2) p.1) cs).toList = cs.toList.take off ++ xs.toList ++ cs.toList.drop (off + xs.toList.length):=by
 rw [← Array.foldl_toList,Array.toList_zipIdx]
 have:=put_zipIdx xs.toList 0 off cs (by rw [Array.length_toList]; omega)
 simpa using this
theorem fillA_ok {s:Cx} {place:Nat → Option (Nat × Nat)}:∀ (l:List (Nat × AV)) (us:List (Nat × Value)) {z u:AV} {cs:Array Value},l.map (·.1) = us.map (·.1) → (∀ (j:Nat) a v,(l[j]?).map (fun p:Nat × AV=>p.2) = some a → (us[j]?).map (fun p:Nat × Value=>p.2) = some v → RS s a v) →
  fillA place z l = some u → z.isAgg = true → RV s z cs.toList → ∃ c,Instr.fill place cs us = some c ∧ RV s u c.toList ∧ u.isAgg = true
 | [],us,z,u,cs,hf,hr,h,ha,hz=>by
  cases us with
  | cons _ _=>simp at hf
  | nil=>
   simp only [fillA,Option.some.injEq] at h; subst h
   exact ⟨cs,rfl,hz,ha⟩
 | (i,x) :: l,us,z,u,cs,hf,hr,h,ha,hz=>by
  cases us with
  | nil=>simp at hf
  | cons p us=>
   obtain ⟨i',v⟩:=p
   simp only [List.map_cons,List.cons.injEq] at hf
   obtain ⟨rfl,hf⟩:=hf
   simp only [fillA] at h
   split at h
   ·rename_i o k y u1 hp hy hu
    cases hb:(Nat.beq o (z.offs i) && Nat.beq k x.sz && Nat.beq y.sz x.sz && x.val) with
    | false=>rw [hb] at h; cases h
    | true=>
     rw [hb] at h
     simp only [Bool.and_eq_true] at hb
     obtain ⟨⟨⟨h1,h2⟩,h3⟩,h4⟩:=hb
     have h1:=Nat.eq_of_beq_eq_true h1
     have h2:=Nat.eq_of_beq_eq_true h2
     have h3:=Nat.eq_of_beq_eq_true h3
     have hx:=(hr 0 x v rfl rfl).val h4
     have hx':=hx.cells
     have hlx:=hx'.len
     rw [Array.length_toList] at hlx
     have hlz:=hz.len
     rw [Array.length_toList] at hlz
     have hle:=nth_le (s:=s) i hy
     have hfit:o + v.cells.size ≤ cs.size:=by omega
     obtain ⟨h5,h6⟩:=setN_ok hx' i hy hu h3 hz
     have hfold:=zipIdx_fold v.cells o cs hfit
     refine (fillA_ok l us hf (fun j a v hj hv=>hr (j + 1) a v hj hv) h h6 (cs:=(v.cells.zipIdx).foldl (fun (cs:Array Value) (p:Value × Nat)=>cs.setIfInBounds (o + p.2) p.1) cs) ?_).imp fun c hc=>⟨?_,hc.2⟩
     ·rw [hfold,h1,Array.length_toList,hlx]; exact h5
     ·rw [← hc.1]
      simp only [Instr.fill,hp]
      rw [if_neg (by simp; omega)]
   ·cases h
theorem shL_agg (f:TypeId → Sh) (l:List Field) (c:Nat → Option AV) (o:Nat) (av:AV) (h:ofCells (shL f l) c o = some av):av.isAgg = true:=by
 cases l with
 | nil=>simp only [shL,ofCells,Option.some.injEq] at h; subst h; rfl
 | cons x l=>
  simp only [shL,ofCells] at h
  split at h
  ·split at h
   ·simp only [Option.some.injEq] at h; subst h; exact mkc_agg _ _
   ·cases h
  ·cases h
theorem rep_agg (e:Sh) (n:Nat) (c:Nat → Option AV) (o:Nat) (av:AV) (h:ofCells (e.rep n) c o = some av):av.isAgg = true:=by
 cases n with
 | zero=>simp only [Sh.rep,ofCells,Option.some.injEq] at h; subst h; rfl
 | succ n=>
  simp only [Sh.rep,ofCells] at h
  split at h
  ·split at h
   ·simp only [Option.some.injEq] at h; subst h; exact mkc_agg _ _
   ·cases h
  ·cases h
theorem shOf_agg {P:Program} {t:TypeId} {c:Nat → Option AV} {o:Nat} {av:AV} (hc:∀ j a,c j = some a → a.isAgg = false) (h:ofCells (shOf P 8 t) c o = some av):av.isAgg = isAggT P t:=by
 unfold shOf at h
 unfold isAggT
 split at h
 ·rename_i fs hu
  try rw [hu]
  exact shL_agg _ _ _ _ _ h
 ·rename_i n e hu
  try rw [hu]
  exact rep_agg _ _ _ _ _ h
 ·rename_i h1 h2
  have hv:av.isAgg = false:=hc _ _ h
  try exact hv
  all_goals rw [hv]
  all_goals split
  all_goals first | exact (h1 _ (by assumption)).elim | exact (h2 _ _ (by assumption)).elim | rfl
theorem shOf_one {P:Program} {t:TypeId} (h:isAggT P t = false):shOf P 8 t = .one:=by
 unfold shOf
 unfold isAggT at h
 split
 ·rename_i fs hu; rw [hu] at h; cases h
 ·rename_i n e hu; rw [hu] at h; cases h
 ·rfl
theorem ofCells_ok {s:Cx} {f:Nat → Value → Prop} {c:Nat → Option AV}:∀ (sh:Sh) (o:Nat) {av:AV},(∀ j a,j < sh.sz → c (o + j) = some a → ∃ v,f (o + j) v ∧ RV s a [v]) → ofCells sh c o = some av →
  ∃ vs,vs.length = sh.sz ∧ RV s av vs ∧ ∀ j v,vs[j]? = some v → f (o + j) v
 | .one,o,av,hc,h=>by
  obtain ⟨v,h1,h2⟩:=hc 0 av (by simp [Sh.sz]) h
  exact ⟨[v],rfl,h2,fun j u hj=>by
   cases j with
   | zero=>simp at hj; subst hj; exact h1
   | succ j=>simp at hj⟩
 | .nil,o,av,hc,h=>by
  simp only [ofCells,Option.some.injEq] at h; subst h
  exact ⟨[],rfl,rfl,fun j u hj=>by simp at hj⟩
 | .cons a b,o,av,hc,h=>by
  simp only [ofCells] at h
  split at h
  ·rename_i x hx
   split at h
   ·rename_i y hy
    simp only [Option.some.injEq] at h; subst h
    obtain ⟨us,hl,h1,h2⟩:=ofCells_ok a o (fun j a hj=>hc j a (by simp only [Sh.sz]; omega)) hx
    obtain ⟨us',hl',h1',h2'⟩:=ofCells_ok b (o + a.sz) (fun j x hj hx=>by
     have:=hc (a.sz + j) x (by simp only [Sh.sz]; omega) (by rw [← Nat.add_assoc]; exact hx)
     rwa [← Nat.add_assoc] at this) hy
    refine ⟨us ++ us',by rw [List.length_append,hl,hl']; rfl,mkc_ok s h1 h1',fun j u hj=>?_⟩
    by_cases hlt:j < a.sz
    ·rw [List.getElem?_append_left (by omega)] at hj; exact h2 j u hj
    ·rw [List.getElem?_append_right (by omega),hl] at hj
     have:=h2' _ u hj
     rwa [Nat.add_assoc,Nat.add_sub_cancel' (by omega)] at this
   ·cases h
  ·cases h
theorem zeroA_ok {P:Program} {s:Cx} {t:TypeId} {z:AV} (h:zeroA P t = some z):∃ v,zeroOf P t = some v ∧ RV s z v.cells.toList ∧ z.isAgg = isAggT P t ∧ (∀ x ∈ v.cells.toList,x.oneCell' = true):=by
 unfold zeroA at h
 split at h
 ·rename_i v hv
  cases hb:(v.cells.toList.all Value.oneCell' && Nat.beq v.cells.size (shOf P 8 t).sz) with
  | false=>rw [hb] at h; cases h
  | true=>
   rw [hb] at h
   simp only [Bool.and_eq_true,List.all_eq_true] at hb
   obtain ⟨hb1,hb2⟩:=hb
   have hsz:=Nat.eq_of_beq_eq_true hb2
   have hc:∀ (j:Nat) a,(v.cells[j]?).map constA = some a → ∃ u,v.cells[j]? = some u ∧ a = constA u:=fun j a hj=>by
    cases hu:v.cells[j]? with
    | none=>rw [hu] at hj; cases hj
    | some u=>rw [hu] at hj; simp only [Option.map_some,Option.some.injEq] at hj; exact ⟨u,rfl,hj.symm⟩
   obtain ⟨vs,h1,h2,h3⟩:=ofCells_ok (s:=s) (f:=fun (j:Nat) u=>v.cells[j]? = some u) (c:=fun i=>(v.cells[i]?).map constA) (shOf P 8 t) 0 (fun j a hj ha=>by
    obtain ⟨u,h4,rfl⟩:=hc _ _ ha
    refine ⟨u,h4,constA_ok s u (hb1 u ?_)⟩
    exact Array.mem_def.1 (Array.mem_of_getElem? h4)) h
   refine ⟨v,hv,?_,shOf_agg (fun j a ha=>by obtain ⟨u,_,rfl⟩:=hc _ _ ha; exact constA_agg u) h,hb1⟩
   have:vs = v.cells.toList:=by
    apply List.ext_getElem?
    intro j
    by_cases hj:j < vs.length
    ·have:=h3 j _ (List.getElem?_eq_getElem hj)
     rw [Nat.zero_add] at this
     rw [List.getElem?_eq_getElem hj,← this]; simp
    ·rw [List.getElem?_eq_none (by omega),List.getElem?_eq_none (by rw [Array.length_toList]; omega)]
   rw [← this]; exact h2
 ·cases h
end Go.Proofs.YtpifnlfmojfgpaaGreatDoor.Pw
end
