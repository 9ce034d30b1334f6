/- Parts of a proof, laid one behind the other by our own merge.py: PlCheck PlTree PlBasis PlStall2 PlStall3 LwFinds PlWord PlLang PlUniq PlSame PlNum PlGood PlMove PlLead PlGen PlGen2 PlGen3 PlFit PlLg PlEdges Sh5 FmGraft LwMade RfPaths LwInter. -/
import Derived.Test.YtffdjfkekdoeaaaDoorXi4
import Derived.Test.YtffdjfkekdoeaaaDoorXi3
import Derived.Test.YtffdjfkekdoeaaaDoorXi1
import Derived.Test.YtffdjfkekdoeaaaDoorProg
import Derived.KernelRfl
import Derived.Test.YtffdjfkekdoeaaaDoorXi2
import Derived.Laws.StructEq
set_option linter.unusedVariables false
set_option linter.unusedSimpArgs false
section
set_option maxRecDepth 4000
set_option maxHeartbeats 2000000
namespace Go.Proofs.YtffdjfkekdoeaaaDoor.Pl
open Fw Wd Fo Rf
def scanO:Row → Nat → Option Nat
 | [],seen=>some seen
 | none :: l,seen=>scanO l seen
 | some t :: l,seen=>if t > seen then none else scanO l (if t = seen then seen + 1 else seen)
theorem idxOf_range:∀ (n t:Nat),t < n → (List.range n).idxOf t = t:=fun n t h=>by
 have h1:(List.range n)[t]'(by simpa using h) = t:=by simp
 have:=(List.nodup_range (n:=n)).idxOf_getElem t (by simpa using h)
 rw [h1] at this; exact this
theorem bfs_scan:∀ (r:Row) (seen seen':Nat),scanO r seen = some seen' → bfsRow r (List.range seen) = (List.range seen',r)
 | [],seen,seen',h=>by simp only [scanO,Option.some.injEq] at h; subst h; rfl
 | none :: l,seen,seen',h=>by
  simp only [scanO] at h
  simp only [bfsRow,bfs_scan l seen seen' h]
 | some t :: l,seen,seen',h=>by
  simp only [scanO] at h
  split at h
  ·cases h
  rename_i hle
  simp only [bfsRow,List.mem_range]
  by_cases hlt:t < seen
  ·rw [if_neg (by omega)] at h
   rw [if_pos hlt,bfs_scan l seen seen' h,idxOf_range seen t hlt]
  ·have:t = seen:=by omega
   subst this
   rw [if_pos rfl] at h
   rw [if_neg hlt,← List.range_succ,bfs_scan l (t + 1) seen' h,List.length_range]
theorem bfs_scan_none:∀ (r:Row) (seen:Nat),scanO r seen = none → (bfsRow r (List.range seen)).2 ≠ r
 | [],seen,h=>by simp [scanO] at h
 | none :: l,seen,h=>by
  simp only [scanO] at h
  have:=bfs_scan_none l seen h
  simp only [bfsRow]
  intro he
  simp only [List.cons.injEq,true_and] at he
  exact this he
 | some t :: l,seen,h=>by
  simp only [scanO] at h
  simp only [bfsRow,List.mem_range]
  split at h
  ·rename_i hgt
   rw [if_neg (by omega)]
   intro he
   simp only [List.cons.injEq,Option.some.injEq,List.length_range] at he
   omega
  ·rename_i hle
   by_cases hlt:t < seen
   ·rw [if_neg (by omega)] at h
    have:=bfs_scan_none l seen h
    rw [if_pos hlt]
    intro he
    simp only [List.cons.injEq] at he
    exact this he.2
   ·have:t = seen:=by omega
    subst this
    rw [if_pos rfl] at h
    have:=bfs_scan_none l (t + 1) h
    rw [if_neg hlt,← List.range_succ]
    intro he
    simp only [List.cons.injEq] at he
    exact this he.2
theorem scanO_le:∀ (r:Row) (n seen seen':Nat),(∀ t,some t ∈ r → t < n) → seen ≤ n → scanO r seen = some seen' → seen ≤ seen' ∧ seen' ≤ n
 | [],n,seen,seen',_,hs,h=>by simp only [scanO,Option.some.injEq] at h; omega
 | none :: l,n,seen,seen',hr,hs,h=>scanO_le l n seen seen' (fun t ht=>hr t (by simp [ht])) hs h
 | some t :: l,n,seen,seen',hr,hs,h=>by
  simp only [scanO] at h
  split at h
  ·cases h
  have ht:=hr t (by simp)
  have:=scanO_le l n _ seen' (fun t ht=>hr t (by simp [ht])) (by split <;> omega) h
  split at this <;> omega
def scanQ:Nat → List Row → Nat → Option Nat
 | _,[],seen=>some seen
 | s,r :: l,seen=>if seen ≤ s then none else (scanO r seen).bind (scanQ (s + 1) l)
theorem numE_ext {k:Nat} {es:List Ed}:∀ (K i:Nat) (q:List Nat) (out res:List Row),numE k es K i q out = some res → ∃ tl,res = out ++ tl
 | 0,_,_,_,_,h=>by simp [numE] at h
 | K + 1,i,q,out,res,h=>by
  simp only [numE] at h
  split at h
  ·cases h; exact ⟨[],by simp⟩
  ·obtain ⟨tl,h⟩:=numE_ext K _ _ _ _ h
   exact ⟨_,by rw [h,List.append_assoc]⟩
theorem num_iff {k n:Nat} {es:List Ed} {R:List Row} (hn:R.length = n) (hrow:∀ v,v < n → rowE k es v = R.getD v []) (hlt:∀ r ∈ R,∀ t,some t ∈ r → t < n):∀ (K s seen:Nat) (res:List Row),s ≤ seen → seen ≤ n → numE k es K s (List.range seen) (R.take s) = some res → (res = R ↔ scanQ s (R.drop s) seen = some n)
 | 0,_,_,_,_,_,h=>by simp [numE] at h
 | K + 1,s,seen,res,hs,hsn,h=>by
  simp only [numE] at h
  by_cases hlt':s < seen
  ·have hsn':s < n:=by omega
   rw [show (List.range seen)[s]? = some s by rw [List.getElem?_range hlt']] at h
   simp only at h
   have hRs:R.getD s [] = R[s]:=getD_get (by omega)
   rw [hrow s hsn',hRs] at h
   have hdrop:R.drop s = R[s] :: R.drop (s + 1):=List.drop_eq_getElem_cons (by omega)
   rw [hdrop]
   simp only [scanQ,if_neg (show ¬ seen ≤ s by omega)]
   have hmem:R[s] ∈ R:=List.getElem_mem (by omega)
   cases hsc:scanO R[s] seen with
   | none=>
    have hne:=bfs_scan_none _ _ hsc
    obtain ⟨tl,hres⟩:=numE_ext _ _ _ _ _ h
    simp only [Option.bind_none,reduceCtorEq,iff_false]
    intro he
    rw [he] at hres
    have h1:=congrArg (fun l=>l[s]?) hres
    simp only [List.append_assoc] at h1
    rw [List.getElem?_append_right (by simp; omega),List.getElem?_eq_getElem (by omega)] at h1
    simp only [List.length_take,show s - min s R.length = 0 by omega,List.cons_append,List.getElem?_cons_zero,Option.some.injEq] at h1
    exact hne h1.symm
   | some seen'=>
    rw [bfs_scan _ _ _ hsc] at h
    have hle:=scanO_le _ n _ _ (hlt _ hmem) hsn hsc
    simp only [Option.bind_some]
    rw [← take_snoc (show s < R.length by omega)] at h
    exact num_iff hn hrow hlt K (s + 1) seen' res (by omega) hle.2 h
  ·have hse:s = seen:=by omega
   subst hse
   rw [show (List.range s)[s]? = none by simp] at h
   simp only [Option.some.injEq] at h
   subst h
   by_cases hsn':s = n
   ·subst hsn'
    rw [List.take_of_length_le (by omega),List.drop_eq_nil_of_le (by omega)]
    simp [scanQ]
   ·have hdrop:R.drop s = R[s]'(by omega) :: R.drop (s + 1):=List.drop_eq_getElem_cons (by omega)
    rw [hdrop]
    simp only [scanQ,Nat.le_refl,if_true,reduceCtorEq,iff_false]
    intro he
    have:=congrArg List.length he
    simp at this
    omega
def localP (acc:List Bool) (next:List (List Int)) (s:Nat) (row:List Int):Prop:=acc.getD s false = (s == 0) ∧ (0 < s → 2 ≤ degF (row.map toO)) ∧ rowLocal next s row = true
theorem scanE_iff {next:List (List Int)} {s:Nat}:∀ (row:List Int) (y seen r:Nat),scanE next s (edgesFrom y row) seen = some r ↔ ((edgesFrom y row).all fun e=>getN next e.2.1.toNat (e.1.toNat ^^^ 1) == (s:Int)) = true ∧ scanO (row.map toO) seen = some r
 | [],y,seen,r=>by simp [edgesFrom,scanE,scanO]
 | t :: l,y,seen,r=>by
  simp only [edgesFrom,List.map_cons]
  by_cases ht:0 ≤ t
  ·obtain ⟨n,rfl⟩:=Int.eq_ofNat_of_zero_le ht
   have ho:toO (n:Int) = some n:=by unfold toO; rw [if_neg (by omega)]; simp
   rw [if_pos ht,ho]
   simp only [scanE,scanO,List.all_cons,Bool.and_eq_true,beq_iff_eq]
   have ih:=fun s'=>scanE_iff (next:=next) (s:=s) l (y + 1) s' r
   by_cases hg:n > seen
   ·rw [if_pos hg,if_pos (.inr (by omega))]; simp
   ·rw [if_neg hg]
    by_cases hb:getN next ((n:Int)).toNat (((y:Int)).toNat ^^^ 1) = (s:Int)
    ·rw [if_neg (by unfold getN at hb; intro h; rcases h with h | h; exact h hb; omega)]
     have e1:(if (n:Int) = (seen:Int) then seen + 1 else seen) = (if n = seen then seen + 1 else seen):=by
      by_cases h:n = seen
      ·simp [h]
      ·rw [if_neg h,if_neg (by omega)]
     rw [e1,ih]
     constructor
     ·rintro ⟨h1,h2⟩; exact ⟨⟨hb,h1⟩,h2⟩
     ·rintro ⟨⟨_,h1⟩,h2⟩; exact ⟨h1,h2⟩
    ·rw [if_pos (.inl hb)]
     constructor
     ·intro h; cases h
     ·rintro ⟨⟨h1,_⟩,_⟩; exact absurd h1 hb
  ·have ho:toO t = none:=by unfold toO; rw [if_pos (by omega)]
   rw [if_neg ht,ho]
   simp only [scanO]
   exact scanE_iff l (y + 1) seen r
theorem scanR_iff {acc:List Bool} {next:List (List Int)}:∀ (l:List (List Int)) (s seen r:Nat),scanR acc next s l seen = some r ↔ (∀ (i:Nat) (row:List Int),l[i]? = some row → localP acc next (s + i) row) ∧ scanQ s (l.map (·.map toO)) seen = some r
 | [],s,seen,r=>by simp [scanR,scanQ]
 | row :: l,s,seen,r=>by
  simp only [scanR,List.map_cons,scanQ]
  have ih:=fun s'=>scanR_iff (acc:=acc) (next:=next) l (s + 1) s' r
  have hE:=fun s'=>scanE_iff (next:=next) (s:=s) row 0 seen s'
  constructor
  ·intro h
   split at h
   ·cases h
   rename_i hc
   split at h
   ·cases h
   rename_i seen' he
   obtain ⟨h1,h2⟩:=(hE seen').1 he
   obtain ⟨h3,h4⟩:=(ih seen').1 h
   have hacc:acc.getD s false = (s == 0):=by
    by_cases hh:acc.getD s false = (s == 0)
    ·exact hh
    ·exact absurd (.inl hh) hc
   refine ⟨fun i r' hi=>?_,?_⟩
   ·cases i with
    | zero=>
     simp only [List.getElem?_cons_zero,Option.some.injEq] at hi
     subst hi
     refine ⟨hacc,fun hs=>?_,h1⟩
     have hs:0 < s:=hs
     by_cases hd:degF (row.map toO) < 2
     ·exact absurd (.inr (.inl ⟨hs,hd⟩)) hc
     ·omega
    | succ i=>
     have:=h3 i r' (by simpa using hi)
     rw [show s + (i + 1) = s + 1 + i by omega]; exact this
   ·rw [if_neg (fun hle=>hc (.inr (.inr hle))),h2]
    exact h4
  ·rintro ⟨h1,h2⟩
   obtain ⟨p1,p2,p3⟩:=h1 0 row rfl
   rw [Nat.add_zero] at p1 p2 p3
   split at h2
   ·cases h2
   rename_i hle
   cases hsc:scanO (row.map toO) seen with
   | none=>rw [hsc] at h2; cases h2
   | some seen'=>
    rw [hsc] at h2
    have h2:scanQ (s + 1) (l.map (·.map toO)) seen' = some r:=h2
    rw [if_neg (by
     rintro (h | h | h)
     ·exact h p1
     ·have:=p2 h.1; omega
     ·exact hle h),(hE seen').2 ⟨p3,hsc⟩]
    exact (ih seen').2 ⟨fun i r' hi=>by
     have:=h1 (i + 1) r' (by simpa using hi)
     rw [show s + (i + 1) = s + 1 + i by omega] at this; exact this,h2⟩
theorem localAll_iff {acc:List Bool} {next:List (List Int)}:∀ (l:List (List Int)) (s:Nat),localAll acc next s l = true ↔ ∀ (i:Nat) (row:List Int),l[i]? = some row → localS acc next (s + i) row = true
 | [],s=>by simp [localAll]
 | r :: l,s=>by
  simp only [localAll,Bool.and_eq_true,localAll_iff l (s + 1)]
  constructor
  ·rintro ⟨h1,h2⟩ i row hi
   cases i with
   | zero=>simp only [List.getElem?_cons_zero,Option.some.injEq] at hi; subst hi; exact h1
   | succ i=>rw [show s + (i + 1) = s + 1 + i by omega]; exact h2 i row (by simpa using hi)
  ·intro h
   exact ⟨h 0 r rfl,fun i row hi=>by rw [show s + 1 + i = s + (i + 1) by omega]; exact h (i + 1) row (by simpa using hi)⟩
theorem localS_iff {acc:List Bool} {next:List (List Int)} {s:Nat} {row:List Int} (h0:acc.getD 0 false = true):localS acc next s row = true ↔ localP acc next s row:=by
 unfold localS localP
 rw [Bool.and_eq_true]
 by_cases hs:s = 0
 ·subst hs
  rw [h0]
  simp
 ·have e:(s == 0) = false:=by simp [hs]
  rw [e]
  simp only [Bool.false_or,Bool.and_eq_true,decide_eq_true_eq,Bool.not_eq_true']
  constructor
  ·rintro ⟨h1,h2,h3⟩; exact ⟨h3,fun _=>h2,h1⟩
  ·rintro ⟨h1,h2,h3⟩; exact ⟨h3,h2 (by omega),h1⟩
theorem edges_of:∀ (row:List Int) (y x:Nat),x < row.length → 0 ≤ row.getD x 0 → (((y + x:Nat):Int),row.getD x 0,()) ∈ edgesFrom y row
 | [],y,x,h,_=>by simp at h
 | t :: l,y,0,h,hp=>by
  have hp:0 ≤ t:=by simpa using hp
  simp only [edgesFrom]; rw [if_pos hp]; simp
 | t :: l,y,x + 1,h,hp=>by
  have:=edges_of l (y + 1) x (by simpa using h) (by simpa using hp)
  simp only [edgesFrom]
  rw [show y + (x + 1) = y + 1 + x by omega]
  split
  ·exact List.mem_cons_of_mem _ (by simpa using this)
  ·simpa using this
theorem mem_graphR {s:Nat} {row:List Int} {j:Nat} (hp:0 ≤ row.getD (2 * j) 0):∀ (n i:Nat),i ≤ j → j < i + n → (s,2 * j,(row.getD (2 * j) 0).toNat) ∈ graphR s row i n
 | 0,i,h1,h2=>by omega
 | n + 1,i,h1,h2=>by
  simp only [graphR]
  by_cases he:i = j
  ·subst he; rw [if_pos hp]; simp
  ·exact List.mem_append_right _ (mem_graphR hp n (i + 1) (by omega) (by omega))
theorem mem_graphL {k j:Nat} (hj:j < k):∀ (l:List (List Int)) (s i:Nat) (row:List Int),l[i]? = some row → 0 ≤ row.getD (2 * j) 0 → (s + i,2 * j,(row.getD (2 * j) 0).toNat) ∈ graphL k s l
 | [],s,i,row,h,_=>by simp at h
 | r :: l,s,0,row,h,hp=>by
  simp only [List.getElem?_cons_zero,Option.some.injEq] at h
  subst h
  exact List.mem_append_left _ (mem_graphR hp k 0 (Nat.zero_le _) (by omega))
 | r :: l,s,i + 1,row,h,hp=>by
  have:=mem_graphL hj l (s + 1) i row (by simpa using h) hp
  rw [show s + (i + 1) = s + 1 + i by omega]
  exact List.mem_append_right _ this
theorem stepE_some:∀ (es:List Ed) (v x t:Nat),Rf.stepE es v x = some t → (x % 2 = 0 ∧ (v,x,t) ∈ es) ∨ (x % 2 = 1 ∧ ∃ y,y + 1 = x ∧ (t,y,v) ∈ es)
 | [],v,x,t,h=>by simp [Rf.stepE] at h
 | (f,y,u) :: l,v,x,t,h=>by
  simp only [Rf.stepE] at h
  split at h
  ·rename_i hc
   obtain ⟨h1,rfl,rfl⟩:=hc
   cases h
   exact .inl ⟨h1,by simp⟩
  ·split at h
   ·rename_i hc
    obtain ⟨h1,h2,rfl⟩:=hc
    cases h
    exact .inr ⟨h1,y,h2,by simp⟩
   ·rcases stepE_some l v x t h with ⟨h1,h2⟩ | ⟨h1,y',h2,h3⟩
    ·exact .inl ⟨h1,by simp [h2]⟩
    ·exact .inr ⟨h1,y',h2,by simp [h3]⟩
theorem stepE_none:∀ (es:List Ed) (v x:Nat),Rf.stepE es v x = none → ∀ e ∈ es,¬ (x % 2 = 0 ∧ e.2.1 = x ∧ e.1 = v) ∧ ¬ (x % 2 = 1 ∧ e.2.1 + 1 = x ∧ e.2.2 = v)
 | [],v,x,_,e,he=>by simp at he
 | (f,y,u) :: l,v,x,h,e,he=>by
  simp only [Rf.stepE] at h
  split at h
  ·cases h
  ·split at h
   ·cases h
   ·rename_i h1 h2
    rcases List.mem_cons.1 he with rfl | he
    ·exact ⟨h1,h2⟩
    ·exact stepE_none l v x h e he
theorem xor_evens:∀ y:Fin 16,y.val % 2 = 0 → y.val ^^^ 1 = y.val + 1:=by decide
theorem xor_odds:∀ y:Fin 16,y.val % 2 = 1 → y.val ^^^ 1 = y.val - 1:=by decide
theorem step_graph {k:Nat} (hk:k ≤ 8) {next:List (List Int)} (hlen:∀ r ∈ next,r.length = 2 * k ∧ ∀ t ∈ r,-1 ≤ t ∧ t < (next.length:Int)) (hloc:∀ (i:Nat) (row:List Int),next[i]? = some row → rowLocal next i row = true) {v x:Nat} (hv:v < next.length) (hx:x < 2 * k) :
  Rf.stepE (graphL k 0 next) v x = toO (getN next v x):=by
 have back:∀ {s y:Nat},s < next.length → y < 2 * k → 0 ≤ getN next s y → getN next (getN next s y).toNat (y ^^^ 1) = (s:Int):=fun {s y} hs hy hp=>by
  have hr:=hloc s next[s] (List.getElem?_eq_getElem hs)
  have hl:=(hlen _ (List.getElem_mem hs)).1
  have hg:getN next s y = next[s].getD y 0:=by unfold getN; rw [getD_get hs]
  rw [hg] at hp ⊢
  have:=edges_of next[s] 0 y (by omega) hp
  have:=List.all_eq_true.1 hr _ this
  simpa using this
 have tgt:∀ {s y:Nat},s < next.length → y < 2 * k → getN next s y < (next.length:Int) ∧ -1 ≤ getN next s y:=fun {s y} hs hy=>by
  have hl:=hlen _ (List.getElem_mem hs)
  have hg:getN next s y = next[s][y]'(by omega):=by unfold getN; rw [getD_get hs,getD_get (by omega)]
  rw [hg]; have:=hl.2 _ (List.getElem_mem (show y < next[s].length by omega)); omega
 have ed:∀ {s j:Nat},s < next.length → j < k → 0 ≤ getN next s (2 * j) → (s,2 * j,(getN next s (2 * j)).toNat) ∈ graphL k 0 next:=fun {s j} hs hj hp=>by
  have hg:getN next s (2 * j) = next[s].getD (2 * j) 0:=by unfold getN; rw [getD_get hs]
  rw [hg] at hp ⊢
  have:=mem_graphL hj next 0 s next[s] (List.getElem?_eq_getElem hs) hp
  rw [Nat.zero_add] at this; exact this
 have edm:∀ {f y t:Nat},(f,y,t) ∈ graphL k 0 next → f < next.length ∧ y < 2 * k ∧ getN next f y = (t:Int) ∧ y % 2 = 0:=fun {f y t} he=>by
  obtain ⟨i,row,h1,h2,j,h3,h4,h5,h6⟩:=graphL_mem next 0 _ he
  dsimp only at h2 h4 h6
  obtain ⟨hi,hri⟩:=List.getElem?_eq_some_iff.1 h1
  rw [Nat.zero_add] at h2
  subst h2
  refine ⟨hi,by omega,?_,by omega⟩
  unfold getN; rw [getD_get hi,hri,h4]; omega
 cases hst:Rf.stepE (graphL k 0 next) v x with
 | some t=>
  rcases stepE_some _ _ _ _ hst with ⟨h1,h2⟩ | ⟨h1,y,h2,h3⟩
  ·have:=(edm h2).2.2.1
   rw [this]; unfold toO; rw [if_neg (by omega)]; simp
  ·obtain ⟨q1,q2,q3,q4⟩:=edm h3
   have hb:=back q1 q2 (by omega)
   rw [q3] at hb
   have hxy:y ^^^ 1 = x:=by rw [xor_evens ⟨y,by omega⟩ (by dsimp only; omega)]; exact h2
   rw [hxy] at hb
   have hb:getN next v x = (t:Int):=hb
   rw [hb]; unfold toO; rw [if_neg (by omega)]; simp
 | none=>
  have hn:=stepE_none _ _ _ hst
  by_cases hp:0 ≤ getN next v x
  ·exfalso
   by_cases hx2:x % 2 = 0
   ·have:=ed (s:=v) (j:=x / 2) hv (by omega) (by rw [show 2 * (x / 2) = x by omega]; exact hp)
    rw [show 2 * (x / 2) = x by omega] at this
    exact (hn _ this).1 ⟨hx2,rfl,rfl⟩
   ·have hb:=back hv hx hp
    have ht:=(tgt hv hx).1
    have hxy:x ^^^ 1 = 2 * (x / 2):=by rw [xor_odds ⟨x,by omega⟩ (by dsimp only; omega)]; dsimp only; omega
    rw [hxy] at hb
    have:=ed (s:=(getN next v x).toNat) (j:=x / 2) (by omega) (by omega) (by rw [hb]; omega)
    rw [hb] at this
    exact (hn _ this).2 ⟨by omega,by dsimp only; omega,by simp⟩
  ·unfold toO; rw [if_pos (by omega)]
theorem toO_ofO (o:Option Nat):toO (ofO o) = o:=by
 cases o with
 | none=>rfl
 | some n=>show toO (n:Int) = _; unfold toO; rw [if_neg (by omega)]; simp
theorem isM_check {k:Int} (hk:1 ≤ k ∧ k ≤ 8) (a:Aut):isM k a = decide (a.check k = 0):=by
 obtain ⟨nk,rfl⟩:=Int.eq_ofNat_of_zero_le (show 0 ≤ k by omega)
 have hA:a.check (nk:Int) = if fsaF a.sym a.start a.acc a.next ≠ 0 ∨ a.sym ≠ 2 * (nk:Int) ∨ a.next.length < 1 ∨ 2000 < a.next.length ∨ a.start ≠ 0 then 210
   else match scanR a.acc a.next 0 a.next 1 with | some seen=>if seen = a.next.length then 0 else 210 | none=>210:=by
  unfold Aut.check checkG; rw [if_neg (by simpa using hk)]; (try rfl)
 by_cases g1:fsaF a.sym a.start a.acc a.next = 0
 case neg=>
  rw [hA,if_pos (.inl g1)]; unfold isM; rw [decide_eq_false g1]; rfl
 obtain ⟨hla,hrows⟩:=fsa_spec g1
 by_cases g2:a.sym = 2 * (nk:Int)
 case neg=>
  rw [hA,if_pos (.inr (.inl g2))]; unfold isM; rw [decide_eq_false g2]; simp
 by_cases g3:1 ≤ a.acc.length
 case neg=>
  rw [hA,if_pos (.inr (.inr (.inl (by omega))))]; unfold isM; rw [decide_eq_false g3]; simp
 by_cases g4:a.acc.length ≤ 2000
 case neg=>
  rw [hA,if_pos (.inr (.inr (.inr (.inl (by omega)))))]; unfold isM; rw [decide_eq_false g4]; simp
 by_cases g5:a.start = 0
 case neg=>
  rw [hA,if_pos (.inr (.inr (.inr (.inr g5))))]; unfold isM; rw [decide_eq_false g5]; simp
 have hI:isM (nk:Int) a = (a.acc.getD 0 false && (localAll a.acc a.next 0 a.next && sameF a (autE nk (numR nk a.next)))):=by
  unfold isM
  rw [decide_eq_true g1,decide_eq_true g2,decide_eq_true g3,decide_eq_true g4,decide_eq_true g5]
  simp
 rw [hI,hA,if_neg (by
  rintro (h | h | h | h | h)
  ·exact h g1
  ·exact h g2
  ·omega
  ·omega
  ·exact h g5)]
 clear hI hA
 have hrow2:∀ r ∈ a.next,r.length = 2 * nk ∧ ∀ t ∈ r,-1 ≤ t ∧ t < (a.next.length:Int):=fun r hr=>⟨by have:=(hrows r hr).1; omega,(hrows r hr).2⟩
 have hback:(a.next.map (·.map toO)).map (·.map ofO) = a.next:=by
  rw [List.map_map]
  conv=>rhs; rw [← List.map_id a.next]
  exact List.map_congr_left fun r hr=>row_toO fun t ht=>((hrow2 r hr).2 t ht).1
 have hlt:=graphL_lt (k:=nk) (fun r hr t ht=>((hrow2 r hr).2 t ht).2) (by omega)
 obtain ⟨res,hres⟩:=numE_some (k:=nk) hlt (a.next.length + 1) 0 [0] [] (by simp) (by simp; omega) (by simp) (by omega)
 have hnR:numR nk a.next = res:=by unfold numR; rw [hres]; rfl
 rw [hnR]
 -- the states' marks and letters
 by_cases hloc:∀ (i:Nat) (row:List Int),a.next[i]? = some row → localP a.acc a.next (0 + i) row
 case neg=>
  have h1:¬ ∃ r,scanR a.acc a.next 0 a.next 1 = some r:=fun ⟨r,hr⟩=>hloc ((scanR_iff a.next 0 1 r).1 hr).1
  have h2:scanR a.acc a.next 0 a.next 1 = none:=by
   cases h:scanR a.acc a.next 0 a.next 1 with
   | none=>rfl
   | some r=>exact absurd ⟨r,h⟩ h1
  rw [h2]
  rw [show (decide ((210:Int) = 0)) = false from rfl]
  by_cases g6:a.acc.getD 0 false = true
  ·have h3:localAll a.acc a.next 0 a.next = false:=by
    cases h:localAll a.acc a.next 0 a.next with
    | false=>rfl
    | true=>exact absurd (fun i row hi=>(localS_iff g6).1 ((localAll_iff a.next 0).1 h i row hi)) hloc
   rw [h3,Bool.false_and,Bool.and_false]
  ·rw [Bool.not_eq_true] at g6
   rw [g6,Bool.false_and]
 have g6:a.acc.getD 0 false = true:=(hloc 0 _ (List.getElem?_eq_getElem (by omega))).1
 have h3:localAll a.acc a.next 0 a.next = true:=(localAll_iff a.next 0).2 fun i row hi=>(localS_iff g6).2 (hloc i row hi)
 rw [g6,h3,Bool.true_and,Bool.true_and]
 have hstep:∀ v,v < a.next.length → rowE nk (graphL nk 0 a.next) v = (a.next.map (·.map toO)).getD v []:=fun v hv=>by
  have hrv:(a.next.map (·.map toO)).getD v [] = a.next[v].map toO:=by rw [getD_get (by simpa using hv)]; simp
  rw [hrv]
  have hlv:=(hrow2 _ (List.getElem_mem hv)).1
  apply List.ext_getElem (by rw [rowE_len]; simp [hlv])
  intro x h1 h2
  rw [rowE_len] at h1
  have:=rowE_get (k:=nk) (es:=graphL nk 0 a.next) (v:=v) h1
  rw [step_graph (by omega) hrow2 (fun i row hi=>by have:=(hloc i row hi).2.2; rw [Nat.zero_add] at this; exact this) hv h1] at this
  obtain ⟨h4,h5⟩:=List.getElem?_eq_some_iff.1 this
  rw [h5,List.getElem_map]
  unfold getN
  rw [getD_get hv,getD_get (by omega)]
 have hN:=num_iff (k:=nk) (n:=a.next.length) (es:=graphL nk 0 a.next) (R:=a.next.map (·.map toO)) (by simp) hstep (fun r hr t ht=>by
  obtain ⟨r',hr',rfl⟩:=List.mem_map.1 hr
  obtain ⟨u,hu,hut⟩:=List.mem_map.1 ht
  have:=(hrow2 r' hr').2 u hu
  unfold toO at hut
  split at hut
  ·cases hut
  ·cases hut; omega) (a.next.length + 1) 0 1 res (by omega) (by omega) (by simpa using hres)
 rw [List.drop_zero] at hN
 have hS:sameF a (autE nk res) = true ↔ res = a.next.map (·.map toO):=by
  unfold sameF autE
  rw [decide_eq_true_eq]
  constructor
  ·rintro ⟨_,_,_,h⟩
   have h:a.next = res.map (·.map ofO):=h
   rw [h,List.map_map]
   conv=>lhs; rw [← List.map_id res]
   refine List.map_congr_left fun r _=>?_
   simp only [Function.comp,List.map_map]
   conv=>lhs; rw [id,← List.map_id r]
   exact List.map_congr_left fun o _=>(toO_ofO o).symm
  ·intro h
   refine ⟨by rw [g2]; push_cast; rfl,g5,?_,?_⟩
   ·rw [h,List.length_map]
    apply List.ext_getElem (by simp [accF]; omega)
    intro i h1 h2
    have:=(hloc i _ (List.getElem?_eq_getElem (show i < a.next.length by omega))).1
    rw [Nat.zero_add,getD_get h1] at this
    rw [this]
    simp [accF]
   ·rw [h]; exact hback.symm
 cases hs:sameF a (autE nk res) with
 | true=>
  have h4:=hN.1 (hS.1 hs)
  have h5:=(scanR_iff (acc:=a.acc) (next:=a.next) a.next 0 1 a.next.length).2 ⟨hloc,h4⟩
  rw [h5]; simp
 | false=>
  cases h6:scanR a.acc a.next 0 a.next 1 with
  | none=>rfl
  | some r=>
   by_cases hr:r = a.next.length
   ·subst hr
    have:=hS.2 (hN.2 ((scanR_iff a.next 0 1 _).1 h6).2)
    rw [hs] at this; cases this
   ·simp [hr]
end Go.Proofs.YtffdjfkekdoeaaaDoor.Pl
end
section
set_option maxRecDepth 4000
set_option maxHeartbeats 2000000
namespace Go.Proofs.YtffdjfkekdoeaaaDoor.Pl
open Fw Wd Fo Rf
def L (x:Nat):UInt8:=UInt8.ofNat (letF (x:Int)).toNat
theorem L_other:∀ x:Fin 16,otherB (L x.val) = L (x.val ^^^ 1):=by decide
theorem L_inj:∀ x y:Fin 16,L x.val = L y.val → x = y:=by decide
theorem L_idx:∀ x:Fin 16,idxF (ofB (L x.val)) = (x.val:Int):=by decide
theorem letS_list (x:Nat):(letS (x:Int)).data.toList = [L x]:=rfl
theorem app_list (a b:ByteArray):(a ++ b).data.toList = a.data.toList ++ b.data.toList:=by
 rw [ByteArray.data_append,Array.toList_append]
theorem xor_xor:∀ x:Fin 16,(x.val ^^^ 1) ^^^ 1 = x.val ∧ x.val ^^^ 1 < 16:=by decide
def RedL (l:List UInt8):Prop:=redF l = l
theorem redF_snoc (l:List UInt8) (c:UInt8):redF (l ++ [c]) = redStep (redF l) c:=by simp [redF]
theorem RedL.snoc {l:List UInt8} {c:UInt8} (h:RedL l) (hc:l.getLast? ≠ some (otherB c)):RedL (l ++ [c]):=by
 unfold RedL at *
 rw [redF_snoc,h,redStep,if_neg hc]
theorem redF_len (l:List UInt8):(redF l).length ≤ l.length:=by have:=redFold_len l []; simpa [redF] using this
theorem RedL.inv {l:List UInt8} {c:UInt8} (h:RedL (l ++ [c])):RedL l ∧ l.getLast? ≠ some (otherB c):=by
 unfold RedL at *
 rw [redF_snoc,redStep] at h
 split at h
 ·exfalso
  have h1:=congrArg List.length h
  have h2:=redF_len l
  simp at h1
  omega
 ·rename_i hn
  have:=List.append_cancel_right h
  rw [this] at hn
  exact ⟨this,hn⟩
theorem RedL.nil:RedL []:=rfl
theorem otherB_otherB (c:UInt8):otherB (otherB c) = c:=by
 unfold otherB
 rw [UInt8.xor_assoc]; simp
theorem invF_snoc (q:List UInt8) (c:UInt8):invF (q ++ [c]) = otherB c :: invF q:=by simp [invF]
theorem fold_inv:∀ (n:Nat) (q a:List UInt8),q.length = n → (invF q).foldl redStep (a ++ q) = a
 | 0,q,a,h=>by
  have:q = []:=List.eq_nil_of_length_eq_zero h
  subst this; simp [invF]
 | n + 1,q,a,h=>by
  rcases List.eq_nil_or_concat q with rfl | ⟨q',c,rfl⟩
  ·simp at h
  ·rw [List.concat_eq_append] at *
   rw [invF_snoc,List.foldl_cons]
   have:redStep (a ++ (q' ++ [c])) (otherB c) = a ++ q':=by
    unfold redStep
    rw [otherB_otherB,← List.append_assoc]
    simp
   rw [this]
   exact fold_inv n q' a (by simpa using h)
theorem fold_red:∀ (n:Nat) (q A:List UInt8),q.length = n → RedL q → A ≠ [] → (q = [] ∨ q.getLast? ≠ A.getLast?) → (invF q).foldl redStep A = A ++ invF q
 | 0,q,A,h,_,_,_=>by
  have:q = []:=List.eq_nil_of_length_eq_zero h
  subst this; simp [invF]
 | n + 1,q,A,h,hr,hA,hne=>by
  rcases List.eq_nil_or_concat q with rfl | ⟨q',c,rfl⟩
  ·simp at h
  ·rw [List.concat_eq_append] at *
   obtain ⟨h1,h2⟩:=hr.inv
   rw [invF_snoc,List.foldl_cons]
   have h3:A.getLast? ≠ some c:=by
    rcases hne with hne | hne
    ·simp at hne
    ·simp only [List.getLast?_append,List.getLast?_singleton,Option.some_or] at hne
     exact fun he=>hne he.symm
   have:redStep A (otherB c) = A ++ [otherB c]:=by
    unfold redStep
    rw [otherB_otherB,if_neg h3]
   rw [this,fold_red n q' (A ++ [otherB c]) (by simpa using h) h1 (by simp) (by
    by_cases hq:q' = []
    ·exact .inl hq
    ·refine .inr ?_
     rw [List.getLast?_append,List.getLast?_singleton]; exact h2),List.append_assoc]
   rfl
theorem red_loop {p q:List UInt8} {c:UInt8} (hp:RedL p) (hq:RedL q) (h1:p.getLast? ≠ some (otherB c)) (h2:q.getLast? ≠ some c):redF (p ++ [c] ++ invF q) = p ++ [c] ++ invF q:=by
 have h3:=hp.snoc h1
 unfold RedL at h3
 rw [redF,List.foldl_append]
 show (invF q).foldl redStep (redF (p ++ [c])) = _
 rw [h3,fold_red _ q (p ++ [c]) rfl hq (by simp) (by
  by_cases hn:q = []
  ·exact .inl hn
  ·refine .inr ?_
   rw [List.getLast?_append,List.getLast?_singleton]; exact h2)]
theorem red_tree1 {p:List UInt8} {c:UInt8} (hp:RedL (p ++ [c])):redF (p ++ [c] ++ invF (p ++ [c])) = []:=by
 rw [redF,List.foldl_append]
 show (invF (p ++ [c])).foldl redStep (redF (p ++ [c])) = _
 rw [hp]
 have:=fold_inv _ (p ++ [c]) [] rfl
 simpa using this
theorem red_tree2 {p:List UInt8} {c:UInt8} (hp:RedL (p ++ [otherB c])):redF ((p ++ [otherB c]) ++ [c] ++ invF p) = []:=by
 rw [redF,List.foldl_append,List.foldl_append]
 have h1:(p ++ [otherB c]).foldl redStep [] = p ++ [otherB c]:=hp
 rw [h1]
 have h2:[c].foldl redStep (p ++ [otherB c]) = p:=by
  simp [redStep]
 rw [h2]
 have:=fold_inv _ p [] rfl
 simpa using this
def isEven (k:Int × Int):Bool:=k.2.toNat % 2 == 0
structure TreeW (m:Nat) (next:List (List Int)) (T:Tree):Prop where
 good:∀ p ∈ T.paths,∀ b ∈ p.data.toList,∃ x,x < 16 ∧ b = L x
 red:∀ p ∈ T.paths,RedL p.data.toList
 zero:T.paths.getD 0 ⟨#[]⟩ = ⟨#[]⟩
 last:∀ v,0 < v → v < T.seen → ∃ s x,x < 16 ∧ (T.paths.getD v ⟨#[]⟩).data.toList = (T.paths.getD s ⟨#[]⟩).data.toList ++ [L x] ∧ ((v:Int),((x ^^^ 1:Nat):Int)) ∈ T.keys
 keyw:∀ u y,(u,y) ∈ T.keys → ∃ (u' y' t':Nat),u = (u':Int) ∧ y = (y':Int) ∧ y' < m ∧ getN next u' y' = (t':Int) ∧ u' < T.seen ∧ t' < T.seen ∧ ((t':Int),((y' ^^^ 1:Nat):Int)) ∈ T.keys ∧ getN next t' (y' ^^^ 1) = (u':Int) ∧
  ((T.paths.getD t' ⟨#[]⟩).data.toList = (T.paths.getD u' ⟨#[]⟩).data.toList ++ [L y'] ∨ (T.paths.getD u' ⟨#[]⟩).data.toList = (T.paths.getD t' ⟨#[]⟩).data.toList ++ [L (y' ^^^ 1)])
 nodup:T.keys.Nodup
 evens:(T.keys.filter isEven).length + 1 = T.seen
theorem TreeW.start {m:Nat} {next:List (List Int)} (h:1 ≤ next.length):TreeW m next ⟨1,List.replicate next.length ⟨#[]⟩,[]⟩ where
 good:=fun p hp b hb=>by rw [List.eq_of_mem_replicate hp] at hb; simp at hb
 red:=fun p hp=>by rw [List.eq_of_mem_replicate hp]; exact RedL.nil
 zero:=by rw [getD_get (by rw [List.length_replicate]; exact h)]; simp
 last:=fun v h1 h2=>absurd h2 (by show ¬ v < 1; omega)
 keyw:=fun u y h=>by simp at h
 nodup:=List.nodup_nil
 evens:=rfl
theorem getD_set_ne {α:Type} {l:List α} {i j:Nat} {x d:α} (h:i ≠ j):(l.set i x).getD j d = l.getD j d:=by
 rw [List.getD_eq_getElem?_getD,List.getElem?_set_ne h,← List.getD_eq_getElem?_getD]
theorem getD_set_eq {α:Type} {l:List α} {i:Nat} {x d:α} (h:i < l.length):(l.set i x).getD i d = x:=by
 rw [List.getD_eq_getElem?_getD,List.getElem?_set_self h]; rfl
theorem even_xor:∀ x:Fin 16,((x.val % 2 == 0) = true ∧ ((x.val ^^^ 1) % 2 == 0) = false) ∨ ((x.val % 2 == 0) = false ∧ ((x.val ^^^ 1) % 2 == 0) = true):=by decide
theorem TreeW.step {m:Nat} (hm16:m ≤ 16) (hcl:∀ x,x < m → x ^^^ 1 < m) {next:List (List Int)} {T:Tree} (hW:TreeW m next T) (h:TreeOk next T) {s x:Nat} (hxm:x < m) (hs:s < T.seen) (ht:T.seen < next.length) (hx:getN next s x = (T.seen:Int)) (hb:getN next T.seen (x ^^^ 1) = (s:Int)) :
  TreeW m next ⟨T.seen + 1,T.paths.set T.seen (T.paths.getD s ⟨#[]⟩ ++ letS (x:Int)),T.keys ++ [((s:Int),(x:Int)),((T.seen:Int),((x ^^^ 1:Nat):Int))]⟩:=by
 have hx16:x < 16:=by omega
 have hpl:T.seen < T.paths.length:=by rw [h.len]; exact ht
 have hsl:s < T.paths.length:=by omega
 have hps:T.paths.getD s ⟨#[]⟩ ∈ T.paths:=by rw [getD_get hsl]; exact List.getElem_mem hsl
 have hnew:(T.paths.getD s ⟨#[]⟩ ++ letS (x:Int)).data.toList = (T.paths.getD s ⟨#[]⟩).data.toList ++ [L x]:=by rw [app_list,letS_list]
 obtain ⟨hxx,hx1⟩:=xor_xor ⟨x,hx16⟩
 dsimp only at hxx hx1
 have old:∀ v,v < T.seen → (T.paths.set T.seen (T.paths.getD s ⟨#[]⟩ ++ letS (x:Int))).getD v ⟨#[]⟩ = T.paths.getD v ⟨#[]⟩:=fun v hv=>getD_set_ne (by omega)
 have neu:(T.paths.set T.seen (T.paths.getD s ⟨#[]⟩ ++ letS (x:Int))).getD T.seen ⟨#[]⟩ = T.paths.getD s ⟨#[]⟩ ++ letS (x:Int):=getD_set_eq hpl
 have hredS:RedL ((T.paths.getD s ⟨#[]⟩).data.toList ++ [L x]):=by
  refine (hW.red _ hps).snoc fun hl=>?_
  by_cases hs0:s = 0
  ·subst hs0; rw [hW.zero] at hl; simp at hl
  ·obtain ⟨s',x',h1,h2,h3⟩:=hW.last s (by omega) hs
   rw [h2,List.getLast?_append,List.getLast?_singleton] at hl
   simp only [Option.some_or,Option.some.injEq] at hl
   rw [L_other ⟨x,hx16⟩] at hl
   have:=L_inj ⟨x',h1⟩ ⟨x ^^^ 1,hx1⟩ hl
   simp only [Fin.mk.injEq] at this
   subst this
   rw [hxx] at h3
   exact h.new1 hx h3
 refine ⟨fun p hp b hb=>?_,fun p hp=>?_,?_,fun v h1 h2=>?_,fun u y hm=>?_,?_,?_⟩
 ·rcases List.mem_or_eq_of_mem_set hp with hp | rfl
  ·exact hW.good p hp b hb
  ·rw [hnew] at hb
   rcases List.mem_append.1 hb with hb | hb
   ·exact hW.good _ hps b hb
   ·simp only [List.mem_singleton] at hb; exact ⟨x,hx16,hb⟩
 ·rcases List.mem_or_eq_of_mem_set hp with hp | rfl
  ·exact hW.red p hp
  ·rw [hnew]; exact hredS
 ·show (T.paths.set _ _).getD 0 _ = _
  rw [old 0 (by omega)]; exact hW.zero
 ·have h2:v < T.seen + 1:=h2
  by_cases hv:v < T.seen
  ·obtain ⟨s',x',q1,q2,q3⟩:=hW.last v h1 hv
   by_cases hs':s' < T.seen
   ·refine ⟨s',x',q1,?_,List.mem_append_left _ q3⟩
    show ((T.paths.set _ _).getD v _).data.toList = ((T.paths.set _ _).getD s' _).data.toList ++ _
    rw [old v hv,old s' hs']; exact q2
   · -- its parent is met already
    obtain ⟨u',y',t',p1,p2,p3,p4,p5,p6,p7,p8,p9⟩:=hW.keyw _ _ q3
    obtain rfl:v = u':=by omega
    obtain ⟨hyx,hy1⟩:=xor_xor ⟨y',Nat.lt_of_lt_of_le p3 hm16⟩
    dsimp only at hyx hy1
    rcases p9 with p9 | p9
    ·rw [q2] at p9
     have e1:(x' ^^^ 1) = y':=by omega
     refine ⟨s',x',q1,?_,List.mem_append_left _ q3⟩
     exfalso
     have h5:T.paths.getD s' ⟨#[]⟩ = ⟨#[]⟩ ∨ s' < T.paths.length:=by
      by_cases hl:s' < T.paths.length
      ·exact .inr hl
      ·exact .inl (by rw [List.getD_eq_getElem?_getD,List.getElem?_eq_none (by omega)]; rfl)
     have hmem:((T.paths.getD t' ⟨#[]⟩)) ∈ T.paths:=by rw [getD_get (show t' < T.paths.length by rw [h.len]; omega)]; exact List.getElem_mem _
     have hr:=hW.red _ hmem
     rw [p9] at hr
     have h6:=hr.inv.2
     rw [List.getLast?_append,List.getLast?_singleton] at h6
     apply h6
     rw [← e1,← L_other ⟨x',q1⟩,otherB_otherB]; rfl
    ·refine ⟨t',x',q1,?_,List.mem_append_left _ q3⟩
     show ((T.paths.set _ _).getD v _).data.toList = ((T.paths.set _ _).getD t' _).data.toList ++ _
     rw [old v hv,old t' p6,p9]
     have e1:(x' ^^^ 1) = y':=by omega
     obtain ⟨hxx',_⟩:=xor_xor ⟨x',q1⟩
     dsimp only at hxx'
     rw [← e1,hxx']
  ·obtain rfl:v = T.seen:=by omega
   refine ⟨s,x,hx16,?_,List.mem_append_right _ (by simp)⟩
   show ((T.paths.set _ _).getD T.seen _).data.toList = ((T.paths.set _ _).getD s _).data.toList ++ _
   rw [neu,old s hs,hnew]
 ·rcases List.mem_append.1 hm with hm | hm
  ·obtain ⟨u',y',t',p1,p2,p3,p4,p5,p6,p7,p8,p9⟩:=hW.keyw u y hm
   refine ⟨u',y',t',p1,p2,p3,p4,by show u' < T.seen + 1; omega,by show t' < T.seen + 1; omega,List.mem_append_left _ p7,p8,?_⟩
   show ((T.paths.set _ _).getD t' _).data.toList = ((T.paths.set _ _).getD u' _).data.toList ++ _ ∨ ((T.paths.set _ _).getD u' _).data.toList = ((T.paths.set _ _).getD t' _).data.toList ++ _
   rw [old u' p5,old t' p6]; exact p9
  ·simp only [List.mem_cons,Prod.mk.injEq,List.not_mem_nil,or_false] at hm
   rcases hm with ⟨rfl,rfl⟩ | ⟨rfl,rfl⟩
   ·refine ⟨s,x,T.seen,rfl,rfl,hxm,hx,by show s < T.seen + 1; omega,by show T.seen < T.seen + 1; omega,List.mem_append_right _ (by simp),hb,.inl ?_⟩
    show ((T.paths.set _ _).getD T.seen _).data.toList = ((T.paths.set _ _).getD s _).data.toList ++ _
    rw [neu,old s hs,hnew]
   ·refine ⟨T.seen,x ^^^ 1,s,rfl,rfl,hcl x hxm,hb,by show T.seen < T.seen + 1; omega,by show s < T.seen + 1; omega,List.mem_append_right _ (by rw [hxx]; simp),by rw [hxx]; exact hx,.inr ?_⟩
    show ((T.paths.set _ _).getD T.seen _).data.toList = ((T.paths.set _ _).getD s _).data.toList ++ _
    rw [neu,old s hs,hnew,hxx]
 ·rw [List.nodup_append]
  refine ⟨hW.nodup,?_,fun a ha b hb'=>?_⟩
  ·simp; omega
  ·simp only [List.mem_cons,List.not_mem_nil,or_false] at hb'
   rcases hb' with rfl | rfl
   ·exact fun he=>h.new1 hx (he ▸ ha)
   ·intro he
    subst he
    have:=(h.keys _ _ ha).2.1; omega
 ·show ((T.keys ++ [_,_]).filter isEven).length + 1 = T.seen + 1
  rw [List.filter_append,List.length_append]
  have:=hW.evens
  rcases even_xor ⟨x,hx16⟩ with ⟨q1,q2⟩ | ⟨q1,q2⟩ <;> simp [List.filter_cons,isEven,q1,q2] <;> omega
theorem treeE_ok {m:Nat} (hm16:m ≤ 16) (hcl:∀ x,x < m → x ^^^ 1 < m) {next:List (List Int)} {s:Nat}:∀ (l:List (Int × Int × Unit)) (T:Tree) (r:Nat),(∀ x t u,(x,t,u) ∈ l → 0 ≤ x ∧ x < (m:Int) ∧ 0 ≤ t ∧ t < (next.length:Int) ∧ getN next s x.toNat = t) → TreeOk next T → TreeW m next T → s < T.seen → scanE next s l T.seen = some r →
  TreeOk next (treeE s l T) ∧ TreeW m next (treeE s l T) ∧ (treeE s l T).seen = r ∧ T.seen ≤ r
 | [],T,r,_,h1,h2,_,hs=>by simp only [scanE,Option.some.injEq] at hs; subst hs; exact ⟨h1,h2,rfl,Nat.le_refl _⟩
 | (x,t,u) :: l,T,r,hl,h1,h2,hsT,hs=>by
  obtain ⟨a1,a2,a3,a4,a5⟩:=hl x t u (by simp)
  obtain ⟨nx,rfl⟩:=Int.eq_ofNat_of_zero_le a1
  obtain ⟨nt,rfl⟩:=Int.eq_ofNat_of_zero_le a3
  simp only [scanE] at hs
  split at hs
  ·cases hs
  rename_i hc
  have hb:getN next nt (nx ^^^ 1) = (s:Int):=by
   by_cases hh:(next.getD ((nt:Int)).toNat []).getD (((nx:Int)).toNat ^^^ 1) 0 = (s:Int)
   ·exact hh
   ·exact absurd (.inl hh) hc
  have hl':∀ x t u,(x,t,u) ∈ l → 0 ≤ x ∧ x < (m:Int) ∧ 0 ≤ t ∧ t < (next.length:Int) ∧ getN next s x.toNat = t:=fun x t u hm=>hl x t u (by simp [hm])
  simp only [treeE]
  by_cases he:(nt:Int) = (T.seen:Int)
  ·obtain rfl:nt = T.seen:=by omega
   rw [if_pos rfl] at hs ⊢
   have h5:getN next s nx = (T.seen:Int):=a5
   have:=treeE_ok hm16 hcl l _ r hl' (h1.step hsT (by omega) h5 hb) (h2.step hm16 hcl h1 (by omega) hsT (by omega) h5 hb) (by show s < T.seen + 1; omega) hs
   refine ⟨this.1,this.2.1,this.2.2.1,?_⟩
   have:=this.2.2.2
   have:T.seen + 1 ≤ r:=this
   omega
  ·rw [if_neg he] at hs ⊢
   exact treeE_ok hm16 hcl l T r hl' h1 h2 hsT hs
theorem treeR_ok {m:Nat} (hm16:m ≤ 16) (hcl:∀ x,x < m → x ^^^ 1 < m) {acc:List Bool} {next:List (List Int)} (hrow:∀ r ∈ next,r.length = m ∧ ∀ t ∈ r,-1 ≤ t ∧ t < (next.length:Int)):∀ (l:List (List Int)) (s:Nat) (T:Tree) (r:Nat),l = next.drop s → TreeOk next T → TreeW m next T → scanR acc next s l T.seen = some r →
  TreeOk next (treeR s l T) ∧ TreeW m next (treeR s l T) ∧ (treeR s l T).seen = r
 | [],s,T,r,_,h1,h2,hs=>by simp only [scanR,Option.some.injEq] at hs; subst hs; exact ⟨h1,h2,rfl⟩
 | row :: l,s,T,r,hl,h1,h2,hs=>by
  have hsn:s < next.length:=by
   by_cases hh:s < next.length
   ·exact hh
   ·rw [List.drop_eq_nil_of_le (by omega)] at hl; cases hl
  have hd:next.drop s = next[s] :: next.drop (s + 1):=List.drop_eq_getElem_cons hsn
  rw [hd] at hl
  simp only [List.cons.injEq] at hl
  obtain ⟨hr,hl⟩:=hl
  have hm:=hrow row (by rw [hr]; exact List.getElem_mem hsn)
  simp only [scanR] at hs
  split at hs
  ·cases hs
  rename_i hc
  split at hs
  ·cases hs
  rename_i seen' hE
  have hsT:s < T.seen:=by
   by_cases hh:T.seen ≤ s
   ·exact absurd (.inr (.inr hh)) hc
   ·omega
  obtain ⟨p1,p2,p3,p4⟩:=treeE_ok hm16 hcl (edgesFrom 0 row) T seen' (fun x t u hx=>by
   obtain ⟨e1,e2,e3,e4⟩:=edges_mem row 0 x t u hx
   obtain ⟨e5,_⟩:=edges_val row 0 x t u hx
   have:=hm.2 t e2
   have hml:=hm.1
   refine ⟨e3,by omega,e1,this.2,?_⟩
   unfold getN; rw [getD_get hsn,← hr]; simpa using e5) h1 h2 hsT hE
  simp only [treeR]
  exact treeR_ok hm16 hcl hrow l (s + 1) _ r hl p1 p2 (by rw [p3]; exact hs)
theorem tree_ok {k:Int} (hk:k ≤ 8) {a:Aut} (hc:a.check k = 0):TreeOk a.next (treeF a.next) ∧ TreeW (2 * k.toNat) a.next (treeF a.next) ∧ (treeF a.next).seen = a.next.length:=by
 obtain ⟨_,_,h1,_,_,hs,hr⟩:=check_spec hc
 exact treeR_ok (m:=2 * k.toNat) (by omega) (fun x hx=>xor_even (by omega) hx) (acc:=a.acc) (fun r hm=>⟨by have:=(hr r hm).1; omega,(hr r hm).2⟩) a.next 0 _ _ rfl (TreeOk.start h1) (TreeW.start h1) hs
end Go.Proofs.YtffdjfkekdoeaaaDoor.Pl
end
section
set_option maxRecDepth 4000
set_option maxHeartbeats 2000000
namespace Go.Proofs.YtffdjfkekdoeaaaDoor.Pl
open Fw Wd Fo Rf
theorem L_bad:∀ x:Fin 16,badF 8 ((L x.val).toNat:Int) = false:=by decide
def Good (l:List UInt8):Prop:=∀ b ∈ l,∃ x,x < 16 ∧ b = L x
theorem Good.inv {l:List UInt8} (h:Good l):Good (invF l):=fun b hb=>by
 unfold invF at hb
 rw [List.mem_reverse] at hb
 obtain ⟨c,hc,rfl⟩:=List.mem_map.1 hb
 obtain ⟨x,hx,rfl⟩:=h c hc
 exact ⟨x ^^^ 1,(xor_xor ⟨x,hx⟩).2,L_other ⟨x,hx⟩⟩
theorem Good.app {a b:List UInt8} (h:Good a) (h':Good b):Good (a ++ b):=fun c hc=>(List.mem_append.1 hc).elim (h c) (h' c)
theorem check_good {s:ByteArray} (h:Good s.data.toList) (hs:s.size ≤ 100000):checkF 8 s = 0:=by
 unfold checkF
 rw [if_neg (by omega),if_neg (by omega),if_neg]
 unfold hasBad
 rw [Bool.not_eq_true,List.any_eq_false]
 intro b hb
 obtain ⟨x,hx,rfl⟩:=h b hb
 rw [L_bad ⟨x,hx⟩]; simp
theorem size_list (s:ByteArray):s.size = s.data.toList.length:=by
 show s.data.size = _
 rw [Array.length_toList]
theorem back_of {k:Int} {a:Aut} (hc:a.check k = 0) {s x:Nat} (hs:s < a.next.length) (hx:x < 2 * k.toNat) (hp:0 ≤ getN a.next s x):getN a.next (getN a.next s x).toNat (x ^^^ 1) = (s:Int):=by
 obtain ⟨_,_,_,_,_,hsc,hrows⟩:=check_spec hc
 have hl:=((scanR_iff a.next 0 1 _).1 hsc).1 s a.next[s] (List.getElem?_eq_getElem hs)
 rw [Nat.zero_add] at hl
 have hr:=hl.2.2
 have hlen:=(hrows _ (List.getElem_mem hs)).1
 have hg:getN a.next s x = a.next[s].getD x 0:=by unfold getN; rw [getD_get hs]
 rw [hg] at hp ⊢
 have:=edges_of a.next[s] 0 x (by omega) hp
 have:=List.all_eq_true.1 hr _ this
 simpa using this
theorem path_mem {T:Tree} {s:Nat} (h:s < T.paths.length):T.paths.getD s ⟨#[]⟩ ∈ T.paths:=by rw [getD_get h]; exact List.getElem_mem h
theorem red_edge {k:Int} (hk:k ≤ 8) {a:Aut} (hc:a.check k = 0) {s x t:Nat} (hs:s < a.next.length) (hx:x < 2 * k.toNat) (ht:getN a.next s x = (t:Int)) :
  (ReduceF ((treeF a.next).paths.getD s ⟨#[]⟩ ++ letS (x:Int) ++ InverseF ((treeF a.next).paths.getD t ⟨#[]⟩)) = ⟨#[]⟩ ↔ ((s:Int),(x:Int)) ∈ (treeF a.next).keys):=by
 obtain ⟨hT,hW,hseen⟩:=tree_ok hk hc
 obtain ⟨_,_,h1,h2,_,_,hrows⟩:=check_spec hc
 have hx16:x < 16:=by omega
 have hb:=back_of hc hs hx (by omega)
 rw [ht,Int.toNat_natCast] at hb
 have htn:t < a.next.length:=by
  have hlen:=(hrows _ (List.getElem_mem hs)).1
  have hg:getN a.next s x = a.next[s][x]'(by omega):=by unfold getN; rw [getD_get hs,getD_get (by omega)]
  have:=((hrows _ (List.getElem_mem hs)).2 _ (List.getElem_mem (show x < a.next[s].length by omega))).2
  omega
 have mS:=path_mem (T:=treeF a.next) (s:=s) (by rw [hT.len]; exact hs)
 have mT:=path_mem (T:=treeF a.next) (s:=t) (by rw [hT.len]; exact htn)
 have zS:=hT.small _ mS
 have zT:=hT.small _ mT
 have gS:Good _:=hW.good _ mS
 have gT:Good _:=hW.good _ mT
 have rS:=hW.red _ mS
 have rT:=hW.red _ mT
 have lastS:s ≠ 0 → ∃ s' x',x' < 16 ∧ ((treeF a.next).paths.getD s ⟨#[]⟩).data.toList = ((treeF a.next).paths.getD s' ⟨#[]⟩).data.toList ++ [L x'] ∧ ((s:Int),((x' ^^^ 1:Nat):Int)) ∈ (treeF a.next).keys:=fun h=>hW.last s (by omega) (by omega)
 have lastT:t ≠ 0 → ∃ s' x',x' < 16 ∧ ((treeF a.next).paths.getD t ⟨#[]⟩).data.toList = ((treeF a.next).paths.getD s' ⟨#[]⟩).data.toList ++ [L x'] ∧ ((t:Int),((x' ^^^ 1:Nat):Int)) ∈ (treeF a.next).keys:=fun h=>hW.last t (by omega) (by omega)
 have zero:=hW.zero
 have keyw:=hW.keyw
 generalize hPS:(treeF a.next).paths.getD s ⟨#[]⟩ = pS at *
 generalize hPT:(treeF a.next).paths.getD t ⟨#[]⟩ = pT at *
 have hI:InverseF pT = ⟨(invF pT.data.toList).toArray⟩:=by unfold InverseF; rw [if_pos (check_good gT (by omega))]
 have hIl:(InverseF pT).data.toList = invF pT.data.toList:=by rw [hI]
 have hw:(pS ++ letS (x:Int) ++ InverseF pT).data.toList = pS.data.toList ++ [L x] ++ invF pT.data.toList:=by rw [app_list,app_list,letS_list,hIl]
 have gw:Good (pS ++ letS (x:Int) ++ InverseF pT).data.toList:=by
  rw [hw]
  exact (gS.app fun b hb=>by simp only [List.mem_singleton] at hb; exact ⟨x,hx16,hb⟩).app gT.inv
 have hR:ReduceF (pS ++ letS (x:Int) ++ InverseF pT) = ⟨(redF (pS.data.toList ++ [L x] ++ invF pT.data.toList)).toArray⟩:=by
  unfold ReduceF
  have:(pS ++ letS (x:Int) ++ InverseF pT).size ≤ 100000:=by
   rw [ByteArray.size_append,ByteArray.size_append,letS_size]
   have:=invF_size pT
   omega
  rw [if_pos (check_good gw this),hw]
 have hemp:∀ l:List UInt8,((⟨l.toArray⟩:ByteArray) = ⟨#[]⟩ ↔ l = []):=fun l=>by
  constructor
  ·intro h
   have:=congrArg (fun b:ByteArray=>b.data.toList) h
   simpa using this
  ·intro h; rw [h]
 rw [hR,hemp]
 constructor
 ·intro he
  by_cases hm:((s:Int),(x:Int)) ∈ (treeF a.next).keys
  ·exact hm
  ·exfalso
   have hoth:otherB (L x) = L (x ^^^ 1):=L_other ⟨x,hx16⟩
   obtain ⟨hxx,hx1⟩:=xor_xor ⟨x,hx16⟩
   dsimp only at hxx hx1
   have q1:pS.data.toList.getLast? ≠ some (otherB (L x)):=fun hl=>by
    by_cases hs0:s = 0
    ·subst hs0
     rw [hPS] at zero
     rw [zero] at hl; simp at hl
    ·obtain ⟨s',x',p1,p2,p3⟩:=lastS hs0
     rw [p2,List.getLast?_append,List.getLast?_singleton,hoth] at hl
     simp only [Option.some_or,Option.some.injEq] at hl
     have:=L_inj ⟨x',p1⟩ ⟨x ^^^ 1,hx1⟩ hl
     simp only [Fin.mk.injEq] at this
     subst this
     rw [hxx] at p3
     exact hm p3
   have q2:pT.data.toList.getLast? ≠ some (L x):=fun hl=>by
    by_cases ht0:t = 0
    ·subst ht0
     rw [hPT] at zero
     rw [zero] at hl; simp at hl
    ·obtain ⟨s',x',p1,p2,p3⟩:=lastT ht0
     rw [p2,List.getLast?_append,List.getLast?_singleton] at hl
     simp only [Option.some_or,Option.some.injEq] at hl
     have:=L_inj ⟨x',p1⟩ ⟨x,hx16⟩ hl
     simp only [Fin.mk.injEq] at this
     subst this
     obtain ⟨u',y',t',r1,r2,r3,r4,r5,r6,r7,_⟩:=keyw _ _ p3
     obtain rfl:t = u':=by omega
     obtain rfl:x' ^^^ 1 = y':=by omega
     rw [hb] at r4
     rw [hxx,← r4] at r7
     exact hm r7
   rw [red_loop rS rT q1 q2] at he
   simp at he
 ·intro hm
  obtain ⟨u',y',t',r1,r2,r3,r4,r5,r6,r7,r8,r9⟩:=keyw _ _ hm
  obtain rfl:s = u':=by omega
  obtain rfl:x = y':=by omega
  rw [ht] at r4
  obtain rfl:t = t':=by omega
  rw [hPS,hPT] at r9
  rcases r9 with r9 | r9
  ·rw [r9] at rT ⊢
   exact red_tree1 rT
  ·rw [r9] at rS ⊢
   rw [← L_other ⟨x,hx16⟩] at rS ⊢
   exact red_tree2 rS
end Go.Proofs.YtffdjfkekdoeaaaDoor.Pl
end
section
set_option maxRecDepth 4000
set_option maxHeartbeats 2000000
namespace Go.Proofs.YtffdjfkekdoeaaaDoor.Pl
open Fo Rf Wd
def Rd:List Nat → Prop
 | x :: y :: l=>y ≠ x ^^^ 1 ∧ Rd (y :: l)
 | _=>True
theorem Rd_snoc:∀ (l:List Nat) (x:Nat),Rd l → (∀ y,l.getLast? = some y → x ≠ y ^^^ 1) → Rd (l ++ [x])
 | [],x,_,_=>trivial
 | [a],x,_,h=>⟨h a rfl,trivial⟩
 | a :: b :: l,x,h,hx=>⟨h.1,Rd_snoc (b :: l) x h.2 fun y hy=>hx y (by rw [List.getLast?_cons_cons]; exact hy)⟩
theorem red_snoc {l:List UInt8} (h:RedL l) (c:UInt8):RedL (redStep l c):=by
 unfold redStep
 split
 ·rename_i hl
  rcases List.eq_nil_or_concat l with rfl | ⟨q,d,rfl⟩
  ·exact RedL.nil
  ·rw [List.concat_eq_append] at h ⊢
   rw [List.dropLast_concat]
   exact (RedL.inv h).1
 ·rename_i hl
  exact RedL.snoc h hl
theorem red_fold:∀ (l out:List UInt8),RedL out → RedL (l.foldl redStep out)
 | [],out,h=>h
 | c :: l,out,h=>red_fold l _ (red_snoc h c)
theorem redF_red (l:List UInt8):RedL (redF l):=red_fold l [] RedL.nil
theorem L_of:∀ n:Fin 256,0 ≤ idxF (n.val:Int) → n.val ≤ 127 → ∃ x:Fin 16,UInt8.ofNat n.val = L x.val:=by decide
theorem rd_map:∀ (n:Nat) (l:List UInt8),l.length = n → RedL l → (∀ b ∈ l,∃ x,x < 16 ∧ b = L x) → Rd (l.map fun b=>(idxF (ofB b)).toNat):=by
 intro n
 induction n with
 | zero=>intro l hl _ _; rw [List.length_eq_zero_iff.1 hl]; trivial
 | succ n ih=>
  intro l hl hr hg
  rcases List.eq_nil_or_concat l with rfl | ⟨q,c,rfl⟩
  ·trivial
  ·rw [List.concat_eq_append] at *
   obtain ⟨h1,h2⟩:=RedL.inv hr
   rw [List.map_append]
   refine Rd_snoc _ _ (ih q (by simp at hl; exact hl) h1 fun b hb=>hg b (by simp [hb])) fun y hy=>?_
   rw [List.getLast?_map] at hy
   cases hq:q.getLast? with
   | none=>rw [hq] at hy; cases hy
   | some d=>
    rw [hq] at hy
    simp only [Option.map_some,Option.some.injEq] at hy
    obtain ⟨x,hx,rfl⟩:=hg c (by simp)
    obtain ⟨z,hz,rfl⟩:=hg d (by simp [List.mem_of_getLast? hq])
    have e1:=L_idx ⟨x,hx⟩
    have e2:=L_idx ⟨z,hz⟩
    dsimp only at e1 e2
    rw [e2] at hy
    simp only [List.map_cons,e1,Int.toNat_natCast] at hy ⊢
    subst hy
    intro he
    refine h2 ?_
    rw [hq]
    have:=L_other ⟨x,hx⟩
    dsimp only at this
    rw [this,he,xor_two]
theorem rd_word {k:Int} {s:ByteArray} (h:checkF k s = 0):Rd (wordF s):=by
 obtain ⟨h1,h2,h3,h4⟩:=check_bad h
 unfold hasBad at h4
 rw [List.any_eq_false] at h4
 have hb:∀ b ∈ s.data.toList,badF k (ofB b) = false:=fun b hb=>by simpa [ofB] using h4 b hb
 refine rd_map _ _ rfl (redF_red _) fun b hx=>?_
 have:=redFold_mem (P:=fun b=>badF k (ofB b) = false) s.data.toList [] (by simp) hb b hx
 simp only [badF,Bool.or_eq_false_iff,ofB] at this
 have t1:=of_decide_eq_false this.1
 have t2:=of_decide_eq_false this.2.1
 obtain ⟨x,hx⟩:=L_of ⟨b.toNat,UInt8.toNat_lt b⟩ (by dsimp only; omega) (by dsimp only; omega)
 refine ⟨x.val,x.isLt,?_⟩
 dsimp only at hx
 rw [← hx]
 simp
def cE (v:Nat) (e:Ed):Nat:=(if e.1 = v then 1 else 0) + (if e.2.2 = v then 1 else 0)
theorem degE_cons (v:Nat) (e:Ed) (l:List Ed):degE (e :: l) v = cE v e + degE l v:=by obtain ⟨f,x,t⟩:=e; rfl
theorem degE_mem {v:Nat} {e:Ed}:∀ {l:List Ed},e ∈ l → cE v e ≤ degE l v
 | [],h=>by simp at h
 | d :: l,h=>by
  rw [degE_cons]
  rcases List.mem_cons.1 h with rfl | h
  ·omega
  ·have:=degE_mem (v:=v) h; omega
theorem degE_two {v:Nat} {e e':Ed} (hne:e ≠ e'):∀ {l:List Ed},e ∈ l → e' ∈ l → cE v e + cE v e' ≤ degE l v
 | [],h,_=>by simp at h
 | d :: l,h,h'=>by
  rw [degE_cons]
  rcases List.mem_cons.1 h with h1 | h1 <;> rcases List.mem_cons.1 h' with h2 | h2
  ·exact absurd (h1.trans h2.symm) hne
  ·have:=degE_mem (v:=v) h2; rw [← h1]; omega
  ·have:=degE_mem (v:=v) h1; rw [← h2]; omega
  ·have:=degE_two (v:=v) hne h1 h2; omega
theorem degE_split (v:Nat) (p q:List Ed) (e:Ed):degE (p ++ e :: q) v = degE p v + cE v e + degE q v:=by
 rw [degE_app,degE_cons]; omega
theorem degE_pos {v:Nat}:∀ {l:List Ed},0 < degE l v → ∃ e ∈ l,0 < cE v e
 | [],h=>by simp [degE] at h
 | d :: l,h=>by
  rw [degE_cons] at h
  by_cases hd:0 < cE v d
  ·exact ⟨d,by simp,hd⟩
  ·obtain ⟨e,he,h1⟩:=degE_pos (v:=v) (l:=l) (by omega)
   exact ⟨e,by simp [he],h1⟩
theorem dir_two {es:List Ed} {v x t x' t':Nat} (h:Dir es v x t) (h':Dir es v x' t') (hx:x ≠ x'):2 ≤ degE es v:=by
 rcases h with ⟨a,b⟩ | ⟨a,b⟩ <;> rcases h' with ⟨a',b'⟩ | ⟨a',b'⟩
 ·have:=degE_two (v:=v) (fun he=>hx (by simp only [Prod.mk.injEq] at he; omega)) b b'
  simp only [cE,if_true] at this; omega
 ·by_cases he:(v,x,t) = (t',x' - 1,v)
  ·simp only [Prod.mk.injEq] at he
   have:=degE_mem (v:=v) b
   obtain ⟨_,_,rfl⟩:=he
   simp only [cE,if_true] at this; omega
  ·have:=degE_two (v:=v) he b b'
   simp only [cE,if_true] at this; omega
 ·by_cases he:(t,x - 1,v) = (v,x',t')
  ·simp only [Prod.mk.injEq] at he
   have:=degE_mem (v:=v) b'
   obtain ⟨_,_,rfl⟩:=he
   simp only [cE,if_true] at this; omega
  ·have:=degE_two (v:=v) he b b'
   simp only [cE,if_true] at this; omega
 ·have:=degE_two (v:=v) (fun he=>hx (by simp only [Prod.mk.injEq] at he; omega)) b b'
  simp only [cE,if_true] at this; omega
theorem Uq.split {p q:List Ed} {e:Ed} (h:Uq (p ++ e :: q)) (hm:e ∈ p ++ q):e.1 = 0 ∧ e.2.2 = 0:=by
 obtain ⟨_,h2,h3⟩:=List.pairwise_append.1 h
 obtain ⟨h4,_⟩:=List.pairwise_cons.1 h2
 rcases List.mem_append.1 hm with hm | hm
 ·exact h3 e hm e (by simp) rfl
 ·exact h4 e hm rfl
theorem dir_more {es:List Ed} (he:Evn es) (hu:Uq es) (hd:Det es) {s x t:Nat} (hs:s ≠ 0) (h:Dir es s x t) (h2:2 ≤ degE es s):∃ x' t',x' ≠ x ∧ Dir es s x' t':=by
 by_cases hl:t = s
 ·subst hl
  exact ⟨x ^^^ 1,t,xor_ne x,h.back⟩
 have key:∀ e:Ed,e ∈ es → cE s e ≤ 1 → (∀ e',e' ∈ es → 0 < cE s e' → (∃ x' t',x' ≠ x ∧ Dir es s x' t') ∨ e' = e) → (e.1 ≠ 0 ∨ e.2.2 ≠ 0) → ∃ x' t',x' ≠ x ∧ Dir es s x' t':=fun e hm h1 hcase h0=>by
  obtain ⟨p,q,rfl⟩:=List.append_of_mem hm
  rw [degE_split] at h2
  have:0 < degE (p ++ q) s:=by rw [degE_app]; omega
  obtain ⟨e',he',hc⟩:=degE_pos this
  have hmem:e' ∈ p ++ e :: q:=by
   rcases List.mem_append.1 he' with h | h
   ·simp [h]
   ·simp [h]
  rcases hcase e' hmem hc with h | rfl
  ·exact h
  ·have:=hu.split he'
   omega
 have ends:∀ e':Ed,e' ∈ es → 0 < cE s e' → ∃ x' t',Dir es s x' t' ∧ ((x' % 2 = 0 ∧ e' = (s,x',t')) ∨ (x' % 2 = 1 ∧ e' = (t',x' - 1,s))):=fun e' hm hc=>by
  obtain ⟨f,y,u⟩:=e'
  have hy:=he _ hm
  dsimp only at hy
  unfold cE at hc
  dsimp only at hc
  by_cases hf:f = s
  ·subst hf
   exact ⟨y,u,.inl ⟨hy,hm⟩,.inl ⟨hy,rfl⟩⟩
  ·by_cases ht:u = s
   ·subst ht
    exact ⟨y + 1,f,.inr ⟨by omega,hm⟩,.inr ⟨by omega,rfl⟩⟩
   ·rw [if_neg hf,if_neg ht] at hc; omega
 have h':=h
 rcases h with ⟨a,b⟩ | ⟨a,b⟩
 ·refine key (s,x,t) b (by unfold cE; rw [if_pos rfl,if_neg hl]; omega) (fun e' hm hc=>?_) (.inl hs)
  obtain ⟨x',t',h1,h3⟩:=ends e' hm hc
  by_cases hx:x' = x
  ·subst hx
   have:=hd _ _ _ _ h1 h'
   subst this
   rcases h3 with ⟨_,h3⟩ | ⟨h3,_⟩
   ·exact .inr h3
   ·omega
  ·exact .inl ⟨x',t',hx,h1⟩
 ·refine key (t,x - 1,s) b (by unfold cE; rw [if_pos (rfl:(t,x - 1,s).2.2 = s),if_neg hl]; omega) (fun e' hm hc=>?_) (.inr hs)
  obtain ⟨x',t',h1,h3⟩:=ends e' hm hc
  by_cases hx:x' = x
  ·subst hx
   have:=hd _ _ _ _ h1 h'
   subst this
   rcases h3 with ⟨h3,_⟩ | ⟨_,h3⟩
   ·omega
   ·exact .inr h3
  ·exact .inl ⟨x',t',hx,h1⟩
theorem leafI_some {all:Bool} {es:List Ed}:∀ {l pre res:List Ed},leafI all es pre l = some res → ∃ p e q,pre ++ l = p ++ e :: q ∧ res = p ++ q ∧ leafE all es e = true
 | [],pre,res,h=>by simp [leafI] at h
 | d :: l,pre,res,h=>by
  simp only [leafI] at h
  split at h
  ·rename_i hd
   cases h
   exact ⟨pre,d,l,rfl,rfl,hd⟩
  ·obtain ⟨p,e,q,h1,h2,h3⟩:=leafI_some h
   exact ⟨p,e,q,by rw [← h1]; simp,h2,h3⟩
theorem leafI_none {all:Bool} {es:List Ed}:∀ {l pre:List Ed},leafI all es pre l = none → ∀ e ∈ l,leafE all es e = false
 | [],pre,_=>fun e he=>by simp at he
 | d :: l,pre,h=>by
  simp only [leafI] at h
  split at h
  ·cases h
  ·rename_i hd
   intro e he
   rcases List.mem_cons.1 he with rfl | he
   ·simpa using hd
   ·exact leafI_none h e he
theorem prunedE_mono {all:Bool}:∀ (K K':Nat) (es res:List Ed),K ≤ K' → prunedE all K es = some res → prunedE all K' es = some res
 | 0,K',es,res,_,h=>by simp [prunedE] at h
 | K + 1,0,es,res,hK,_=>by omega
 | K + 1,K' + 1,es,res,hK,h=>by
  simp only [prunedE] at h ⊢
  split at h
  ·exact h
  ·exact prunedE_mono K K' _ res (by omega) h
structure Pr (es res:List Ed):Prop where
 sub:res.Sublist es
 max:∀ S,Part 0 S → (∀ s x t,S s x t → Dir es s x t) → ∀ s x t,S s x t → Dir res s x t
 two:∀ s x t,Dir res s x t → s ≠ 0 → ∃ x' t',x' ≠ x ∧ Dir res s x' t'
theorem Det.sub {es es':List Ed} (h:Det es) (hs:∀ e ∈ es',e ∈ es):Det es':=fun s x t t' h1 h2=>h s x t t' (h1.mono hs) (h2.mono hs)
theorem prunedE_ev:∀ (n:Nat) (es:List Ed),es.length ≤ n → Evn es → Uq es → Det es → ∃ K res,prunedE false K es = some res ∧ Pr es res:=by
 intro n
 induction n with
 | zero=>
  intro es hn _ _ _
  rw [List.length_eq_zero_iff.1 (Nat.le_zero.1 hn)]
  exact ⟨1,[],rfl,List.Sublist.refl _,fun S _ hS s x t h=>hS s x t h,fun s x t h=>by simp [Dir] at h⟩
 | succ n ih=>
  intro es hn he hu hd
  cases hl:leafI false es [] es with
  | none=>
   refine ⟨1,es,by simp only [prunedE,hl],List.Sublist.refl _,fun S _ hS s x t h=>hS s x t h,fun s x t h hs=>?_⟩
   have hno:=leafI_none hl
   refine dir_more he hu hd hs h ?_
   have hpos:1 ≤ degE es s:=by
    rcases h with ⟨_,b⟩ | ⟨_,b⟩
    ·have:=degE_mem (v:=s) b
     unfold cE at this; rw [if_pos rfl] at this; omega
    ·have:=degE_mem (v:=s) b
     unfold cE at this; rw [if_pos (rfl:(t,x - 1,s).2.2 = s)] at this; omega
   have hne:degE es s ≠ 1:=fun h1=>by
    rcases h with ⟨_,b⟩ | ⟨_,b⟩
    ·have:=hno _ b
     simp only [leafE,Bool.or_eq_false_iff,decide_eq_false_iff_not] at this
     exact this.1 ⟨h1,.inl hs⟩
    ·have:=hno _ b
     simp only [leafE,Bool.or_eq_false_iff,decide_eq_false_iff_not] at this
     exact this.2 ⟨h1,.inl hs⟩
   omega
  | some es'=>
   obtain ⟨p,e,q,h1,rfl,h3⟩:=leafI_some hl
   rw [List.nil_append] at h1
   subst h1
   have hsub:(p ++ q).Sublist (p ++ e :: q):=List.Sublist.append_left (List.sublist_cons_self e q) p
   have hmem:∀ d ∈ p ++ q,d ∈ p ++ e :: q:=fun d hd=>hsub.mem hd
   obtain ⟨K,res,k1,k2⟩:=ih (p ++ q) (by simp at hn ⊢; omega) (fun d hd=>he d (hmem d hd)) (List.Pairwise.sublist hsub hu) (hd.sub hmem)
   refine ⟨K + 1,res,by simp only [prunedE,hl]; exact k1,k2.sub.trans hsub,fun S hS hSE=>k2.max S hS fun s x t h=>?_,k2.two⟩
   -- the edge is in no part
   have hno:∀ v y u,S v y u → v ≠ 0 → degE (p ++ e :: q) v ≠ 1:=fun v y u hv hv0 h1=>by
    obtain ⟨y',u',hy,hv'⟩:=hS.two v y u hv hv0
    have:=dir_two (hSE _ _ _ hv) (hSE _ _ _ hv') (fun h=>hy h.symm)
    omega
   have hE:∀ v y u,S v y u → ¬ ((v,y,u) = e ∨ (u,y - 1,v) = e):=fun v y u hv hc=>by
    have hb:=hS.inv _ _ _ hv
    simp only [leafE,Bool.or_eq_true,decide_eq_true_iff] at h3
    simp only [Bool.false_eq_true,or_false] at h3
    rcases hc with rfl | rfl <;> rcases h3 with ⟨h4,h5⟩ | ⟨h4,h5⟩
    ·exact hno _ _ _ hv h5 h4
    ·exact hno _ _ _ hb h5 h4
    ·exact hno _ _ _ hb h5 h4
    ·exact hno _ _ _ hv h5 h4
   have hne:=hE s x t h
   have drop:∀ d:Ed,d ∈ p ++ e :: q → d ≠ e → d ∈ p ++ q:=fun d hd hde=>by
    rcases List.mem_append.1 hd with hd | hd
    ·simp [hd]
    ·rcases List.mem_cons.1 hd with hd | hd
     ·exact absurd hd hde
     ·simp [hd]
   rcases hSE s x t h with ⟨a,b⟩ | ⟨a,b⟩
   ·exact .inl ⟨a,drop _ b fun h=>hne (.inl h)⟩
   ·exact .inr ⟨a,drop _ b fun h=>hne (.inr h)⟩
end Go.Proofs.YtffdjfkekdoeaaaDoor.Pl
end
section
set_option maxRecDepth 4000
set_option maxHeartbeats 2000000
namespace Go.Proofs.YtffdjfkekdoeaaaDoor.Pl
open Fo Rf Wd
theorem idxOf_map {φ:Nat → Nat} {P:Nat → Prop} (inj:∀ u v,P u → P v → φ u = φ v → u = v):∀ (q:List Nat) (t:Nat),(∀ v ∈ q,P v) → P t → (q.map φ).idxOf (φ t) = q.idxOf t
 | [],t,_,_=>rfl
 | v :: l,t,hq,ht=>by
  rw [List.map_cons,List.idxOf_cons,List.idxOf_cons,idxOf_map inj l t (fun u hu=>hq u (by simp [hu])) ht]
  by_cases h:v = t
  ·subst h; simp
  ·have:φ v ≠ φ t:=fun he=>h (inj _ _ (hq v (by simp)) ht he)
   rw [show (φ v == φ t) = false by simpa using this,show (v == t) = false by simpa using h]
theorem bfsRow_map {φ:Nat → Nat} {P:Nat → Prop} (inj:∀ u v,P u → P v → φ u = φ v → u = v):∀ (row:Row) (q:List Nat),(∀ t,some t ∈ row → P t) → (∀ v ∈ q,P v) →
  bfsRow (row.map (Option.map φ)) (q.map φ) = ((bfsRow row q).1.map φ,(bfsRow row q).2) ∧ ∀ v ∈ (bfsRow row q).1,P v
 | [],q,_,hq=>⟨rfl,hq⟩
 | none :: l,q,hr,hq=>by
  obtain ⟨h1,h2⟩:=bfsRow_map inj l q (fun t ht=>hr t (by simp [ht])) hq
  simp only [List.map_cons,Option.map_none,bfsRow]
  rw [h1]
  exact ⟨rfl,h2⟩
 | some t :: l,q,hr,hq=>by
  have ht:=hr t (by simp)
  have hmem:φ t ∈ q.map φ ↔ t ∈ q:=by
   constructor
   ·intro h
    obtain ⟨v,hv,he⟩:=List.mem_map.1 h
    rw [← inj v t (hq v hv) ht he]; exact hv
   ·exact List.mem_map_of_mem
  simp only [List.map_cons,Option.map_some,bfsRow]
  by_cases h:t ∈ q
  ·obtain ⟨h1,h2⟩:=bfsRow_map inj l q (fun t ht=>hr t (by simp [ht])) hq
   rw [if_pos h,if_pos (hmem.2 h),h1,idxOf_map inj q t hq ht]
   exact ⟨rfl,h2⟩
  ·have hq':∀ v ∈ q ++ [t],P v:=fun v hv=>by
    rcases List.mem_append.1 hv with hv | hv
    ·exact hq v hv
    ·simp only [List.mem_singleton] at hv; subst hv; exact ht
   obtain ⟨h1,h2⟩:=bfsRow_map inj l (q ++ [t]) (fun t ht=>hr t (by simp [ht])) hq'
   rw [if_neg h,if_neg (fun hh=>h (hmem.1 hh)),List.length_map]
   rw [List.map_append] at h1
   simp only [List.map_cons,List.map_nil] at h1
   rw [h1]
   exact ⟨rfl,h2⟩
theorem num_map {φ:Nat → Nat} {P:Nat → Prop} (inj:∀ u v,P u → P v → φ u = φ v → u = v) {k:Nat} {es:List Ed} {ρ:Nat → Row} (hρ:∀ v,P v → rowE k es (φ v) = (ρ v).map (Option.map φ)) (hP:∀ v,P v → ∀ t,some t ∈ ρ v → P t) :
  ∀ (K i:Nat) (q:List Nat) (out:List Row),(∀ v ∈ q,P v) → numE k es K i (q.map φ) out = numG ρ K i q out
 | 0,_,_,_,_=>rfl
 | K + 1,i,q,out,hq=>by
  simp only [numE,numG,List.getElem?_map]
  cases hv:q[i]? with
  | none=>rfl
  | some v=>
   have hpv:=hq v (List.mem_of_getElem? hv)
   obtain ⟨h1,h2⟩:=bfsRow_map inj (ρ v) q (hP v hpv) hq
   simp only [Option.map_some]
   rw [hρ v hpv,h1]
   exact num_map inj hρ hP K (i + 1) _ _ h2
theorem stepE_dir {x:Nat}:∀ {es:List Ed} {v t:Nat},stepE es v x = some t → Dir es v x t
 | [],v,t,h=>by simp [stepE] at h
 | (f,y,u) :: l,v,t,h=>by
  simp only [stepE] at h
  split at h
  ·rename_i hc
   cases h
   obtain ⟨h1,rfl,rfl⟩:=hc
   exact .inl ⟨h1,by simp⟩
  ·split at h
   ·rename_i hc
    cases h
    obtain ⟨h1,rfl,rfl⟩:=hc
    exact .inr ⟨h1,by simp⟩
   ·exact (stepE_dir h).mono fun e he=>by simp [he]
theorem dir_step {x:Nat}:∀ {es:List Ed} {v t:Nat},Dir es v x t → ∃ t',stepE es v x = some t'
 | [],v,t,h=>by simp [Dir] at h
 | (f,y,u) :: l,v,t,h=>by
  simp only [stepE]
  split
  ·exact ⟨_,rfl⟩
  ·rename_i h1
   split
   ·exact ⟨_,rfl⟩
   ·rename_i h2
    refine dir_step (t:=t) ?_
    rcases h with ⟨a,b⟩ | ⟨a,b⟩
    ·refine .inl ⟨a,?_⟩
     rcases List.mem_cons.1 b with b | b
     ·simp only [Prod.mk.injEq] at b
      exact absurd ⟨a,b.2.1.symm,b.1.symm⟩ h1
     ·exact b
    ·refine .inr ⟨a,?_⟩
     rcases List.mem_cons.1 b with b | b
     ·simp only [Prod.mk.injEq] at b
      exact absurd ⟨a,by omega,b.2.2.symm⟩ h2
     ·exact b
theorem stepE_iff {es:List Ed} (hd:Det es) {v x t:Nat}:stepE es v x = some t ↔ Dir es v x t:=by
 constructor
 ·exact stepE_dir
 ·intro h
  obtain ⟨t',h'⟩:=dir_step h
  rw [h',hd _ _ _ _ (stepE_dir h') h]
section
variable {E:List Edg} {st:St} {es0 es1 es2:List Ed} {r:Nat → Nat} {rows':List (Option Row)} {k:Nat} {o:Option (List Row)}
theorem Root.sm {par:List Nat} {u p:Nat} (h:Root par u p):Sm par u p:=⟨p,h,h.self⟩
structure Two (E:List Edg) (st:St) (es0 es1:List Ed) (r:Nat → Nat):Prop where
 inv:Inv E st
 hE:∀ s x t,(s,x,t) ∈ E ↔ Dir es0 s x t
 rep:Rep E es0 es1 r
 det:Det es1
theorem Two.inj (h:Two E st es0 es1 r) {u v:Nat} (hu:Root st.par u u) (hv:Root st.par v v) (he:r u = r v):u = v:=by
 obtain ⟨p,a,b⟩:=h.inv.same_iff hu.lt_left ((h.rep.cg h.hE h.det).1 he)
 rw [hu.unique a,hv.unique b]
theorem Two.root (h:Two E st es0 es1 r) {u p:Nat} (hu:Root st.par u p):r u = r p:=(h.rep.cg h.hE h.det).2 (h.inv.snd.par _ _ hu.sm)
theorem Two.to (h:Two E st es0 es1 r) {s x t:Nat}:To (rowsS st.par 0 st.next) s x t ↔ Root st.par s s ∧ Root st.par t t ∧ Dir es1 (r s) x (r t):=by
 rw [to_rows h.inv]
 constructor
 ·rintro ⟨u,h1,h2,h3⟩
  obtain ⟨s',e1,e2⟩:=h.inv.snd.ent s x u h2
  refine ⟨h1,h3.self,(h.rep.dir h.hE).2 ⟨s',u,e1,((h.rep.cg h.hE h.det).2 e2).symm,h.root h3⟩⟩
 ·rintro ⟨h1,h2,h3⟩
  obtain ⟨s0,t0,e1,e2,e3⟩:=(h.rep.dir h.hE).1 h3
  obtain ⟨p,t1,a1,a2,a3⟩:=h.inv.cm s0 x t0 e1
  rw [h.inv.todo] at a3
  have a3:=Eqv.nil (fun _ _ _=>Sm.trans) a3
  have hs0:=a1.lt_left
  obtain ⟨z,c1,c2⟩:=h.inv.same_iff hs0 ((h.rep.cg h.hE h.det).1 e2)
  have hz:z = s:=c2.unique h1
  subst hz
  have hp:p = z:=a1.unique c1
  subst hp
  have ht0:t0 < st.par.length:=by obtain ⟨q,_,hq⟩:=a3; exact hq.lt_left
  obtain ⟨z',d1,d2⟩:=a3.trans (h.inv.same_iff ht0 ((h.rep.cg h.hE h.det).1 e3))
  have hz':z' = t:=d2.unique h2
  subst hz'
  exact ⟨t1,h1,a2,d1⟩
theorem Two.reach (h:Two E st es0 es1 r) {u x v:Nat} (hd:Dir es1 u x v):∃ t,Root st.par t t ∧ r t = v:=by
 obtain ⟨d,hf⟩:=h.inv.ok.forest
 obtain ⟨s0,t0,e1,e2,e3⟩:=(h.rep.dir h.hE).1 hd
 obtain ⟨p,t1,a1,a2,a3⟩:=h.inv.cm s0 x t0 e1
 rw [h.inv.todo] at a3
 obtain ⟨q,_,hq⟩:=Eqv.nil (fun _ _ _=>Sm.trans) a3
 exact ⟨q,hq.self,by rw [← e3]; exact (h.root hq).symm⟩
theorem Two.cut (h:Two E st es0 es1 r) {m:Nat} {start:Nat} (hs:Root st.par start start) (hs0:r start = 0) (hm:MadeOf m start (rowsS st.par 0 st.next) rows' o) (hp:Pr es1 es2) {s x t:Nat} :
  To rows' s x t ↔ Root st.par s s ∧ Root st.par t t ∧ Dir es2 (r s) x (r t):=by
 have hsub:∀ e ∈ es2,e ∈ es1:=fun e he=>hp.sub.mem he
 constructor
 ·intro ht
  obtain ⟨h1,h2,_⟩:=h.to.1 (hm.cut.sub _ _ _ ht)
  refine ⟨h1,h2,hp.max (fun a x b=>∃ s t,r s = a ∧ r t = b ∧ To rows' s x t) ⟨?_,?_⟩ ?_ _ _ _ ⟨s,t,rfl,rfl,ht⟩⟩
  ·rintro _ x _ ⟨s,t,rfl,rfl,ht⟩
   exact ⟨t,s,rfl,rfl,hm.wf.inv _ _ _ ht⟩
  ·rintro _ x _ ⟨s,t,rfl,rfl,ht⟩ hne
   obtain ⟨x',t',hx,ht'⟩:=hm.two s x t ht fun he=>hne (by rw [he]; exact hs0)
   exact ⟨x',r t',hx,s,t',rfl,rfl,ht'⟩
  ·rintro _ x _ ⟨s,t,rfl,rfl,ht⟩
   exact (h.to.1 (hm.cut.sub _ _ _ ht)).2.2
 ·intro hh
  refine hm.cut.max (fun s x t=>Root st.par s s ∧ Root st.par t t ∧ Dir es2 (r s) x (r t)) ⟨?_,?_⟩ ?_ s x t hh
  ·rintro s x t ⟨h1,h2,h3⟩
   exact ⟨h2,h1,h3.back⟩
  ·rintro s x t ⟨h1,h2,h3⟩ hne
   obtain ⟨x',t',hx,hd⟩:=hp.two _ _ _ h3 fun he=>hne (h.inj h1 hs (he.trans hs0.symm))
   obtain ⟨q,hq,rfl⟩:=h.reach (hd.mono hsub)
   exact ⟨x',q,hx,h1,hq,hd⟩
  ·rintro s x t ⟨h1,h2,h3⟩
   exact h.to.2 ⟨h1,h2,h3.mono hsub⟩
theorem Two.num (h:Two E st es0 es1 r) {start:Nat} (hs:Root st.par start start) (hs0:r start = 0) (hm:MadeOf (2 * k) start (rowsS st.par 0 st.next) rows' o) (hp:Pr es1 es2) (K:Nat) :
  numE k es2 K 0 [0] [] = numG (rowOf rows') K 0 [start] []:=by
 have hsub:∀ e ∈ es2,e ∈ es1:=fun e he=>hp.sub.mem he
 have hdet:=h.det.sub hsub
 have hlive:∀ v,Root st.par v v → Live rows' v:=fun v hv=>(hm.cut.live v).2 ((live_rows h.inv).2 hv)
 have:=num_map (φ:=r) (P:=fun v=>Root st.par v v) (fun u v hu hv he=>h.inj hu hv he) (k:=k) (es:=es2) (ρ:=rowOf rows') (fun v hv=>?_) (fun v hv t ht=>?_) K 0 [start] [] (fun v hv=>by simp only [List.mem_singleton] at hv; subst hv; exact hs)
 ·rw [List.map_cons,List.map_nil,hs0] at this
  exact this
 ·obtain ⟨e1,e2,e3⟩:=row_live hm.wf (hlive v hv)
  apply List.ext_getElem?
  intro x
  rw [List.getElem?_map]
  by_cases hx:x < 2 * k
  ·rw [rowE_get hx]
   have hxr:x < (rowOf rows' v).length:=by rw [e2]; exact hx
   rw [List.getElem?_eq_getElem hxr]
   simp only [Option.map_some,Option.some.injEq]
   cases ho:(rowOf rows' v)[x] with
   | none=>
    cases hst:stepE es2 (r v) x with
    | none=>rfl
    | some u=>
     exfalso
     have hd:=stepE_dir hst
     obtain ⟨q,hq,rfl⟩:=h.reach (hd.mono hsub)
     obtain ⟨row,h1,h2⟩:=(h.cut hs hs0 hm hp).2 ⟨hv,hq,hd⟩
     rw [e1] at h1
     cases h1
     rw [List.getElem?_eq_getElem hxr,ho] at h2
     cases h2
   | some t=>
    have ht:To rows' v x t:=⟨_,e1,by rw [List.getElem?_eq_getElem hxr,ho]⟩
    exact (stepE_iff hdet).2 ((h.cut hs hs0 hm hp).1 ht).2.2
  ·rw [List.getElem?_eq_none (by rw [rowE_len]; omega),List.getElem?_eq_none (by rw [e2]; omega)]; rfl
 ·obtain ⟨e1,e2,e3⟩:=row_live hm.wf (hlive v hv)
  obtain ⟨x,hx⟩:=List.getElem?_of_mem ht
  exact ((h.cut hs hs0 hm hp).1 ⟨_,e1,hx⟩).2.1
end
theorem numE_mono {k:Nat} {es:List Ed}:∀ (K K' i:Nat) (q:List Nat) (out res:List Row),K ≤ K' → numE k es K i q out = some res → numE k es K' i q out = some res
 | 0,_,_,_,_,_,_,h=>by simp [numE] at h
 | K + 1,0,_,_,_,_,h,_=>by omega
 | K + 1,K' + 1,i,q,out,res,hK,h=>by
  simp only [numE] at h ⊢
  split at h
  ·exact h
  ·exact numE_mono K K' _ _ _ res (by omega) h
theorem stall_ev {E:List Edg} {st:St} (hi:Inv E st) {es0:List Ed} (hE:∀ s x t,(s,x,t) ∈ E ↔ Dir es0 s x t) (he:Evn es0) {B:Nat} (hB:InB B es0) (hu:Uq es0) {k:Nat} (h0:0 < st.par.length) {rows':List (Option Row)} {o:Option (List Row)}
  (hm:MadeOf (2 * k) (rt st.par 0) (rowsS st.par 0 st.next) rows' o) :
  ∃ K res,stallF k K es0 = some res ∧ ((o = some res ∧ res.length ≤ 2000) ∨ (o = none ∧ 2000 < res.length)):=by
 obtain ⟨K1,es1,r,a1,a2,a3,a4⟩:=folded_ev hE he hB _ es0 (fun v=>v) ⟨fun e=>⟨fun h=>⟨e,h,rfl⟩,fun ⟨e0,h,heq⟩=>heq ▸ h⟩,fun v=>.refl v,fun _=>rfl,fun _=>Nat.le_refl _⟩ hu (Nat.le_refl _)
 have he1:Evn es1:=fun e h=>by
  obtain ⟨e0,h0,rfl⟩:=(a2.img e).1 h
  exact he e0 h0
 obtain ⟨K2,es2,b1,b2⟩:=prunedE_ev _ es1 (Nat.le_refl _) he1 a3 a4
 have h2:Two E st es0 es1 r:=⟨hi,hE,a2,a4⟩
 obtain ⟨d,hf⟩:=hi.ok.forest
 obtain ⟨p,hp⟩:=hf.root _ 0 (Nat.le_refl _) h0
 have hrt:=rt_spec hp
 rw [hrt] at hm
 have hp0:r p = 0:=by
  rw [← h2.root hp]
  have:=a2.le 0
  omega
 have key:∀ (K3:Nat) (res:List Row),numG (rowOf rows') K3 0 [p] [] = some res → stallF k (K1 + K2 + K3) es0 = some res:=fun K3 res h=>by
  unfold stallF
  rw [foldedE_mono K1 _ _ _ (by omega) a1]
  simp only
  rw [prunedE_mono K2 _ _ _ (by omega) b1]
  simp only
  refine numE_mono K3 _ _ _ _ _ (by omega) ?_
  rw [h2.num hp.self hp0 hm b2]
  exact h
 cases ho:o with
 | some res=>
  obtain ⟨⟨K3,h3⟩,hl⟩:=hm.yes res ho
  exact ⟨_,res,key K3 res h3,.inl ⟨rfl,hl⟩⟩
 | none=>
  obtain ⟨res,⟨K3,h3⟩,hl⟩:=hm.no ho
  exact ⟨_,res,key K3 res h3,.inr ⟨rfl,hl⟩⟩
end Go.Proofs.YtffdjfkekdoeaaaDoor.Pl
end
section
set_option maxRecDepth 8000
set_option maxHeartbeats 4000000
namespace Go.Proofs.YtffdjfkekdoeaaaDoor.Fo
open Fw Wd Rf Pl
def autR (res:FoldR):Aut × Int:=match res with
 | .ok m nexts=>(autOf m nexts,0)
 | .err c=>(⟨0,0,[],[]⟩,c)
theorem bfsRow_length:∀ (row:Row) (q:List Nat),(bfsRow row q).2.length = row.length
 | [],q=>rfl
 | none :: l,q=>by simp only [bfsRow,List.length_cons,bfsRow_length l q]
 | some t :: l,q=>by
  simp only [bfsRow]
  split
  ·simp only [List.length_cons,bfsRow_length l q]
  ·simp only [List.length_cons,bfsRow_length l (q ++ [t])]
theorem numG_rows {ρ:Nat → Row} {m:Nat} (hρ:∀ v,(ρ v).length ≤ m):∀ (K i:Nat) (q:List Nat) (out res:List Row),(∀ r ∈ out,r.length ≤ m) → numG ρ K i q out = some res → ∀ r ∈ res,r.length ≤ m
 | 0,_,_,_,_,_,h=>by simp [numG] at h
 | K + 1,i,q,out,res,ho,h=>by
  simp only [numG] at h
  split at h
  ·cases h; exact ho
  ·rename_i v hv
   refine numG_rows hρ K _ _ _ res (fun r hr=>?_) h
   rcases List.mem_append.1 hr with hr | hr
   ·exact ho r hr
   ·simp only [List.mem_singleton] at hr
    subst hr
    rw [bfsRow_length]; exact hρ v
theorem autIn_zero (w:World):AutIn w ((0:Int),(0:Int),(⟨none,0,0⟩:Sl),(⟨none,0,0⟩:Sl),()) ⟨0,0,[],[]⟩:=
 ⟨rfl,rfl,⟨RdT.nil _ _ _ _,fun _ _=>Nat.zero_le _,fun _ _=>Nat.zero_le _,[],RdT.nil _ _ _ _,rfl,fun i s r hi=>by simp at hi,fun _ _ _ _=>Nat.zero_le _⟩,Nat.zero_le _,Nat.zero_le _,fun r hr=>by simp at hr⟩
theorem autIn_of {w:World} {sa sn:Sl} {m:Nat} {nexts:List Row} {B:Nat} (h:AutR B w sa sn (accF nexts.length) (nexts.map (·.map ofO))) (h1:nexts.length ≤ 2000) (h2:∀ r ∈ nexts,r.length ≤ 16):AutIn w ((m:Int),(0:Int),sa,sn,()) (autOf m nexts):=
 ⟨rfl,rfl,h.mono (Nat.zero_le _),by
  show (accF nexts.length).length ≤ maxLen
  rw [accF,List.length_map,List.length_range]; have:maxLen = 9223372036854775807:=rfl; omega,by
  show (nexts.map (·.map ofO)).length ≤ maxLen
  rw [List.length_map]; have:maxLen = 9223372036854775807:=rfl; omega,fun r hr=>by
  obtain ⟨r',hr',rfl⟩:=List.mem_map.1 hr
  rw [List.length_map]; have:=h2 r' hr'; have:maxLen = 9223372036854775807:=rfl; omega⟩
end Go.Proofs.YtffdjfkekdoeaaaDoor.Fo
end
section
set_option maxRecDepth 4000
set_option maxHeartbeats 2000000
namespace Go.Proofs.YtffdjfkekdoeaaaDoor.Pl
open Fo Rf Wd
def rdS (out:List Nat) (x:Nat):List Nat:=if out.getLast? = some (x ^^^ 1) then out.dropLast else out ++ [x]
def act (X l:List Nat):List Nat:=l.foldl rdS X
def rd (l:List Nat):List Nat:=act [] l
def inv (l:List Nat):List Nat:=(l.map (· ^^^ 1)).reverse
theorem act_app (X a b:List Nat):act X (a ++ b) = act (act X a) b:=List.foldl_append ..
theorem Rd.unsnoc:∀ {l:List Nat} {x:Nat},Rd (l ++ [x]) → Rd l ∧ l.getLast? ≠ some (x ^^^ 1)
 | [],x,_=>⟨trivial,by simp⟩
 | [a],x,h=>⟨trivial,fun he=>by
  have h:x ≠ a ^^^ 1 ∧ True:=h
  simp only [List.getLast?_singleton,Option.some.injEq] at he
  exact h.1 (by rw [he,xor_two])⟩
 | a :: b :: l,x,h=>by
  have h:b ≠ a ^^^ 1 ∧ Rd (b :: l ++ [x]):=h
  obtain ⟨h1,h2⟩:=Rd.unsnoc h.2
  exact ⟨⟨h.1,h1⟩,by rw [List.getLast?_cons_cons]; exact h2⟩
theorem Rd.snoc {l:List Nat} {x:Nat} (h:Rd l) (hx:l.getLast? ≠ some (x ^^^ 1)):Rd (l ++ [x]):=
 Rd_snoc l x h fun y hy he=>hx (by rw [hy,he,xor_two])
theorem rdS_rd {X:List Nat} (h:Rd X) (x:Nat):Rd (rdS X x):=by
 unfold rdS
 split
 ·rcases List.eq_nil_or_concat X with rfl | ⟨q,d,rfl⟩
  ·exact h
  ·rw [List.concat_eq_append] at h ⊢
   rw [List.dropLast_concat]
   exact (Rd.unsnoc h).1
 ·rename_i hx
  exact h.snoc hx
theorem act_rd {X:List Nat} (h:Rd X):∀ l:List Nat,Rd (act X l):=by
 intro l
 induction l generalizing X with
 | nil=>exact h
 | cons x l ih=>exact ih (rdS_rd h x)
theorem rd_rd (l:List Nat):Rd (rd l):=act_rd (X:=[]) trivial l
theorem rdS_two {X:List Nat} (h:Rd X) (x:Nat):rdS (rdS X x) (x ^^^ 1) = X:=by
 unfold rdS
 by_cases hx:X.getLast? = some (x ^^^ 1)
 ·rw [if_pos hx]
  rcases List.eq_nil_or_concat X with rfl | ⟨q,d,rfl⟩
  ·simp at hx
  ·rw [List.concat_eq_append] at h hx ⊢
   rw [List.dropLast_concat]
   simp only [List.getLast?_append,List.getLast?_singleton,Option.some_or,Option.some.injEq] at hx
   subst hx
   have:=(Rd.unsnoc h).2
   rw [if_neg this]
 ·rw [if_neg hx,if_pos (by rw [List.getLast?_append,xor_two]; rfl),List.dropLast_concat]
theorem rd_self:∀ (n:Nat) (l:List Nat),l.length = n → Rd l → rd l = l:=by
 intro n
 induction n with
 | zero=>intro l hl _; rw [List.length_eq_zero_iff.1 hl]; rfl
 | succ n ih=>
  intro l hl h
  rcases List.eq_nil_or_concat l with rfl | ⟨q,c,rfl⟩
  ·rfl
  ·rw [List.concat_eq_append] at *
   obtain ⟨h1,h2⟩:=Rd.unsnoc h
   show act [] (q ++ [c]) = _
   rw [act_app]
   have:act [] q = q:=ih q (by simpa using hl) h1
   rw [this]
   show rdS q c = _
   unfold rdS
   rw [if_neg h2]
theorem Rd.self {l:List Nat} (h:Rd l):rd l = l:=rd_self _ l rfl h
def Same (a b:List Nat):Prop:=∀ X,Rd X → act X a = act X b
theorem Same.refl (a:List Nat):Same a a:=fun _ _=>rfl
theorem Same.symm {a b:List Nat} (h:Same a b):Same b a:=fun X hX=>(h X hX).symm
theorem Same.trans {a b c:List Nat} (h:Same a b) (k:Same b c):Same a c:=fun X hX=>(h X hX).trans (k X hX)
theorem Same.app {a b c d:List Nat} (h:Same a b) (k:Same c d):Same (a ++ c) (b ++ d):=fun X hX=>by
 rw [act_app,act_app,h X hX,k _ (act_rd hX b)]
theorem same_pair (x:Nat):Same [x,x ^^^ 1] []:=fun X hX=>rdS_two hX x
theorem same_pair' (x:Nat):Same [x ^^^ 1,x] []:=by
 have:=same_pair (x ^^^ 1)
 rwa [xor_two] at this
theorem same_rdS (X:List Nat) (x:Nat):Same (rdS X x) (X ++ [x]):=by
 unfold rdS
 split
 ·rename_i hx
  rcases List.eq_nil_or_concat X with rfl | ⟨q,d,rfl⟩
  ·simp at hx
  ·rw [List.concat_eq_append] at hx ⊢
   rw [List.dropLast_concat]
   simp only [List.getLast?_append,List.getLast?_singleton,Option.some_or,Option.some.injEq] at hx
   subst hx
   rw [List.append_assoc]
   have:=(Same.refl q).app (same_pair' x)
   rw [List.append_nil] at this
   exact this.symm
 ·exact Same.refl _
theorem same_act:∀ (l X:List Nat),Same (act X l) (X ++ l)
 | [],X=>by rw [List.append_nil]; exact Same.refl _
 | x :: l,X=>by
  have h1:=same_act l (rdS X x)
  have h2:=(same_rdS X x).app (Same.refl l)
  rw [List.append_assoc] at h2
  exact h1.trans h2
theorem same_rd (l:List Nat):Same (rd l) l:=same_act l []
theorem Same.rd_eq {a b:List Nat} (h:Same a b):rd a = rd b:=h [] trivial
theorem same_iff_rd {a b:List Nat}:Same a b ↔ rd a = rd b:=⟨Same.rd_eq,fun h=>(same_rd a).symm.trans (h ▸ same_rd b)⟩
theorem inv_app (a b:List Nat):inv (a ++ b) = inv b ++ inv a:=by simp [inv]
theorem inv_cons (x:Nat) (a:List Nat):inv (x :: a) = inv a ++ [x ^^^ 1]:=by simp [inv]
theorem inv_inv (a:List Nat):inv (inv a) = a:=by
 unfold inv
 rw [List.map_reverse,List.reverse_reverse,List.map_map]
 conv=>rhs; rw [← List.map_id a]
 exact List.map_congr_left fun x _=>xor_two x
theorem same_inv:∀ a:List Nat,Same (a ++ inv a) []
 | []=>Same.refl _
 | x :: a=>by
  rw [inv_cons]
  have h1:x :: a ++ (inv a ++ [x ^^^ 1]) = [x] ++ (a ++ inv a) ++ [x ^^^ 1]:=by simp
  rw [h1]
  have h2:=((Same.refl [x]).app (same_inv a)).app (Same.refl [x ^^^ 1])
  exact h2.trans (same_pair x)
theorem same_inv' (a:List Nat):Same (inv a ++ a) []:=by
 have:=same_inv (inv a)
 rwa [inv_inv] at this
theorem Same.inv {a b:List Nat} (h:Same a b):Same (Pl.inv a) (Pl.inv b):=by
 have h1:Same (Pl.inv a ++ (b ++ Pl.inv b)) (Pl.inv a ++ []):=(Same.refl _).app (same_inv b)
 have h2:Same (Pl.inv a ++ a ++ Pl.inv b) (Pl.inv a ++ b ++ Pl.inv b):=((Same.refl _).app h).app (Same.refl _)
 have h3:Same (Pl.inv a ++ a ++ Pl.inv b) ([] ++ Pl.inv b):=(same_inv' a).app (Same.refl _)
 rw [List.append_nil,← List.append_assoc] at h1
 rw [List.nil_append] at h3
 exact (h1.symm.trans h2.symm).trans h3
inductive Mem (gs:List (List Nat)):List Nat → Prop
 | one:Mem gs []
 | gen {g:List Nat}:g ∈ gs → Mem gs g
 | mul {a b:List Nat}:Mem gs a → Mem gs b → Mem gs (a ++ b)
 | neg {a:List Nat}:Mem gs a → Mem gs (inv a)
 | same {a b:List Nat}:Mem gs a → Same a b → Mem gs b
inductive Run (δ:Nat → Nat → Nat → Prop):Nat → List Nat → Nat → Prop
 | nil (s:Nat):Run δ s [] s
 | cons {s x u t:Nat} {l:List Nat}:δ s x u → Run δ u l t → Run δ s (x :: l) t
structure Aut' (δ:Nat → Nat → Nat → Prop):Prop where
 det:∀ s x t t',δ s x t → δ s x t' → t = t'
 inv:∀ s x t,δ s x t → δ t (x ^^^ 1) s
section
variable {δ:Nat → Nat → Nat → Prop}
theorem Run.app {s u t:Nat} {a b:List Nat} (h:Run δ s a u) (k:Run δ u b t):Run δ s (a ++ b) t:=by
 induction h with
 | nil _=>exact k
 | cons h _ ih=>exact .cons h (ih k)
theorem Run.split:∀ {a:List Nat} {s t:Nat} {b:List Nat},Run δ s (a ++ b) t → ∃ u,Run δ s a u ∧ Run δ u b t
 | [],s,t,b,h=>⟨s,.nil s,h⟩
 | x :: a,s,t,b,h=>by
  cases h with
  | cons h1 h2=>
   obtain ⟨u,h3,h4⟩:=Run.split h2
   exact ⟨u,.cons h1 h3,h4⟩
theorem Run.one {s x t:Nat} (h:δ s x t):Run δ s [x] t:=.cons h (.nil t)
theorem Run.of_one {s x t:Nat} (h:Run δ s [x] t):δ s x t:=by
 cases h with
 | cons h1 h2=>cases h2; exact h1
theorem Run.det (hA:Aut' δ) {s t t':Nat} {a:List Nat} (h:Run δ s a t) (k:Run δ s a t'):t = t':=by
 induction h with
 | nil _=>cases k; rfl
 | cons h1 _ ih=>
  cases k with
  | cons k1 k2=>
   have:=hA.det _ _ _ _ h1 k1
   subst this
   exact ih k2
theorem Run.back (hA:Aut' δ) {s t:Nat} {a:List Nat} (h:Run δ s a t):Run δ t (inv a) s:=by
 induction h with
 | nil s=>exact .nil s
 | cons h1 _ ih=>
  rw [inv_cons]
  exact ih.app (.one (hA.inv _ _ _ h1))
theorem Run.rdS (hA:Aut' δ) {s u t x:Nat} {X:List Nat} (h:Run δ s X u) (k:δ u x t):Run δ s (rdS X x) t:=by
 unfold Pl.rdS
 split
 ·rename_i hx
  rcases List.eq_nil_or_concat X with rfl | ⟨q,d,rfl⟩
  ·simp at hx
  ·rw [List.concat_eq_append] at hx h ⊢
   rw [List.dropLast_concat]
   simp only [List.getLast?_append,List.getLast?_singleton,Option.some_or,Option.some.injEq] at hx
   subst hx
   obtain ⟨v,h1,h2⟩:=h.split
   have h3:=hA.inv _ _ _ h2.of_one
   rw [xor_two] at h3
   have:=hA.det _ _ _ _ h3 k
   subst this
   exact h1
 ·exact h.app (.one k)
theorem Run.act (hA:Aut' δ):∀ (l:List Nat) {s u t:Nat} {X:List Nat},Run δ s X u → Run δ u l t → Run δ s (act X l) t
 | [],s,u,t,X,h,k=>by cases k; exact h
 | x :: l,s,u,t,X,h,k=>by
  cases k with
  | cons k1 k2=>exact Run.act hA l (h.rdS hA k1) k2
theorem Run.rd (hA:Aut' δ) {s t:Nat} {l:List Nat} (h:Run δ s l t):Run δ s (rd l) t:=Run.act hA l (.nil s) h
end
end Go.Proofs.YtffdjfkekdoeaaaDoor.Pl
end
section
set_option maxRecDepth 4000
set_option maxHeartbeats 2000000
namespace Go.Proofs.YtffdjfkekdoeaaaDoor.Pl
open Fo Rf Wd
def Pot (gs:List (List Nat)) (g:Nat → List Nat) (E:List Edg):Prop:=∀ s x t,(s,x,t) ∈ E → Mem gs (g s ++ [x] ++ inv (g t))
theorem mem_back {gs:List (List Nat)} {a b:List Nat} {x:Nat} (h:Mem gs (a ++ [x] ++ inv b)):Mem gs (b ++ [x ^^^ 1] ++ inv a):=by
 have:=h.neg
 rw [inv_app,inv_app,inv_inv] at this
 have e:b ++ (inv [x] ++ inv a) = b ++ [x ^^^ 1] ++ inv a:=by rw [List.append_assoc]; rfl
 rwa [e] at this
theorem pot_path {gs:List (List Nat)}:∀ (w:List Nat) (n s:Nat) (g0:Nat → List Nat),s < n → 0 < n → g0 0 = [] → Mem gs (g0 s ++ w) → ∃ g,(∀ v,v < n → g v = g0 v) ∧ (∀ v,n + (w.length - 1) ≤ v → g v = g0 v) ∧ Pot gs g (pathE n s w 0)
 | [],n,s,g0,_,_,_,_=>⟨g0,fun _ _=>rfl,fun _ _=>rfl,fun a y b h=>by simp [pathE] at h⟩
 | [x],n,s,g0,hs,h0,hg,hm=>by
  have h1:Mem gs (g0 s ++ [x] ++ inv (g0 0)):=by
   rw [hg]
   have:inv ([]:List Nat) = []:=rfl
   rw [this,List.append_nil]; exact hm
  refine ⟨g0,fun _ _=>rfl,fun _ _=>rfl,fun a y b h=>?_⟩
  simp only [pathE,List.mem_cons,List.not_mem_nil,or_false,Prod.mk.injEq] at h
  rcases h with ⟨rfl,rfl,rfl⟩ | ⟨rfl,rfl,rfl⟩
  ·exact h1
  ·exact mem_back h1
 | x :: y :: l,n,s,g0,hs,h0,hg,hm=>by
  obtain ⟨g,a1,a2,a3⟩:=pot_path (gs:=gs) (y :: l) (n + 1) n (fun v=>if v = n then g0 s ++ [x] else g0 v) (by omega) (by omega) (by rw [if_neg (by omega)]; exact hg) (by
   rw [if_pos rfl,List.append_assoc]; exact hm)
  have gn:g n = g0 s ++ [x]:=by rw [a1 n (by omega),if_pos rfl]
  have gs':g s = g0 s:=by rw [a1 s (by omega),if_neg (by omega)]
  have h1:Mem gs (g s ++ [x] ++ inv (g n)):=by
   rw [gn,gs']
   exact .same .one (same_inv _).symm
  refine ⟨g,fun v hv=>by rw [a1 v (by omega),if_neg (by omega)],fun v hv=>?_,fun a z b h=>?_⟩
  ·simp only [List.length_cons] at hv a2
   rw [a2 v (by omega),if_neg (by omega)]
  ·have hp:pathE n s (x :: y :: l) 0 = (s,x,n) :: (n,x ^^^ 1,s) :: pathE (n + 1) n (y :: l) 0:=rfl
   rw [hp] at h
   simp only [List.mem_cons,Prod.mk.injEq] at h
   rcases h with ⟨rfl,rfl,rfl⟩ | ⟨rfl,rfl,rfl⟩ | h
   ·exact h1
   ·exact mem_back h1
   ·exact a3 _ _ _ h
theorem pathE_lt:∀ (w:List Nat) (n s:Nat),s < n → 0 < n → ∀ a y b,(a,y,b) ∈ pathE n s w 0 → a < n + (w.length - 1) ∧ b < n + (w.length - 1)
 | [],n,s,_,_,a,y,b,h=>by simp [pathE] at h
 | [x],n,s,hs,h0,a,y,b,h=>by
  simp only [pathE,List.mem_cons,List.not_mem_nil,or_false,Prod.mk.injEq] at h
  simp only [List.length_singleton]
  omega
 | x :: z :: l,n,s,hs,h0,a,y,b,h=>by
  have hp:pathE n s (x :: z :: l) 0 = (s,x,n) :: (n,x ^^^ 1,s) :: pathE (n + 1) n (z :: l) 0:=rfl
  rw [hp] at h
  simp only [List.mem_cons,Prod.mk.injEq] at h
  simp only [List.length_cons]
  rcases h with ⟨rfl,rfl,rfl⟩ | ⟨rfl,rfl,rfl⟩ | h
  ·omega
  ·omega
  ·have:=pathE_lt (z :: l) (n + 1) n (by omega) (by omega) a y b h
   simp only [List.length_cons] at this
   omega
theorem pot_all {gs:List (List Nat)}:∀ (ws:List (List Nat)) (n:Nat) (g0:Nat → List Nat),0 < n → g0 0 = [] → (∀ w ∈ ws,Mem gs w) → ∃ g,(∀ v,v < n → g v = g0 v) ∧ Pot gs g (allE n ws)
 | [],n,g0,_,_,_=>⟨g0,fun _ _=>rfl,fun a y b h=>by simp [allE] at h⟩
 | w :: l,n,g0,hn,hg,hw=>by
  obtain ⟨g1,a1,a2,a3⟩:=pot_path (gs:=gs) w n 0 g0 hn hn hg (by rw [hg]; exact hw w (by simp))
  obtain ⟨g,b1,b2⟩:=pot_all (gs:=gs) l (n + (w.length - 1)) g1 (by omega) (by rw [a1 0 hn]; exact hg) fun v hv=>hw v (by simp [hv])
  refine ⟨g,fun v hv=>by rw [b1 v (by omega),a1 v hv],fun a y b h=>?_⟩
  simp only [allE,List.mem_append] at h
  rcases h with h | h
  ·obtain ⟨h1,h2⟩:=pathE_lt w n 0 hn hn a y b h
   rw [b1 a h1,b1 b h2]
   exact a3 _ _ _ h
  ·exact b2 _ _ _ h
theorem mem_mid {gs:List (List Nat)} {a b c:List Nat} (h:Mem gs (a ++ inv b)) (k:Mem gs (b ++ c)):Mem gs (a ++ c):=by
 refine .same (h.mul k) ?_
 have h1:a ++ inv b ++ (b ++ c) = a ++ (inv b ++ b) ++ c:=by simp
 rw [h1]
 have:=((Same.refl a).app (same_inv' b)).app (Same.refl c)
 rw [List.append_nil] at this
 exact this
theorem mem_flip {gs:List (List Nat)} {a b:List Nat} (h:Mem gs (a ++ inv b)):Mem gs (b ++ inv a):=by
 have:=h.neg
 rwa [inv_app,inv_inv] at this
theorem pot_cg {gs:List (List Nat)} {g:Nat → List Nat} {E:List Edg} (h:Pot gs g E) {u v:Nat} (hc:Cg E u v):Mem gs (g u ++ inv (g v)):=by
 induction hc with
 | refl u=>exact .same .one (same_inv _).symm
 | symm _ ih=>exact mem_flip ih
 | trans _ _ ih1 ih2=>exact mem_mid ih1 ih2
 | @fold s s' x t t' h1 h2 h0 ih=>
  have k1:=mem_back (h _ _ _ h1)
  have k2:=h _ _ _ h2
  -- g t (x^1) inv(g s) · g s inv(g s') · g s' x inv(g t')
  have k3:Mem gs (g t ++ [x ^^^ 1] ++ inv (g s')):=mem_mid k1 ih
  have k4:Mem gs (g t ++ [x ^^^ 1] ++ ([x] ++ inv (g t'))):=mem_mid k3 (by rw [← List.append_assoc]; exact k2)
  refine .same k4 ?_
  have e:g t ++ [x ^^^ 1] ++ ([x] ++ inv (g t')) = g t ++ [x ^^^ 1,x] ++ inv (g t'):=by simp
  rw [e]
  have:=((Same.refl (g t)).app (same_pair' x)).app (Same.refl (inv (g t')))
  rw [List.append_nil] at this
  exact this
section
variable {E:List Edg} {st:St}
noncomputable abbrev RowsOf (st:St):List (Option Row):=rowsS st.par 0 st.next
theorem rows_aut (h:Inv E st) (hb:Both E):Aut' (To (RowsOf st)):=⟨fun _ _ _ _ a b=>a.unique b,(wf_rows h hb).inv⟩
theorem pot_to {gs:List (List Nat)} {g:Nat → List Nat} (h:Inv E st) (hg:Pot gs g E) {s x t:Nat} (ht:To (RowsOf st) s x t):Mem gs (g s ++ [x] ++ inv (g t)):=by
 obtain ⟨u,h1,h2,h3⟩:=(to_rows h).1 ht
 obtain ⟨s',e1,e2⟩:=h.snd.ent s x u h2
 have k1:=pot_cg hg e2
 have k2:=hg _ _ _ e1
 have k3:=pot_cg hg (h.snd.par u t ⟨t,h3,h3.self⟩)
 rw [List.append_assoc] at k2
 have k4:=mem_mid k1 k2
 rw [← List.append_assoc] at k4
 exact mem_mid k4 k3
theorem pot_run {gs:List (List Nat)} {g:Nat → List Nat} (h:Inv E st) (hg:Pot gs g E) {s t:Nat} {l:List Nat} (hr:Run (To (RowsOf st)) s l t):Mem gs (g s ++ l ++ inv (g t)):=by
 induction hr with
 | nil s=>rw [List.append_nil]; exact .same .one (same_inv _).symm
 | @cons s x u t l h1 _ ih=>
  have k1:=pot_to h hg h1
  rw [List.append_assoc] at ih
  have:=mem_mid k1 ih
  have e:g s ++ [x] ++ (l ++ inv (g t)) = g s ++ x :: l ++ inv (g t):=by simp
  rwa [e] at this
theorem edge_to (h:Inv E st) {s x t:Nat} (he:(s,x,t) ∈ E):To (RowsOf st) (rt st.par s) x (rt st.par t):=by
 obtain ⟨p,t1,a1,a2,a3⟩:=h.cm s x t he
 rw [h.todo] at a3
 obtain ⟨q,b1,b2⟩:=Eqv.nil (fun _ _ _=>Sm.trans) a3
 rw [rt_spec a1,rt_spec b2]
 exact (to_rows h).2 ⟨t1,a1.self,a2,b1⟩
theorem run_rows (h:Inv E st) {s t:Nat} {l:List Nat} (hr:Run (fun s x t=>(s,x,t) ∈ E) s l t):Run (To (RowsOf st)) (rt st.par s) l (rt st.par t):=by
 induction hr with
 | nil s=>exact .nil _
 | cons h1 _ ih=>exact .cons (edge_to h h1) ih
end
theorem path_run {E:List Edg}:∀ (w:List Nat) (n s:Nat),(∀ e ∈ pathE n s w 0,e ∈ E) → (w ≠ [] ∨ s = 0) → Run (fun s x t=>(s,x,t) ∈ E) s w 0
 | [],n,s,_,h=>by
  rcases h with h | rfl
  ·exact absurd rfl h
  ·exact .nil 0
 | [x],n,s,hE,_=>.one (hE _ (by simp [pathE]))
 | x :: y :: l,n,s,hE,_=>by
  have hp:pathE n s (x :: y :: l) 0 = (s,x,n) :: (n,x ^^^ 1,s) :: pathE (n + 1) n (y :: l) 0:=rfl
  rw [hp] at hE
  exact .cons (hE _ (by simp)) (path_run (y :: l) (n + 1) n (fun e he=>hE e (by simp [he])) (.inl (by simp)))
theorem all_run:∀ (ws:List (List Nat)) (n:Nat) (E:List Edg),(∀ e ∈ allE n ws,e ∈ E) → ∀ w ∈ ws,Run (fun s x t=>(s,x,t) ∈ E) 0 w 0
 | [],n,E,_,w,hw=>by simp at hw
 | v :: l,n,E,hE,w,hw=>by
  simp only [allE] at hE
  rcases List.mem_cons.1 hw with rfl | hw
  ·exact path_run w n 0 (fun e he=>hE e (List.mem_append.2 (.inl he))) (.inr rfl)
  ·exact all_run l _ E (fun e he=>hE e (List.mem_append.2 (.inr he))) w hw
theorem lang {ws:List (List Nat)} {st:St} (h:Inv (allE 1 ws) st) {l:List Nat} (hl:Rd l):Run (To (RowsOf st)) (rt st.par 0) l (rt st.par 0) ↔ Mem ws l:=by
 have hA:=rows_aut h (allE_both ws 1)
 constructor
 ·intro hr
  obtain ⟨g,h1,h2⟩:=pot_all (gs:=ws) ws 1 (fun _=>[]) (by omega) rfl fun w hw=>.gen hw
  have k:=pot_run h h2 hr
  obtain ⟨d,hf⟩:=h.ok.forest
  have g0:g 0 = []:=h1 0 (by omega)
  have k0:Mem ws (g 0 ++ inv (g (rt st.par 0))):=by
   by_cases hp:0 < st.par.length
   ·obtain ⟨p,hp⟩:=hf.root _ 0 (Nat.le_refl _) hp
    rw [rt_spec hp]
    exact pot_cg h2 (h.snd.par _ _ ⟨p,hp,hp.self⟩)
   ·have:rt st.par 0 = 0:=by
     unfold rt
     rw [dif_neg]
     rintro ⟨r,hr⟩
     exact hp hr.lt_left
    rw [this]
    exact .same .one (same_inv _).symm
  rw [List.append_assoc] at k
  have k1:=mem_mid k0 k
  rw [← List.append_assoc,g0,List.nil_append] at k1
  have k2:=mem_mid k1 (b:=g (rt st.par 0)) (c:=[]) (by
   rw [List.append_nil]
   have:=mem_flip k0
   rw [g0] at this
   have e:inv ([]:List Nat) = []:=rfl
   rwa [e,List.append_nil] at this)
  rwa [List.append_nil] at k2
 ·intro hm
  have key:∀ {a:List Nat},Mem ws a → Run (To (RowsOf st)) (rt st.par 0) (rd a) (rt st.par 0):=by
   intro a ha
   induction ha with
   | one=>exact .nil _
   | gen hg=>exact (run_rows h (all_run ws 1 _ (fun _ he=>he) _ hg)).rd hA
   | @mul a b _ _ h1 h2=>
    have:rd (a ++ b) = rd (rd a ++ rd b):=(((same_rd a).app (same_rd b)).symm).rd_eq
    rw [this]
    exact (h1.app h2).rd hA
   | @neg a _ h1=>
    have:rd (inv a) = rd (inv (rd a)):=((same_rd a).inv.symm).rd_eq
    rw [this]
    exact (h1.back hA).rd hA
   | same _ hs h1=>rw [← hs.rd_eq]; exact h1
  rw [← hl.self]
  exact key hm
theorem lang_cut {ws:List (List Nat)} {st:St} (h:Inv (allE 1 ws) st) {m:Nat} {rows':List (Option Row)} {o:Option (List Row)} (hm:MadeOf m (rt st.par 0) (RowsOf st) rows' o) {l:List Nat} (hl:Rd l) :
  Run (To rows') (rt st.par 0) l (rt st.par 0) ↔ Mem ws l:=by
 rw [← lang h hl]
 generalize rt st.par 0 = r0 at hm
 have hA:=rows_aut h (allE_both ws 1)
 have mono:∀ {s t:Nat} {l:List Nat},Run (To rows') s l t → Run (To (RowsOf st)) s l t:=fun hr=>by
  induction hr with
  | nil s=>exact .nil s
  | cons h1 _ ih=>exact .cons (hm.cut.sub _ _ _ h1) ih
 refine ⟨mono,fun hr=>?_⟩
 let Oc:Nat → Nat → Nat → Prop:=fun s x t=>∃ a b,l = a ++ x :: b ∧ Run (To (RowsOf st)) r0 a s ∧ To (RowsOf st) s x t ∧ Run (To (RowsOf st)) t b r0
 have chain:∀ {a b:List Nat} {y x:Nat},l = a ++ y :: x :: b → x ≠ y ^^^ 1:=fun {a b y x} he=>by
  have:∀ (a l:List Nat),l = a ++ y :: x :: b → Rd l → x ≠ y ^^^ 1:=by
   intro a
   induction a with
   | nil=>intro l he hl; subst he; exact hl.1
   | cons z a ih=>
    intro l he hl
    subst he
    cases a with
    | nil=>exact ih _ rfl hl.2
    | cons z' a=>exact ih _ rfl hl.2
  exact this a l he hl
 have hS:∀ s x t,(Oc s x t ∨ Oc t (x ^^^ 1) s) → To rows' s x t:=hm.cut.max (fun s x t=>Oc s x t ∨ Oc t (x ^^^ 1) s) ⟨fun s x t hh=>by rw [xor_two]; exact hh.symm,fun s x t hh hne=>by
  rcases hh with ⟨a,b,e1,e2,e3,e4⟩ | ⟨a,b,e1,e2,e3,e4⟩
  ·rcases List.eq_nil_or_concat a with rfl | ⟨a',y,rfl⟩
   ·cases e2; exact absurd rfl hne
   ·rw [List.concat_eq_append] at e1 e2
    obtain ⟨u,f1,f2⟩:=e2.split
    have e5:l = a' ++ y :: x :: b:=by rw [e1]; simp
    refine ⟨y ^^^ 1,u,fun he=>chain e5 he.symm,.inr ?_⟩
    rw [xor_two]
    exact ⟨a',x :: b,e5,f1,f2.of_one,.cons e3 e4⟩
  ·cases e4 with
   | nil=>exact absurd rfl hne
   | @cons _ y u _ b' f1 f2=>
    refine ⟨y,u,fun he=>?_,.inl ⟨a ++ [x ^^^ 1],b',by rw [e1]; simp,e2.app (.one e3),f1,f2⟩⟩
    have:=chain e1
    rw [xor_two] at this
    exact this he⟩ fun s x t hh=>by
  rcases hh with ⟨_,_,_,_,e3,_⟩ | ⟨_,_,_,_,e3,_⟩
  ·exact e3
  ·have:=hA.inv _ _ _ e3
   rwa [xor_two] at this
 have walk:∀ (b a:List Nat) (s:Nat),l = a ++ b → Run (To (RowsOf st)) r0 a s → Run (To (RowsOf st)) s b r0 → Run (To rows') s b r0:=by
  intro b
  induction b with
  | nil=>intro a s _ _ h2; cases h2; exact .nil _
  | cons x b ih=>
   intro a s he h1 h2
   cases h2 with
   | @cons _ _ u _ _ f1 f2=>
    exact .cons (hS _ _ _ (.inl ⟨a,b,he,h1,f1,f2⟩)) (ih (a ++ [x]) u (by rw [he]; simp) (h1.app (.one f1)) f2)
 exact walk l [] r0 rfl (.nil _) hr
end Go.Proofs.YtffdjfkekdoeaaaDoor.Pl
end
section
set_option maxRecDepth 4000
set_option maxHeartbeats 2000000
namespace Go.Proofs.YtffdjfkekdoeaaaDoor.Pl
open Fo Rf Wd
theorem Rd_app:∀ {a b:List Nat},Rd a → Rd b → (∀ y z,a.getLast? = some y → b.head? = some z → z ≠ y ^^^ 1) → Rd (a ++ b)
 | [],b,_,hb,_=>hb
 | [x],[],_,_,_=>trivial
 | [x],z :: b,_,hb,h=>⟨h x z rfl rfl,hb⟩
 | x :: y :: a,b,ha,hb,h=>⟨ha.1,Rd_app (a:=y :: a) ha.2 hb fun u z hu hz=>h u z (by rw [List.getLast?_cons_cons]; exact hu) hz⟩
theorem Rd_pre:∀ {a b:List Nat},Rd (a ++ b) → Rd a
 | [],_,_=>trivial
 | [_],_,_=>trivial
 | x :: y :: a,b,h=>⟨h.1,Rd_pre (a:=y :: a) h.2⟩
theorem Rd_inv:∀ {a:List Nat},Rd a → Rd (inv a)
 | [],_=>trivial
 | [x],_=>trivial
 | x :: y :: a,h=>by
  rw [inv_cons]
  refine (Rd_inv (a:=y :: a) h.2).snoc ?_
  rw [inv_cons,List.getLast?_append]
  simp only [List.getLast?_singleton,Option.some_or,xor_two]
  intro he
  exact h.1 (by rw [← Option.some.inj he,xor_two])
structure Gr (δ:Nat → Nat → Nat → Prop) (r:Nat) (N:Nat):Prop where
 aut:Aut' δ
 two:∀ s x t,δ s x t → s ≠ r → ∃ x' t',x' ≠ x ∧ δ s x' t'
 lt:∀ s x t,δ s x t → s < N ∧ t < N
 r:r < N
inductive Tr (δ:Nat → Nat → Nat → Prop) (r:Nat):Nat → List (Nat × Nat) → Prop
 | nil:Tr δ r r []
 | step {v x u:Nat} {l:List (Nat × Nat)}:Tr δ r v l → δ v x u → Tr δ r u ((x,v) :: l)
def word (l:List (Nat × Nat)):List Nat:=(l.map (·.1)).reverse
def Simp (u:Nat) (l:List (Nat × Nat)):Prop:=(u :: l.map (·.2)).Nodup
theorem word_cons (x v:Nat) (l:List (Nat × Nat)):word ((x,v) :: l) = word l ++ [x]:=by simp [word]
theorem word_last (l:List (Nat × Nat)):(word l).getLast? = l.head?.map (·.1):=by
 unfold word
 rw [List.getLast?_reverse,List.head?_map]
section
variable {δ:Nat → Nat → Nat → Prop} {r N:Nat}
theorem Tr.run {u:Nat} {l:List (Nat × Nat)} (h:Tr δ r u l):Run δ r (word l) u:=by
 induction h with
 | nil=>exact .nil r
 | step _ h2 ih=>rw [word_cons]; exact ih.app (.one h2)
theorem Tr.mem_r {u:Nat} {l:List (Nat × Nat)} (h:Tr δ r u l):r ∈ u :: l.map (·.2):=by
 induction h with
 | nil=>simp
 | step _ _ ih=>
  simp only [List.map_cons,List.mem_cons] at ih ⊢
  exact .inr ih
theorem Tr.cut {u t:Nat} {l:List (Nat × Nat)} (h:Tr δ r u l) (ht:t ∈ u :: l.map (·.2)):∃ l1 l2,l = l1 ++ l2 ∧ Tr δ r t l2:=by
 induction h with
 | nil=>
  simp only [List.map_nil,List.mem_singleton] at ht
  subst ht; exact ⟨[],[],rfl,.nil⟩
 | @step v x u l h1 h2 ih=>
  rcases List.mem_cons.1 ht with rfl | ht
  ·exact ⟨[],_,rfl,.step h1 h2⟩
  ·obtain ⟨l1,l2,rfl,h3⟩:=ih ht
   exact ⟨(x,v) :: l1,l2,rfl,h3⟩
theorem Tr.lt (hG:Gr δ r N) {u:Nat} {l:List (Nat × Nat)} (h:Tr δ r u l):∀ v ∈ u :: l.map (·.2),v < N:=by
 induction h with
 | nil=>intro v hv; simp only [List.map_nil,List.mem_singleton] at hv; subst hv; exact hG.r
 | step _ h2 ih=>
  intro v hv
  rcases List.mem_cons.1 hv with rfl | hv
  ·exact (hG.lt _ _ _ h2).2
  ·exact ih v hv
theorem Tr.rd (hG:Gr δ r N) {u:Nat} {l:List (Nat × Nat)} (h:Tr δ r u l) (hs:Simp u l):Rd (word l):=by
 induction h with
 | nil=>exact trivial
 | @step v x u l h1 h2 ih=>
  have hs':Simp v l:=(List.nodup_cons.1 hs).2
  rw [word_cons]
  refine (ih hs').snoc ?_
  rw [word_last]
  intro he
  cases h1 with
  | nil=>simp at he
  | @step w y _ l1 k1 k2=>
   simp only [List.head?_cons,Option.map_some,Option.some.injEq] at he
   subst he
   have k3:=hG.aut.inv _ _ _ k2
   rw [xor_two] at k3
   have:=hG.aut.det _ _ _ _ h2 k3
   subst this
   have:=(List.nodup_cons.1 hs).1
   simp at this
theorem inv_word (l:List (Nat × Nat)):inv (word l) = l.map fun p=>p.1 ^^^ 1:=by
 unfold inv word
 rw [List.map_reverse,List.reverse_reverse,List.map_map]; rfl
theorem cut_simp {u t:Nat} {l:List (Nat × Nat)} (h:Tr δ r u l) (hs:Simp u l) (ht:t ∈ u :: l.map (·.2)):∃ l1 l2,l = l1 ++ l2 ∧ Tr δ r t l2 ∧ Simp t l2:=by
 induction h with
 | nil=>
  simp only [List.map_nil,List.mem_singleton] at ht
  subst ht; exact ⟨[],[],rfl,.nil,hs⟩
 | @step v x u l h1 h2 ih=>
  rcases List.mem_cons.1 ht with rfl | ht
  ·exact ⟨[],_,rfl,.step h1 h2,hs⟩
  ·obtain ⟨l1,l2,rfl,h3,h4⟩:=ih (List.nodup_cons.1 hs).2 ht
   exact ⟨(x,v) :: l1,l2,rfl,h3,h4⟩
theorem close (hG:Gr δ r N):∀ (n u:Nat) (l:List (Nat × Nat)) (x t:Nat),N - l.length ≤ n → Tr δ r u l → Simp u l → δ u x t → (∀ y v,l.head? = some (y,v) → x ≠ y ^^^ 1) → ∃ q,Rd (word l ++ x :: q) ∧ Run δ t q r:=by
 intro n
 induction n with
 | zero=>
  intro u l x t hn h hs
  have:=nodup_len N _ hs (h.lt hG)
  simp at this
  omega
 | succ n ih=>
  intro u l x t hn h hs hx hno
  have hlen:=nodup_len N _ hs (h.lt hG)
  simp only [List.length_cons,List.length_map] at hlen
  have hw:Rd (word l ++ [x]):=(h.rd hG hs).snoc (by
   rw [word_last]
   intro he
   cases hl:l.head? with
   | none=>rw [hl] at he; cases he
   | some p=>
    obtain ⟨y,v⟩:=p
    rw [hl] at he
    simp only [Option.map_some,Option.some.injEq] at he
    exact hno y v hl (by rw [he,xor_two]))
  by_cases ht:t ∈ u :: l.map (·.2)
  ·obtain ⟨l1,l2,hl,h2,hs2⟩:=cut_simp h hs ht
   refine ⟨inv (word l2),?_,h2.run.back hG.aut⟩
   have e:word l ++ x :: inv (word l2) = (word l ++ [x]) ++ inv (word l2):=by simp
   rw [e]
   refine Rd_app hw (Rd_inv (h2.rd hG hs2)) fun y z hy hz=>?_
   rw [List.getLast?_append] at hy
   simp only [List.getLast?_singleton,Option.some_or,Option.some.injEq] at hy
   subst hy
   rw [inv_word] at hz
   cases h2 with
   | nil=>simp at hz
   | @step v y _ l3 k1 k2=>
    simp only [List.map_cons,List.head?_cons,Option.some.injEq] at hz
    subst hz
    intro he
    have hyx:y = x:=by have:=congrArg (· ^^^ 1) he; simpa [xor_two] using this
    subst hyx
    have:=hG.aut.det _ _ _ _ (hG.aut.inv _ _ _ k2) (hG.aut.inv _ _ _ hx)
    subst this
    have:=(List.nodup_cons.1 hs).1
    rw [hl] at this
    simp at this
  ·have hs':Simp t ((x,u) :: l):=List.nodup_cons.2 ⟨by simpa using ht,hs⟩
   have hr:t ≠ r:=fun he=>ht (he ▸ h.mem_r)
   obtain ⟨x',t',h1,h2⟩:=hG.two _ _ _ (hG.aut.inv _ _ _ hx) hr
   obtain ⟨q,a1,a2⟩:=ih t ((x,u) :: l) x' t' (by simp only [List.length_cons]; omega) (.step h hx) hs' h2 (fun y v hy=>by
    simp only [List.head?_cons,Option.some.injEq,Prod.mk.injEq] at hy
    rw [← hy.1]; exact h1)
   rw [word_cons,List.append_assoc] at a1
   exact ⟨x' :: q,a1,.cons h2 a2⟩
theorem extend (hG:Gr δ r N) {u:Nat} {l:List (Nat × Nat)} (h:Tr δ r u l) (hs:Simp u l):∃ q,Rd (word l ++ q) ∧ Run δ u q r:=by
 cases h with
 | nil=>exact ⟨[],trivial,.nil r⟩
 | @step v y _ l k1 k2=>
  have hr:u ≠ r:=fun he=>by
   have h1:=(List.nodup_cons.1 hs).1
   have h2:=k1.mem_r
   rw [he] at h1
   simp only [List.map_cons] at h1
   exact h1 h2
  obtain ⟨x',t',h1,h2⟩:=hG.two _ _ _ (hG.aut.inv _ _ _ k2) hr
  obtain ⟨q,a1,a2⟩:=close hG _ u ((y,v) :: l) x' t' (Nat.le_refl _) (.step k1 k2) hs h2 (fun y' v' hy=>by
   simp only [List.head?_cons,Option.some.injEq,Prod.mk.injEq] at hy
   rw [← hy.1]; exact h1)
  exact ⟨x' :: q,a1,.cons h2 a2⟩
theorem reach_step {v x t:Nat} {l:List (Nat × Nat)} (h:Tr δ r v l) (hs:Simp v l) (hx:δ v x t):∃ l',Tr δ r t l' ∧ Simp t l':=by
 by_cases ht:t ∈ v :: l.map (·.2)
 ·obtain ⟨_,l2,_,h2,h3⟩:=cut_simp h hs ht
  exact ⟨l2,h2,h3⟩
 ·exact ⟨(x,v) :: l,.step h hx,List.nodup_cons.2 ⟨by simpa using ht,hs⟩⟩
theorem coset (hA:Aut' δ):∀ (n:Nat) (p q:List Nat) (v1 v2:Nat),p.length = n → Rd p → Rd q → Run δ r p v1 → Run δ r q v2 → Run δ r (rd (p ++ inv q)) r → v1 = v2:=by
 intro n
 induction n with
 | zero=>
  intro p q v1 v2 hn hp hq h1 h2 h3
  rw [List.length_eq_zero_iff.1 hn] at h1 h3
  rw [List.nil_append,(Rd_inv hq).self] at h3
  have:=h3.back hA
  rw [inv_inv] at this
  cases h1
  exact Run.det hA this h2
 | succ n ih=>
  intro p q v1 v2 hn hp hq h1 h2 h3
  rcases List.eq_nil_or_concat p with rfl | ⟨a,x,rfl⟩
  ·simp at hn
  rw [List.concat_eq_append] at *
  rcases List.eq_nil_or_concat q with rfl | ⟨b,y,rfl⟩
  ·have e:a ++ [x] ++ inv [] = a ++ [x]:=by simp [inv]
   rw [e,hp.self] at h3
   cases h2
   exact Run.det hA h1 h3
  rw [List.concat_eq_append] at *
  by_cases hxy:x = y
  ·subst hxy
   obtain ⟨u1,k1,k2⟩:=h1.split
   obtain ⟨u2,k3,k4⟩:=h2.split
   have e:rd (a ++ [x] ++ inv (b ++ [x])) = rd (a ++ inv b):=by
    apply Same.rd_eq
    rw [inv_app]
    have e1:a ++ [x] ++ (inv [x] ++ inv b) = a ++ [x,x ^^^ 1] ++ inv b:=by simp [inv]
    rw [e1]
    have:=((Same.refl a).app (same_pair x)).app (Same.refl (inv b))
    rw [List.append_nil] at this
    exact this
   rw [e] at h3
   have:=ih a b u1 u2 (by simpa using hn) (Rd.unsnoc hp).1 (Rd.unsnoc hq).1 k1 k3 h3
   subst this
   exact Run.det hA k2 k4
  ·have hr:Rd (a ++ [x] ++ inv (b ++ [y])):=by
    refine Rd_app hp (Rd_inv hq) fun u z hu hz=>?_
    rw [List.getLast?_append] at hu
    simp only [List.getLast?_singleton,Option.some_or,Option.some.injEq] at hu
    subst hu
    rw [inv_app] at hz
    have hz:y ^^^ 1 = z:=by simpa [inv] using hz
    subst hz
    intro he
    exact hxy (by have:=congrArg (· ^^^ 1) he; simpa [xor_two] using this.symm)
   rw [hr.self] at h3
   obtain ⟨u,k1,k2⟩:=h3.split
   have:=Run.det hA h1 k1
   subst this
   have k3:=k2.back hA
   rw [inv_inv] at k3
   exact Run.det hA k3 h2
end
section
variable {δ ε:Nat → Nat → Nat → Prop} {a b N M:Nat}
structure Pair (δ ε:Nat → Nat → Nat → Prop) (a b N M:Nat):Prop where
 l:Gr δ a N
 r:Gr ε b M
 same:∀ p,Rd p → (Run δ a p a ↔ Run ε b p b)
theorem Pair.symm (h:Pair δ ε a b N M):Pair ε δ b a M N:=⟨h.r,h.l,fun p hp=>(h.same p hp).symm⟩
def Rch (δ:Nat → Nat → Nat → Prop) (a v:Nat):Prop:=∃ l,Tr δ a v l ∧ Simp v l
open Classical in
noncomputable def to (δ ε:Nat → Nat → Nat → Prop) (a b v:Nat):Nat:=if h:∃ v' p,Rd p ∧ Run δ a p v ∧ Run ε b p v' then Classical.choose h else 0
theorem Pair.spec (h:Pair δ ε a b N M) {v v':Nat} {p:List Nat} (hp:Rd p) (h1:Run δ a p v) (h2:Run ε b p v'):to δ ε a b v = v':=by
 have hx:∃ v' p,Rd p ∧ Run δ a p v ∧ Run ε b p v':=⟨v',p,hp,h1,h2⟩
 unfold to
 rw [dif_pos hx]
 obtain ⟨q,k1,k2,k3⟩:=Classical.choose_spec hx
 refine coset h.r.aut _ q p _ _ rfl k1 hp k3 h2 ?_
 exact (h.same _ (rd_rd _)).1 ((k2.app (h1.back h.l.aut)).rd h.l.aut)
theorem Pair.tr (h:Pair δ ε a b N M) {v:Nat} {l:List (Nat × Nat)} (ht:Tr δ a v l) (hs:Simp v l):Run ε b (word l) (to δ ε a b v):=by
 obtain ⟨q,h1,h2⟩:=extend h.l ht hs
 obtain ⟨u,k1,k2⟩:=((h.same _ h1).1 (ht.run.app h2)).split
 rw [h.spec (ht.rd h.l hs) ht.run k1]
 exact k1
theorem Pair.inj (h:Pair δ ε a b N M) {u v:Nat} (hu:Rch δ a u) (hv:Rch δ a v) (he:to δ ε a b u = to δ ε a b v):u = v:=by
 obtain ⟨l,k1,k2⟩:=hu
 obtain ⟨l',k3,k4⟩:=hv
 have h1:=h.tr k1 k2
 have h2:=h.tr k3 k4
 rw [he] at h1
 refine coset h.l.aut _ _ _ _ _ rfl (k1.rd h.l k2) (k3.rd h.l k4) k1.run k3.run ?_
 exact (h.same _ (rd_rd _)).2 ((h1.app (h2.back h.r.aut)).rd h.r.aut)
theorem Pair.step (h:Pair δ ε a b N M) {v x t:Nat} (hv:Rch δ a v) (hx:δ v x t):ε (to δ ε a b v) x (to δ ε a b t):=by
 obtain ⟨l,k1,k2⟩:=hv
 by_cases hc:∀ y w,l.head? = some (y,w) → x ≠ y ^^^ 1
 ·obtain ⟨q,h1,h2⟩:=close h.l _ v l x t (Nat.le_refl _) k1 k2 hx hc
  obtain ⟨u,e1,e2⟩:=((h.same _ h1).1 (k1.run.app (.cons hx h2))).split
  have hu:=h.spec (k1.rd h.l k2) k1.run e1
  cases e2 with
  | @cons _ _ u' _ _ f1 f2=>
   have h3:Rd (word l ++ [x]):=by
    have e:word l ++ x :: q = (word l ++ [x]) ++ q:=by simp
    rw [e] at h1
    exact Rd_pre h1
   rw [hu,h.spec h3 (k1.run.app (.one hx)) (e1.app (.one f1))]
   exact f1
 ·simp only [Classical.not_forall,Classical.not_not] at hc
  obtain ⟨y,w,hl,rfl⟩:=hc
  cases k1 with
  | nil=>simp at hl
  | @step w' y' _ l1 e1 e2=>
   simp only [List.head?_cons,Option.some.injEq,Prod.mk.injEq] at hl
   obtain ⟨rfl,rfl⟩:=hl
   have:=h.l.aut.det _ _ _ _ (h.l.aut.inv _ _ _ e2) hx
   subst this
   have hs1:Simp w' l1:=(List.nodup_cons.1 k2).2
   have r1:=h.tr (.step e1 e2) k2
   rw [word_cons] at r1
   obtain ⟨z,f1,f2⟩:=r1.split
   rw [h.spec (e1.rd h.l hs1) e1.run f1]
   exact h.r.aut.inv _ _ _ f2.of_one
theorem Pair.rch (h:Pair δ ε a b N M) {v:Nat} {l:List (Nat × Nat)} (hv:Tr δ a v l) (hs:Simp v l):Rch ε b (to δ ε a b v):=by
 induction hv with
 | nil=>
  rw [h.spec (p:=[]) trivial (.nil a) (.nil b)]
  exact ⟨[],.nil,by simp [Simp]⟩
 | @step v x u l h1 h2 ih=>
  have hs1:Simp v l:=(List.nodup_cons.1 hs).2
  obtain ⟨l',k1,k2⟩:=ih hs1
  exact reach_step k1 k2 (h.step ⟨l,h1,hs1⟩ h2)
theorem Pair.two (h:Pair δ ε a b N M) {v:Nat} (hv:Rch δ a v):to ε δ b a (to δ ε a b v) = v:=by
 obtain ⟨l,k1,k2⟩:=hv
 exact h.symm.spec (k1.rd h.l k2) (h.tr k1 k2) k1.run
theorem Pair.back (h:Pair δ ε a b N M) {v x t':Nat} (hv:Rch δ a v) (hx:ε (to δ ε a b v) x t'):∃ t,δ v x t ∧ t' = to δ ε a b t:=by
 obtain ⟨l,k1,k2⟩:=id hv
 have hb:=h.rch k1 k2
 have h1:=h.symm.step hb hx
 rw [h.two hv] at h1
 refine ⟨_,h1,?_⟩
 exact h.r.aut.det _ _ _ _ hx (h.step hv h1)
end
end Go.Proofs.YtffdjfkekdoeaaaDoor.Pl
end
section
set_option maxRecDepth 4000
set_option maxHeartbeats 2000000
namespace Go.Proofs.YtffdjfkekdoeaaaDoor.Pl
open Fo Rf Wd
theorem num_mapG {φ:Nat → Nat} {P:Nat → Prop} (inj:∀ u v,P u → P v → φ u = φ v → u = v) {ρ ρ':Nat → Row} (hρ:∀ v,P v → ρ' (φ v) = (ρ v).map (Option.map φ)) (hP:∀ v,P v → ∀ t,some t ∈ ρ v → P t) :
  ∀ (K i:Nat) (q:List Nat) (out:List Row),(∀ v ∈ q,P v) → numG ρ' K i (q.map φ) out = numG ρ K i q out
 | 0,_,_,_,_=>rfl
 | K + 1,i,q,out,hq=>by
  simp only [numG,List.getElem?_map]
  cases hv:q[i]? with
  | none=>rfl
  | some v=>
   have hpv:=hq v (List.mem_of_getElem? hv)
   obtain ⟨h1,h2⟩:=bfsRow_map inj (ρ v) q (hP v hpv) hq
   simp only [Option.map_some]
   rw [hρ v hpv,h1]
   exact num_mapG inj hρ hP K (i + 1) _ _ h2
theorem made_gr {m r:Nat} {rows rows':List (Option Row)} {o:Option (List Row)} (hm:MadeOf m r rows rows' o) (hr:Live rows r):Gr (To rows') r rows'.length where
 aut:=⟨fun _ _ _ _ a b=>a.unique b,hm.wf.inv⟩
 two:=hm.two
 lt:=fun s x t h=>⟨by obtain ⟨row,h1,_⟩:=h; exact (List.getElem?_eq_some_iff.1 h1).1,live_lt (hm.wf.tgt s x t h)⟩
 r:=live_lt ((hm.cut.live r).2 hr)
theorem rch_live {m r:Nat} {rows rows':List (Option Row)} {o:Option (List Row)} (hm:MadeOf m r rows rows' o) (hr:Live rows r) {v:Nat} (h:Rch (To rows') r v):Live rows' v:=by
 obtain ⟨l,h1,_⟩:=h
 cases h1 with
 | nil=>exact (hm.cut.live r).2 hr
 | step _ h2=>exact hm.wf.tgt _ _ _ h2
theorem pair_num {m a b:Nat} {rA rA' rB rB':List (Option Row)} {oA oB:Option (List Row)} (hA:MadeOf m a rA rA' oA) (hB:MadeOf m b rB rB' oB) (la:Live rA a) (lb:Live rB b)
  (hs:∀ p,Rd p → (Run (To rA') a p a ↔ Run (To rB') b p b)) (K:Nat):numG (rowOf rB') K 0 [b] [] = numG (rowOf rA') K 0 [a] []:=by
 have hP:Pair (To rA') (To rB') a b rA'.length rB'.length:=⟨made_gr hA la,made_gr hB lb,hs⟩
 have h0:to (To rA') (To rB') a b a = b:=hP.spec (p:=[]) trivial (.nil a) (.nil b)
 have:=num_mapG (φ:=to (To rA') (To rB') a b) (P:=Rch (To rA') a) (fun u v hu hv he=>hP.inj hu hv he) (ρ:=rowOf rA') (ρ':=rowOf rB') (fun v hv=>?_) (fun v hv t ht=>?_) K 0 [a] [] (fun v hv=>by
  simp only [List.mem_singleton] at hv; subst hv; exact ⟨[],.nil,by simp [Simp]⟩)
 ·rw [List.map_cons,List.map_nil,h0] at this
  exact this
 ·obtain ⟨e1,e2,_⟩:=row_live hA.wf (rch_live hA la hv)
  obtain ⟨l,k1,k2⟩:=id hv
  obtain ⟨f1,f2,_⟩:=row_live hB.wf (rch_live hB lb (hP.rch k1 k2))
  apply List.ext_getElem?
  intro x
  rw [List.getElem?_map]
  by_cases hx:x < m
  ·have hxa:x < (rowOf rA' v).length:=by rw [e2]; exact hx
   have hxb:x < (rowOf rB' (to (To rA') (To rB') a b v)).length:=by rw [f2]; exact hx
   rw [List.getElem?_eq_getElem hxa,List.getElem?_eq_getElem hxb]
   simp only [Option.map_some,Option.some.injEq]
   cases ha:(rowOf rA' v)[x] with
   | none=>
    cases hb:(rowOf rB' (to (To rA') (To rB') a b v))[x] with
    | none=>rfl
    | some u=>
     exfalso
     obtain ⟨t,ht,_⟩:=hP.back hv (x:=x) (t':=u) ⟨_,f1,by rw [List.getElem?_eq_getElem hxb,hb]⟩
     obtain ⟨row,h1,h2⟩:=ht
     rw [e1] at h1; cases h1
     rw [List.getElem?_eq_getElem hxa,ha] at h2; cases h2
   | some t=>
    have ht:To rA' v x t:=⟨_,e1,by rw [List.getElem?_eq_getElem hxa,ha]⟩
    obtain ⟨row,h1,h2⟩:=hP.step hv ht
    rw [f1] at h1; cases h1
    rw [List.getElem?_eq_getElem hxb] at h2
    exact Option.some.inj h2
  ·rw [List.getElem?_eq_none (by rw [f2]; omega),List.getElem?_eq_none (by rw [e2]; omega)]; rfl
 ·obtain ⟨e1,e2,_⟩:=row_live hA.wf (rch_live hA la hv)
  obtain ⟨x,hx⟩:=List.getElem?_of_mem ht
  obtain ⟨l,k1,k2⟩:=hv
  exact reach_step k1 k2 ⟨_,e1,hx⟩
end Go.Proofs.YtffdjfkekdoeaaaDoor.Pl
end
section
set_option maxRecDepth 4000
set_option maxHeartbeats 2000000
namespace Go.Proofs.YtffdjfkekdoeaaaDoor.Pl
open Fo Rf Wd
theorem idxOf_pre {q q':List Nat} (h:q <+: q') {t:Nat} (ht:t ∈ q):q'.idxOf t = q.idxOf t:=by
 obtain ⟨r,rfl⟩:=h
 rw [List.idxOf_append,if_pos ht]
theorem bfsRow_spec:∀ (row:Row) (q:List Nat),q.Nodup → q <+: (bfsRow row q).1 ∧ (bfsRow row q).1.Nodup ∧ (bfsRow row q).2 = row.map (Option.map (bfsRow row q).1.idxOf) ∧ ∀ t,some t ∈ row → t ∈ (bfsRow row q).1
 | [],q,hq=>⟨List.prefix_refl _,hq,rfl,fun t ht=>by simp at ht⟩
 | none :: l,q,hq=>by
  obtain ⟨h1,h2,h3,h4⟩:=bfsRow_spec l q hq
  refine ⟨h1,h2,?_,fun t ht=>h4 t (by simpa using ht)⟩
  simp only [bfsRow,List.map_cons,Option.map_none]
  rw [← h3]
 | some t :: l,q,hq=>by
  by_cases ht:t ∈ q
  ·obtain ⟨h1,h2,h3,h4⟩:=bfsRow_spec l q hq
   have e:bfsRow (some t :: l) q = ((bfsRow l q).1,some (q.idxOf t) :: (bfsRow l q).2):=by simp only [bfsRow]; rw [if_pos ht]
   rw [e]
   refine ⟨h1,h2,?_,fun u hu=>?_⟩
   ·show some (q.idxOf t) :: (bfsRow l q).2 = some ((bfsRow l q).1.idxOf t) :: l.map (Option.map (bfsRow l q).1.idxOf)
    rw [idxOf_pre h1 ht,← h3]
   ·rcases List.mem_cons.1 hu with hu | hu
    ·cases hu; exact h1.subset ht
    ·exact h4 u hu
  ·have hq':(q ++ [t]).Nodup:=by
    rw [List.nodup_append]
    exact ⟨hq,by simp,fun a ha b hb=>by simp only [List.mem_singleton] at hb; subst hb; exact fun he=>ht (he ▸ ha)⟩
   obtain ⟨h1,h2,h3,h4⟩:=bfsRow_spec l (q ++ [t]) hq'
   have e:bfsRow (some t :: l) q = ((bfsRow l (q ++ [t])).1,some q.length :: (bfsRow l (q ++ [t])).2):=by simp only [bfsRow]; rw [if_neg ht]
   rw [e]
   have hm:t ∈ q ++ [t]:=by simp
   refine ⟨List.IsPrefix.trans (List.prefix_append _ _) h1,h2,?_,fun u hu=>?_⟩
   ·show some q.length :: (bfsRow l (q ++ [t])).2 = some ((bfsRow l (q ++ [t])).1.idxOf t) :: l.map (Option.map (bfsRow l (q ++ [t])).1.idxOf)
    rw [idxOf_pre h1 hm,← h3,List.idxOf_append,if_neg ht]
    simp
   ·rcases List.mem_cons.1 hu with hu | hu
    ·cases hu; exact h1.subset hm
    ·exact h4 u hu
structure NumOf (ρ:Nat → Row) (q0 q:List Nat) (res:List Row):Prop where
 pre:q0 <+: q
 nd:q.Nodup
 len:res.length = q.length
 row:∀ (j v:Nat),q[j]? = some v → res[j]? = some ((ρ v).map (Option.map q.idxOf)) ∧ ∀ t,some t ∈ ρ v → t ∈ q
 all:∀ P:Nat → Prop,(∀ v ∈ q0,P v) → (∀ v,P v → ∀ t,some t ∈ ρ v → P t) → ∀ v ∈ q,P v
theorem numG_spec {ρ:Nat → Row}:∀ (K i:Nat) (q:List Nat) (out res:List Row),q.Nodup → out.length = i → i ≤ q.length → (∀ (j v:Nat),j < i → q[j]? = some v → out[j]? = some ((ρ v).map (Option.map q.idxOf)) ∧ ∀ t,some t ∈ ρ v → t ∈ q) → numG ρ K i q out = some res →
  ∃ q',NumOf ρ q q' res
 | 0,_,_,_,_,_,_,_,_,h=>by simp [numG] at h
 | K + 1,i,q,out,res,hn,ho,hi,hr,h=>by
  simp only [numG] at h
  split at h
  ·rename_i hv
   cases h
   have hl:q.length ≤ i:=by simpa using hv
   refine ⟨q,List.prefix_refl _,hn,by omega,fun j v hj=>hr j v ?_ hj,fun P h1 _=>h1⟩
   have:=(List.getElem?_eq_some_iff.1 hj).1
   omega
  ·rename_i v hv
   have hlt:=(List.getElem?_eq_some_iff.1 hv).1
   obtain ⟨h1,h2,h3,h4⟩:=bfsRow_spec (ρ v) q hn
   have hll:=h1.length_le
   have hstep:∀ (j u:Nat),j < i + 1 → (bfsRow (ρ v) q).1[j]? = some u → (out ++ [(bfsRow (ρ v) q).2])[j]? = some ((ρ u).map (Option.map (bfsRow (ρ v) q).1.idxOf)) ∧ ∀ t,some t ∈ ρ u → t ∈ (bfsRow (ρ v) q).1:=fun j u hj hu=>by
    have hqj:q[j]? = some u:=by
     obtain ⟨tl,htl⟩:=h1
     rw [← htl,List.getElem?_append_left (by omega)] at hu
     exact hu
    by_cases hji:j < i
    ·obtain ⟨k1,k2⟩:=hr j u hji hqj
     refine ⟨?_,fun t ht=>h1.subset (k2 t ht)⟩
     rw [List.getElem?_append_left (by omega),k1]
     congr 1
     refine List.map_congr_left fun o ho'=>?_
     cases o with
     | none=>rfl
     | some t=>simp only [Option.map_some]; rw [idxOf_pre h1 (k2 t ho')]
    ·have hj':j = i:=by omega
     subst hj'
     rw [hv] at hqj; cases hqj
     rw [List.getElem?_append_right (by omega),ho,Nat.sub_self]
     exact ⟨by rw [← h3]; rfl,h4⟩
   obtain ⟨q',hq'⟩:=numG_spec K (i + 1) _ _ res h2 (by simp [ho]) (by omega) hstep h
   exact ⟨q',h1.trans hq'.pre,hq'.nd,hq'.len,hq'.row,fun P p1 p2=>hq'.all P (bfsRow_map (φ:=fun v=>v) (P:=P) (fun u v _ _ h=>h) (ρ v) q (fun t ht=>p2 v (p1 v (List.mem_of_getElem? hv)) t ht) p1).2 p2⟩
theorem num_self {ρ:Nat → Row} {r K:Nat} {res:List Row} (h:numG ρ K 0 [r] [] = some res):∃ q,NumOf ρ [r] q res ∧ numG (fun i=>res.getD i []) K 0 [0] [] = some res:=by
 obtain ⟨q,hq⟩:=numG_spec K 0 [r] [] res (by simp) rfl (by simp) (fun j v hj=>by omega) h
 refine ⟨q,hq,?_⟩
 have hr:r ∈ q:=hq.pre.subset (by simp)
 have h0:q.idxOf r = 0:=by rw [idxOf_pre hq.pre (by simp)]; simp
 have:=num_mapG (φ:=q.idxOf) (P:=fun v=>v ∈ q) (fun u v hu hv he=>?_) (ρ:=ρ) (ρ':=fun i=>res.getD i []) (fun v hv=>?_) (fun v hv t ht=>?_) K 0 [r] [] (fun v hv=>by simp only [List.mem_singleton] at hv; subst hv; exact hr)
 ·rw [List.map_cons,List.map_nil,h0,h] at this
  exact this
 ·have h1:=List.getElem_idxOf (List.idxOf_lt_length_iff.2 hu)
  have h2:=List.getElem_idxOf (List.idxOf_lt_length_iff.2 hv)
  rw [← h1,← h2]
  simp only [he]
 ·have hlt:=List.idxOf_lt_length_iff.2 hv
  have hg:q[q.idxOf v]? = some v:=by rw [List.getElem?_eq_getElem hlt,List.getElem_idxOf hlt]
  obtain ⟨k1,_⟩:=hq.row _ _ hg
  show res.getD (q.idxOf v) [] = _
  rw [List.getD_eq_getElem?_getD,k1]; rfl
 ·have hlt:=List.idxOf_lt_length_iff.2 hv
  have hg:q[q.idxOf v]? = some v:=by rw [List.getElem?_eq_getElem hlt,List.getElem_idxOf hlt]
  exact (hq.row _ _ hg).2 t ht
end Go.Proofs.YtffdjfkekdoeaaaDoor.Pl
end
section
set_option maxRecDepth 4000
set_option maxHeartbeats 2000000
namespace Go.Proofs.YtffdjfkekdoeaaaDoor.Pl
open Fo Rf Wd
theorem edges_mem:∀ (row:List Int) (y:Nat) (e:Int × Int × Unit),e ∈ edgesFrom y row → ∃ i,row[i]? = some e.2.1 ∧ e.1 = ((y + i:Nat):Int) ∧ 0 ≤ e.2.1
 | [],y,e,h=>by simp [edgesFrom] at h
 | t :: l,y,e,h=>by
  simp only [edgesFrom] at h
  split at h
  ·rename_i ht
   rcases List.mem_cons.1 h with rfl | h
   ·exact ⟨0,rfl,rfl,ht⟩
   ·obtain ⟨i,h1,h2,h3⟩:=edges_mem l (y + 1) e h
    exact ⟨i + 1,h1,by rw [h2]; congr 1; omega,h3⟩
  ·obtain ⟨i,h1,h2,h3⟩:=edges_mem l (y + 1) e h
   exact ⟨i + 1,h1,by rw [h2]; congr 1; omega,h3⟩
structure Auto (m r:Nat) (rows':List (Option Row)) (q:List Nat) (R:List Row):Prop where
 num:NumOf (rowOf rows') [r] q R
 live:∀ v ∈ q,Live rows' v
 inn:∀ v ∈ q,v = r ∨ ∃ u x,To rows' u x v
 first:q[0]? = some r
 len:∀ row ∈ R,row.length = m
 to:∀ (j v x:Nat),q[j]? = some v → ∀ i,(∃ row,R[j]? = some row ∧ row[x]? = some (some i)) ↔ ∃ t,To rows' v x t ∧ q[i]? = some t
theorem auto_of {m r K:Nat} {rows rows':List (Option Row)} {o:Option (List Row)} {R:List Row} (hm:MadeOf m r rows rows' o) (hr:Live rows r) (h:numG (rowOf rows') K 0 [r] [] = some R):∃ q,Auto m r rows' q R:=by
 obtain ⟨q,hq⟩:=numG_spec K 0 [r] [] R (by simp) rfl (by simp) (fun j v hj=>by omega) h
 have hall:=hq.all (fun v=>Live rows' v ∧ (v = r ∨ ∃ u x,To rows' u x v)) (fun v hv=>by simp only [List.mem_singleton] at hv; subst hv; exact ⟨(hm.cut.live v).2 hr,.inl rfl⟩) (fun v hv t ht=>by
  obtain ⟨e1,e2,e3⟩:=row_live hm.wf hv.1
  obtain ⟨x,hx⟩:=List.getElem?_of_mem ht
  exact ⟨e3 t ht,.inr ⟨v,x,_,e1,hx⟩⟩)
 refine ⟨q,hq,fun v hv=>(hall v hv).1,fun v hv=>(hall v hv).2,?_,fun row hrow=>?_,fun j v x hj i=>?_⟩
 ·obtain ⟨tl,htl⟩:=hq.pre
  rw [← htl]; rfl
 ·obtain ⟨j,hj⟩:=List.getElem?_of_mem hrow
  have hlt:j < q.length:=by rw [← hq.len]; exact (List.getElem?_eq_some_iff.1 hj).1
  have hg:q[j]? = some q[j]:=List.getElem?_eq_getElem hlt
  obtain ⟨k1,_⟩:=hq.row j _ hg
  rw [hj] at k1; cases k1
  rw [List.length_map]
  exact (row_live hm.wf (hall _ (List.getElem_mem hlt)).1).2.1
 ·obtain ⟨k1,k2⟩:=hq.row j v hj
  obtain ⟨e1,e2,e3⟩:=row_live hm.wf (hall v (List.mem_of_getElem? hj)).1
  constructor
  ·rintro ⟨row,h1,h2⟩
   rw [k1] at h1; cases h1
   rw [List.getElem?_map] at h2
   cases hx:(rowOf rows' v)[x]? with
   | none=>rw [hx] at h2; cases h2
   | some o=>
    rw [hx] at h2
    cases o with
    | none=>cases h2
    | some t=>
     simp only [Option.map_some,Option.some.injEq] at h2
     have ht:=k2 t (List.mem_of_getElem? hx)
     have hlt:=List.idxOf_lt_length_iff.2 ht
     refine ⟨t,⟨_,e1,hx⟩,?_⟩
     rw [← h2,List.getElem?_eq_getElem hlt,List.getElem_idxOf hlt]
  ·rintro ⟨t,⟨row,h1,h2⟩,h3⟩
   rw [e1] at h1; cases h1
   refine ⟨_,k1,?_⟩
   rw [List.getElem?_map,h2]
   simp only [Option.map_some,Option.some.injEq]
   have hlt:=(List.getElem?_eq_some_iff.1 h3)
   obtain ⟨hi,ht⟩:=hlt
   rw [← ht]
   exact hq.nd.idxOf_getElem i hi
theorem accF_get {n s:Nat} (h:s < n):(accF n).getD s false = (s == 0):=by
 unfold accF
 rw [List.getD_eq_getElem?_getD,List.getElem?_map,List.getElem?_range h]; rfl
theorem next_get {R:List Row} {j x i:Nat} {row:Row} (h1:R[j]? = some row) (h2:row[x]? = some (some i)):getN (R.map (·.map ofO)) j x = (i:Int):=by
 have e:(R.map (·.map ofO)).getD j [] = row.map ofO:=by rw [List.getD_eq_getElem?_getD,List.getElem?_map,h1]; rfl
 unfold getN
 rw [e,List.getD_eq_getElem?_getD,List.getElem?_map,h2]; rfl
theorem Auto.next {m r:Nat} {rows':List (Option Row)} {q:List Nat} {R:List Row} (h:Auto m r rows' q R) {v x t:Nat} {j:Nat} (hj:q[j]? = some v) (ht:To rows' v x t):∃ i:Nat,q[i]? = some t:=by
 obtain ⟨row,h1,h2⟩:=ht
 have:rowOf rows' v = row:=by unfold rowOf; rw [h1]
 have hm:=(h.num.row j v hj).2 t (by rw [this]; exact List.mem_of_getElem? h2)
 exact List.getElem?_of_mem hm
theorem good {k r K:Nat} (hk:1 ≤ k ∧ k ≤ 8) {rows rows':List (Option Row)} {o:Option (List Row)} {q:List Nat} {R:List Row} (hm:MadeOf (2 * k) r rows rows' o) (hA:Auto (2 * k) r rows' q R) (h2:R.length ≤ 2000) (h:numG (rowOf rows') K 0 [r] [] = some R) :
  (autE k R).check (k:Int) = 0:=by
 have hql:=hA.num.len
 have h1:1 ≤ R.length:=by
  rw [hql]
  have:=(List.getElem?_eq_some_iff.1 hA.first).1
  omega
 have tgt:∀ row ∈ R,∀ t,some t ∈ row → t < R.length:=fun row hrow t ht=>by
  obtain ⟨j,hj⟩:=List.getElem?_of_mem hrow
  obtain ⟨x,hx⟩:=List.getElem?_of_mem ht
  have hlt:j < q.length:=by rw [← hql]; exact (List.getElem?_eq_some_iff.1 hj).1
  obtain ⟨u,_,hu⟩:=(hA.to j _ x (List.getElem?_eq_getElem hlt) t).1 ⟨row,hj,hx⟩
  rw [hql]; exact (List.getElem?_eq_some_iff.1 hu).1
 have hrows:∀ rr ∈ (R.map (·.map ofO)),rr.length = 2 * k ∧ ∀ t ∈ rr,-1 ≤ t ∧ t < ((R.map (·.map ofO)).length:Int):=fun rr hrr=>by
  obtain ⟨row,hrow,rfl⟩:=List.mem_map.1 hrr
  refine ⟨by rw [List.length_map]; exact hA.len row hrow,fun t ht=>?_⟩
  obtain ⟨o,ho,rfl⟩:=List.mem_map.1 ht
  rw [List.length_map]
  cases o with
  | none=>simp only [ofO]; omega
  | some i=>have:=tgt row hrow i ho; simp only [ofO]; omega
 have hloc:∀ (s:Nat) (rr:List Int),(R.map (·.map ofO))[s]? = some rr → rowLocal (R.map (·.map ofO)) s rr = true:=fun s rr hs=>by
  rw [List.getElem?_map] at hs
  cases hR:R[s]? with
  | none=>rw [hR] at hs; cases hs
  | some row=>
   rw [hR] at hs
   simp only [Option.map_some,Option.some.injEq] at hs
   subst hs
   unfold rowLocal
   rw [List.all_eq_true]
   intro e he
   obtain ⟨i,e1,e2,e3⟩:=edges_mem _ 0 e he
   rw [List.getElem?_map] at e1
   cases hi:row[i]? with
   | none=>rw [hi] at e1; cases e1
   | some o=>
    rw [hi] at e1
    cases o with
    | none=>simp only [Option.map_some,ofO,Option.some.injEq] at e1; omega
    | some t=>
     simp only [Option.map_some,ofO,Option.some.injEq] at e1
     have hlt:s < q.length:=by rw [← hql]; exact (List.getElem?_eq_some_iff.1 hR).1
     have hg:q[s]? = some q[s]:=List.getElem?_eq_getElem hlt
     obtain ⟨u,k1,k2⟩:=(hA.to s _ i hg t).1 ⟨row,hR,hi⟩
     obtain ⟨row',f1,f2⟩:=(hA.to t u (i ^^^ 1) k2 s).2 ⟨_,hm.wf.inv _ _ _ k1,hg⟩
     rw [← e1,e2,Nat.zero_add,Int.toNat_natCast,Int.toNat_natCast,next_get f1 f2]
     simp
 have hdeg:∀ (s:Nat) (row:Row),R[s]? = some row → 0 < s → 2 ≤ degF row:=fun s row hR hs=>by
  have hlt:s < q.length:=by rw [← hql]; exact (List.getElem?_eq_some_iff.1 hR).1
  have hg:q[s]? = some q[s]:=List.getElem?_eq_getElem hlt
  have hne:q[s] ≠ r:=fun he=>by
   have h0:=(List.getElem?_eq_some_iff.1 hA.first)
   obtain ⟨h00,h01⟩:=h0
   have:=(List.getElem_inj (h₀:=hlt) (h₁:=h00) hA.num.nd).1 (by rw [he,h01])
   omega
  rcases hA.inn _ (List.getElem_mem hlt) with he | ⟨u,x,hu⟩
  ·exact absurd he hne
  ·have hb:=hm.wf.inv _ _ _ hu
   obtain ⟨x',t',hx,hb'⟩:=hm.two _ _ _ hb hne
   obtain ⟨i,hi⟩:=hA.next hg hb
   obtain ⟨i',hi'⟩:=hA.next hg hb'
   obtain ⟨r1,a1,a2⟩:=(hA.to s _ _ hg i).2 ⟨_,hb,hi⟩
   obtain ⟨r2,b1,b2⟩:=(hA.to s _ _ hg i').2 ⟨_,hb',hi'⟩
   rw [hR] at a1 b1
   cases a1; cases b1
   by_cases hd:degF row ≤ 1
   ·exact absurd (deg_one row hd _ _ _ _ b2 a2) hx
   ·omega
 have hlen:(accF R.length).length = R.length:=by unfold accF; simp
 have hfsa:fsaF ((2 * k:Nat):Int) 0 (accF R.length) (R.map (·.map ofO)) = 0:=by
  unfold fsaF
  rw [if_neg (by rw [hlen,List.length_map]; omega),if_neg]
  rw [Bool.not_eq_true,List.any_eq_false]
  intro rr hrr
  obtain ⟨g1,g2⟩:=hrows rr hrr
  unfold badRow
  rw [Bool.not_eq_true,Bool.or_eq_false_iff]
  refine ⟨by simp [g1],?_⟩
  rw [List.any_eq_false]
  intro t ht
  have:=g2 t ht
  rw [List.length_map] at this
  rw [hlen]
  simp; omega
 have hI:isM (k:Int) (autE k R) = true:=by
  have hacc0:(accF R.length).getD 0 false = true:=by rw [accF_get (by omega)]; rfl
  unfold isM
  show (decide (fsaF ((2 * k:Nat):Int) 0 (accF R.length) (R.map (·.map ofO)) = 0) && (decide (((2 * k:Nat):Int) = 2 * (k:Int)) && (decide (1 ≤ (accF R.length).length) && (decide ((accF R.length).length ≤ 2000) && (decide ((0:Int) = 0) && ((accF R.length).getD 0 false && (localAll (accF R.length) (R.map (·.map ofO)) 0 (R.map (·.map ofO)) && sameF (autE k R) (autE k (numR k (R.map (·.map ofO)))))))))) ) = true
  have hla:localAll (accF R.length) (R.map (·.map ofO)) 0 (R.map (·.map ofO)) = true:=by
   rw [localAll_iff]
   intro s rr hs
   rw [Nat.zero_add]
   refine (localS_iff hacc0).2 ⟨accF_get (by have:=(List.getElem?_eq_some_iff.1 hs).1; simpa using this),fun h0=>?_,hloc s rr hs⟩
   rw [List.getElem?_map] at hs
   cases hR:R[s]? with
   | none=>rw [hR] at hs; cases hs
   | some row=>
    rw [hR] at hs
    simp only [Option.map_some,Option.some.injEq] at hs
    subst hs
    have e:(row.map ofO).map toO = row:=by
     rw [List.map_map]
     conv=>rhs; rw [← List.map_id row]
     exact List.map_congr_left fun o _=>toO_ofO o
    rw [e]
    exact hdeg s row hR h0
  have hnum:numR k (R.map (·.map ofO)) = R:=by
   obtain ⟨q',hq',hself⟩:=num_self h
   have hlt:=graphL_lt (k:=k) (next:=R.map (·.map ofO)) (fun rr hrr t ht=>((hrows rr hrr).2 t ht).2) (by rw [List.length_map]; omega)
   obtain ⟨res,hres⟩:=numE_some (k:=k) hlt ((R.map (·.map ofO)).length + 1) 0 [0] [] (by simp) (by simp; omega) (by simp) (by omega)
   have hmap:=num_map (φ:=fun v=>v) (P:=fun v=>v < R.length) (fun u v _ _ h=>h) (k:=k) (es:=graphL k 0 (R.map (·.map ofO))) (ρ:=fun i=>R.getD i []) (fun v hv=>?_) (fun v hv t ht=>?_) ((R.map (·.map ofO)).length + 1) 0 [0] [] (by simp; omega)
   ·rw [show List.map (fun v:Nat=>v) [0] = [0] from rfl] at hmap
    rw [hmap] at hres
    have a1:=numG_fuel _ (K + (R.map (·.map ofO)).length + 1) _ _ _ _ (by omega) hres
    have a2:=numG_fuel _ (K + (R.map (·.map ofO)).length + 1) _ _ _ _ (by omega) hself
    rw [a2] at a1
    unfold numR
    rw [hmap,hres]
    exact (Option.some.inj a1).symm
   ·have hRv:R[v]? = some R[v]:=List.getElem?_eq_getElem hv
    have e1:R.getD v [] = R[v]:=by rw [List.getD_eq_getElem?_getD,hRv]; rfl
    show rowE k _ v = (R.getD v []).map (Option.map fun v=>v)
    rw [e1]
    apply List.ext_getElem?
    intro x
    have hl:=hA.len _ (List.getElem_mem hv)
    by_cases hx:x < 2 * k
    ·rw [rowE_get hx,step_graph hk.2 hrows hloc (by rw [List.length_map]; exact hv) hx]
     have hxl:x < R[v].length:=by omega
     rw [List.getElem?_map,List.getElem?_eq_getElem hxl]
     have e:(R.map (·.map ofO)).getD v [] = R[v].map ofO:=by rw [List.getD_eq_getElem?_getD,List.getElem?_map,hRv]; rfl
     unfold getN
     rw [e,List.getD_eq_getElem?_getD,List.getElem?_map,List.getElem?_eq_getElem hxl]
     simp only [Option.map_some,Option.getD_some,toO_ofO]
     cases R[v][x] <;> rfl
    ·rw [List.getElem?_eq_none (by rw [rowE_len]; omega),List.getElem?_eq_none (by rw [List.length_map]; omega)]
   ·have hRv:R[v]? = some R[v]:=List.getElem?_eq_getElem hv
    have e1:R.getD v [] = R[v]:=by rw [List.getD_eq_getElem?_getD,hRv]; rfl
    have ht:some t ∈ R.getD v []:=ht
    rw [e1] at ht
    exact tgt _ (List.getElem_mem hv) t ht
  rw [hfsa,hacc0,hla,hnum]
  have e2:decide (((2 * k:Nat):Int) = 2 * (k:Int)) = true:=by simp
  rw [e2,hlen,decide_eq_true h1,decide_eq_true h2]
  simp [sameF]
 have:=isM_check (k:=(k:Int)) (by omega) (autE k R)
 rw [hI] at this
 exact of_decide_eq_true this.symm
end Go.Proofs.YtffdjfkekdoeaaaDoor.Pl
end
section
set_option maxRecDepth 4000
set_option maxHeartbeats 2000000
namespace Go.Proofs.YtffdjfkekdoeaaaDoor.Pl
open Fo Rf Wd
def ix (b:UInt8):Nat:=(idxF (ofB b)).toNat
theorem ix_L {x:Nat} (h:x < 16):ix (L x) = x:=by
 have:=L_idx ⟨x,h⟩
 dsimp only at this
 unfold ix; rw [this]; rfl
theorem other_L {x:Nat} (h:x < 16):otherB (L x) = L (x ^^^ 1):=L_other ⟨x,h⟩
theorem xor16 {x:Nat} (h:x < 16):x ^^^ 1 < 16:=(xor_xor ⟨x,h⟩).2
def rawF (s:ByteArray):List Nat:=s.data.toList.map ix
theorem red_step {out:List UInt8} {c:UInt8} (ho:Good out) (hc:∃ x,x < 16 ∧ c = L x):(redStep out c).map ix = rdS (out.map ix) (ix c) ∧ Good (redStep out c):=by
 obtain ⟨x,hx,rfl⟩:=hc
 unfold redStep rdS
 rw [List.getLast?_map]
 cases hl:out.getLast? with
 | none=>
  rw [if_neg (by simp),if_neg (by simp)]
  refine ⟨by simp,ho.app fun b hb=>?_⟩
  simp only [List.mem_singleton] at hb
  exact ⟨x,hx,hb⟩
 | some d=>
  obtain ⟨z,hz,rfl⟩:=ho d (List.mem_of_getLast? hl)
  have hiff:L z = otherB (L x) ↔ ix (L z) = ix (L x) ^^^ 1:=by
   rw [other_L hx,ix_L hz,ix_L hx]
   constructor
   ·intro h
    have:=congrArg ix h
    rwa [ix_L hz,ix_L (xor16 hx)] at this
   ·intro h; rw [h]
  simp only [Option.map_some,Option.some.injEq]
  by_cases h:L z = otherB (L x)
  ·rw [if_pos h,if_pos (hiff.1 h)]
   exact ⟨List.map_dropLast ..,fun b hb=>ho b ((List.dropLast_sublist out).mem hb)⟩
  ·rw [if_neg h,if_neg (fun k=>h (hiff.2 k))]
   refine ⟨by simp,ho.app fun b hb=>?_⟩
   simp only [List.mem_singleton] at hb
   exact ⟨x,hx,hb⟩
theorem red_raw:∀ (l out:List UInt8),Good out → Good l → (l.foldl redStep out).map ix = act (out.map ix) (l.map ix)
 | [],out,_,_=>rfl
 | c :: l,out,ho,hl=>by
  obtain ⟨h1,h2⟩:=red_step ho (hl c (by simp))
  have:=red_raw l (redStep out c) h2 fun b hb=>hl b (by simp [hb])
  rw [List.foldl_cons,this,h1]; rfl
theorem good_word {k:Int} {s:ByteArray} (h:checkF k s = 0):Good s.data.toList:=fun b hb=>by
 obtain ⟨h1,h2,h3,h4⟩:=check_bad h
 unfold hasBad at h4
 rw [List.any_eq_false] at h4
 have:=h4 b hb
 rw [Bool.not_eq_true] at this
 simp only [badF,Bool.or_eq_false_iff] at this
 have t1:=of_decide_eq_false this.1
 have t2:=of_decide_eq_false this.2.1
 obtain ⟨x,hx⟩:=L_of ⟨b.toNat,UInt8.toNat_lt b⟩ (by dsimp only; omega) (by dsimp only; omega)
 refine ⟨x.val,x.isLt,?_⟩
 dsimp only at hx
 rw [← hx]
 simp
theorem word_raw {s:ByteArray} (h:Good s.data.toList):wordF s = rd (rawF s):=red_raw s.data.toList [] (fun b hb=>by simp at hb) h
theorem same_raw {s:ByteArray} (h:Good s.data.toList):Same (wordF s) (rawF s):=by rw [word_raw h]; exact same_rd _
theorem raw_app (a b:ByteArray):rawF (a ++ b) = rawF a ++ rawF b:=by unfold rawF; rw [app_list,List.map_append]
theorem raw_inv {s:ByteArray} (h:Good s.data.toList) (h8:checkF 8 s = 0):rawF (InverseF s) = inv (rawF s):=by
 unfold InverseF
 rw [if_pos h8]
 unfold rawF inv invF
 show ((s.data.toList.map otherB).reverse.toArray).toList.map ix = _
 rw [List.toList_toArray,List.map_reverse,List.map_map,List.map_map]
 congr 1
 refine List.map_congr_left fun b hb=>?_
 obtain ⟨x,hx,rfl⟩:=h b hb
 show ix (otherB (L x)) = ix (L x) ^^^ 1
 rw [other_L hx,ix_L hx,ix_L (xor16 hx)]
theorem word_inv {s:ByteArray} (h:Good s.data.toList) (h8:checkF 8 s = 0):Good (InverseF s).data.toList ∧ Same (wordF (InverseF s)) (inv (wordF s)):=by
 have hg:Good (InverseF s).data.toList:=by
  unfold InverseF
  rw [if_pos h8]
  exact h.inv
 refine ⟨hg,(same_raw hg).trans ?_⟩
 rw [raw_inv h h8]
 exact (same_raw h).symm.inv
end Go.Proofs.YtffdjfkekdoeaaaDoor.Pl
end
section
set_option maxRecDepth 4000
set_option maxHeartbeats 2000000
namespace Go.Proofs.YtffdjfkekdoeaaaDoor.Pl
open Fo Rf Wd
section
variable {m r:Nat} {rows':List (Option Row)} {q:List Nat} {R:List Row}
theorem Auto.getN (h:Auto m r rows' q R) {j v x:Nat} (hj:q[j]? = some v) (hx:x < m):(∃ t i:Nat,To rows' v x t ∧ q[i]? = some t ∧ Fo.getN (R.map (·.map ofO)) j x = (i:Int)) ∨ ((∀ t,¬ To rows' v x t) ∧ Fo.getN (R.map (·.map ofO)) j x = -1):=by
 obtain ⟨k1,k2⟩:=h.num.row j v hj
 have hl:=h.len _ (List.mem_of_getElem? k1)
 have hxl:x < ((rowOf rows' v).map (Option.map q.idxOf)).length:=by rw [hl]; exact hx
 cases ho:((rowOf rows' v).map (Option.map q.idxOf))[x] with
 | some i=>
  have hx':((rowOf rows' v).map (Option.map q.idxOf))[x]? = some (some i):=by rw [List.getElem?_eq_getElem hxl,ho]
  obtain ⟨t,h1,h2⟩:=(h.to j v x hj i).1 ⟨_,k1,hx'⟩
  exact .inl ⟨t,i,h1,h2,next_get k1 hx'⟩
 | none=>
  refine .inr ⟨fun t ht=>?_,?_⟩
  ·obtain ⟨i,hi⟩:=h.next hj ht
   obtain ⟨row,e1,e2⟩:=(h.to j v x hj i).2 ⟨t,ht,hi⟩
   rw [k1] at e1; cases e1
   rw [List.getElem?_eq_getElem hxl,ho] at e2; cases e2
  ·have e:(R.map (·.map ofO)).getD j [] = ((rowOf rows' v).map (Option.map q.idxOf)).map ofO:=by rw [List.getD_eq_getElem?_getD,List.getElem?_map,k1]; rfl
   unfold Fo.getN
   rw [e,List.getD_eq_getElem?_getD,List.getElem?_map,List.getElem?_eq_getElem hxl,ho]; rfl
theorem Auto.leads (h:Auto m r rows' q R):∀ (l:List Nat) (j v:Nat),q[j]? = some v → (∀ x ∈ l,x < m) → ∀ (i t:Nat),q[i]? = some t → (leadsF (R.map (·.map ofO)) l j = (i:Int) ↔ Run (To rows') v l t)
 | [],j,v,hj,_,i,t,hi=>by
  simp only [leadsF]
  constructor
  ·intro he
   have:j = i:=by omega
   subst this
   rw [hj] at hi; cases hi
   exact .nil v
  ·intro hr
   cases hr
   obtain ⟨h1,h2⟩:=List.getElem?_eq_some_iff.1 hj
   obtain ⟨h3,h4⟩:=List.getElem?_eq_some_iff.1 hi
   have:=(List.getElem_inj (h₀:=h1) (h₁:=h3) h.num.nd).1 (by rw [h2,h4])
   omega
 | x :: l,j,v,hj,hl,i,t,hi=>by
  have hx:=hl x (by simp)
  have hrest:∀ y ∈ l,y < m:=fun y hy=>hl y (by simp [hy])
  have hs:leadsF (R.map (·.map ofO)) (x :: l) j = if Fo.getN (R.map (·.map ofO)) j x < 0 then Fo.getN (R.map (·.map ofO)) j x else leadsF (R.map (·.map ofO)) l (Fo.getN (R.map (·.map ofO)) j x).toNat:=rfl
  rw [hs]
  rcases h.getN hj hx with ⟨u,a,h1,h2,h3⟩ | ⟨h1,h3⟩
  ·rw [h3,if_neg (by omega),Int.toNat_natCast,Auto.leads h l a u h2 hrest i t hi]
   constructor
   ·exact fun hr=>.cons h1 hr
   ·intro hr
    cases hr with
    | cons k1 k2=>
     have:=h1.unique k1
     subst this
     exact k2
  ·rw [h3,if_pos (by omega)]
   constructor
   ·intro he; omega
   ·intro hr
    cases hr with
    | cons k1 k2=>exact absurd k1 (h1 _)
end
theorem reads {k:Nat} {gens:List ByteArray} {st:St} (hi:Inv (allE 1 (gens.map wordF)) st) (h0:0 < st.par.length) {rows':List (Option Row)} {o:Option (List Row)} (hm:MadeOf (2 * k) (rt st.par 0) (RowsOf st) rows' o) {q:List Nat} {R:List Row}
  (hA:Auto (2 * k) (rt st.par 0) rows' q R) {l:List Nat} (hl:Rd l) (hx:∀ x ∈ l,x < 2 * k):leadsF (R.map (·.map ofO)) l 0 = 0 ↔ Mem (gens.map wordF) l:=by
 rw [← lang_cut hi hm hl]
 exact hA.leads l 0 _ hA.first hx 0 _ hA.first
end Go.Proofs.YtffdjfkekdoeaaaDoor.Pl
end
section
set_option maxRecDepth 4000
set_option maxHeartbeats 2000000
namespace Go.Proofs.YtffdjfkekdoeaaaDoor.Pl
open Fo Rf Wd
def wordB (T:Tree) (s:Nat) (x t:Int):ByteArray:=ReduceF (T.paths.getD s ⟨#[]⟩ ++ letS x ++ InverseF (T.paths.getD t.toNat ⟨#[]⟩))
theorem basE_iff {T:Tree} {s:Nat} {b:ByteArray}:∀ (l:List (Int × Int × Unit)) (B:Bas),b ∈ (basE T s l B).basis ↔ b ∈ B.basis ∨ ∃ x t u,(x,t,u) ∈ l ∧ x.toNat % 2 = 0 ∧ ((s:Int),x) ∉ T.keys ∧ b = wordB T s x t
 | [],B=>by simp [basE]
 | (x,t,u) :: l,B=>by
  simp only [basE]
  split
  ·rename_i hc
   rw [basE_iff l]
   simp only [List.mem_append,List.mem_cons,List.not_mem_nil,or_false]
   constructor
   ·rintro ((h | h) | ⟨x',t',u',h1,h2⟩)
    ·exact .inl h
    ·exact .inr ⟨x,t,u,.inl rfl,hc.1,hc.2,h⟩
    ·exact .inr ⟨x',t',u',.inr h1,h2⟩
   ·rintro (h | ⟨x',t',u',h1 | h1,h2,h3,h4⟩)
    ·exact .inl (.inl h)
    ·simp only [Prod.mk.injEq] at h1
     obtain ⟨rfl,rfl,_⟩:=h1
     exact .inl (.inr h4)
    ·exact .inr ⟨x',t',u',h1,h2,h3,h4⟩
  ·rename_i hc
   rw [basE_iff l]
   simp only [List.mem_cons]
   constructor
   ·rintro (h | ⟨x',t',u',h1,h2⟩)
    ·exact .inl h
    ·exact .inr ⟨x',t',u',.inr h1,h2⟩
   ·rintro (h | ⟨x',t',u',h1 | h1,h2,h3,h4⟩)
    ·exact .inl h
    ·simp only [Prod.mk.injEq] at h1
     obtain ⟨rfl,rfl,_⟩:=h1
     exact absurd ⟨h2,h3⟩ hc
    ·exact .inr ⟨x',t',u',h1,h2,h3,h4⟩
theorem basR_iff {T:Tree} {b:ByteArray}:∀ (l:List (List Int)) (s:Nat) (B:Bas),b ∈ (basR T s l B).basis ↔ b ∈ B.basis ∨ ∃ i row,l[i]? = some row ∧ ∃ x t u,(x,t,u) ∈ edgesFrom 0 row ∧ x.toNat % 2 = 0 ∧ (((s + i:Nat):Int),x) ∉ T.keys ∧ b = wordB T (s + i) x t
 | [],s,B=>by simp [basR]
 | r :: l,s,B=>by
  simp only [basR]
  rw [basR_iff l (s + 1),basE_iff]
  constructor
  ·rintro ((h | h) | ⟨i,row,h1,h2⟩)
   ·exact .inl h
   ·exact .inr ⟨0,r,rfl,h⟩
   ·refine .inr ⟨i + 1,row,h1,?_⟩
    rw [show s + (i + 1) = s + 1 + i by omega]; exact h2
  ·rintro (h | ⟨i,row,h1,h2⟩)
   ·exact .inl (.inl h)
   ·cases i with
    | zero=>
     simp only [List.getElem?_cons_zero,Option.some.injEq] at h1
     subst h1
     exact .inl (.inr h2)
    | succ i=>
     refine .inr ⟨i,row,h1,?_⟩
     rw [show s + 1 + i = s + (i + 1) by omega]; exact h2
def pathR' (T:Tree) (s:Nat):List Nat:=rawF (T.paths.getD s ⟨#[]⟩)
section
variable {k:Int} {a:Aut}
theorem path_good (hk:k ≤ 8) (hc:a.check k = 0) {s:Nat} (hs:s < a.next.length):Good ((treeF a.next).paths.getD s ⟨#[]⟩).data.toList ∧ checkF 8 ((treeF a.next).paths.getD s ⟨#[]⟩) = 0 ∧ ((treeF a.next).paths.getD s ⟨#[]⟩).size ≤ 2000:=by
 obtain ⟨h1,h2,h3⟩:=tree_ok hk hc
 obtain ⟨_,_,n1,n2,_⟩:=check_spec hc
 have hm:=path_mem (T:=treeF a.next) (s:=s) (by rw [h1.len]; exact hs)
 have hg:Good ((treeF a.next).paths.getD s ⟨#[]⟩).data.toList:=h2.good _ hm
 have hz:=h1.small _ hm
 have:((treeF a.next).paths.getD s ⟨#[]⟩).size ≤ 2000:=by omega
 exact ⟨hg,check_good hg (by omega),this⟩
theorem letS_good {x:Nat} (h:x < 16):Good (letS (x:Int)).data.toList:=fun b hb=>by
 rw [letS_list] at hb
 simp only [List.mem_singleton] at hb
 exact ⟨x,h,hb⟩
theorem letS_raw {x:Nat} (h:x < 16):rawF (letS (x:Int)) = [x]:=by
 unfold rawF
 rw [letS_list,List.map_cons,ix_L h]; rfl
theorem wordB_same (hk:k ≤ 8) (hc:a.check k = 0) {s x t:Nat} (hs:s < a.next.length) (ht:t < a.next.length) (hx:x < 16) :
  Same (wordF (wordB (treeF a.next) s (x:Int) (t:Int))) (pathR' (treeF a.next) s ++ [x] ++ inv (pathR' (treeF a.next) t)):=by
 obtain ⟨g1,c1,z1⟩:=path_good hk hc hs
 obtain ⟨g2,c2,z2⟩:=path_good hk hc ht
 obtain ⟨g3,_⟩:=word_inv g2 c2
 unfold wordB pathR'
 rw [Int.toNat_natCast]
 generalize hA:(treeF a.next).paths.getD s ⟨#[]⟩ = A at *
 generalize hB:(treeF a.next).paths.getD t ⟨#[]⟩ = B at *
 have hg:Good (A ++ letS (x:Int) ++ InverseF B).data.toList:=by
  rw [app_list,app_list]
  exact (g1.app (letS_good hx)).app g3
 have hinv:(InverseF B).size ≤ 2000:=by
  unfold InverseF
  rw [if_pos c2,size_list]
  unfold invF
  simp
  rw [size_list] at z2
  simpa using z2
 have hsz:(A ++ letS (x:Int) ++ InverseF B).size ≤ 100000:=by
  have e1:(letS (x:Int)).size = 1:=by rw [size_list,letS_list]; rfl
  have e2:=size_list (InverseF B)
  have e3:=size_list A
  have e4:=size_list (letS (x:Int))
  rw [size_list,app_list,app_list,List.length_append,List.length_append]
  omega
 have hck:=check_good hg hsz
 have e:wordF (ReduceF (A ++ letS (x:Int) ++ InverseF B)) = wordF (A ++ letS (x:Int) ++ InverseF B):=by
  unfold wordF
  have:(ReduceF (A ++ letS (x:Int) ++ InverseF B)).data.toList = redF (A ++ letS (x:Int) ++ InverseF B).data.toList:=by
   unfold ReduceF; rw [if_pos hck]
  rw [this]
  have h2:redF (redF (A ++ letS (x:Int) ++ InverseF B).data.toList) = redF (A ++ letS (x:Int) ++ InverseF B).data.toList:=redF_red _
  rw [h2]
 rw [e]
 refine (same_raw hg).trans ?_
 rw [raw_app,raw_app,letS_raw hx,raw_inv g2 c2]
 exact Same.refl _
theorem tree_same (hk:k ≤ 8) (hc:a.check k = 0) {s x t:Nat} (ht:getN a.next s x = (t:Int)) (hkey:((s:Int),(x:Int)) ∈ (treeF a.next).keys):Same (pathR' (treeF a.next) s ++ [x] ++ inv (pathR' (treeF a.next) t)) []:=by
 obtain ⟨h1,h2,h3⟩:=tree_ok hk hc
 obtain ⟨u',y',t',e1,e2,e3,e4,e5,e6,e7,e8,e9⟩:=h2.keyw _ _ hkey
 have e1:s = u':=by omega
 have e2:x = y':=by omega
 subst e1 e2
 rw [ht] at e4
 have e4:t = t':=by omega
 subst e4
 obtain ⟨_,_,n1,n2,_⟩:=check_spec hc
 have hx:x < 16:=by omega
 unfold pathR' rawF
 rcases e9 with e9 | e9
 ·rw [e9,List.map_append,List.map_cons,ix_L hx]
  exact same_inv _
 ·rw [e9,List.map_append,List.map_cons,ix_L (xor16 hx)]
  generalize ((treeF a.next).paths.getD t ⟨#[]⟩).data.toList.map ix = Q
  have e:Q ++ [x ^^^ 1] ++ [x] ++ inv Q = Q ++ [x ^^^ 1,x] ++ inv Q:=by simp
  show Same (Q ++ [x ^^^ 1] ++ [x] ++ inv Q) []
  rw [e]
  have:=((Same.refl Q).app (same_pair' x)).app (Same.refl (inv Q))
  rw [List.append_nil] at this
  exact this.trans (same_inv Q)
end
end Go.Proofs.YtffdjfkekdoeaaaDoor.Pl
end
section
set_option maxRecDepth 4000
set_option maxHeartbeats 2000000
namespace Go.Proofs.YtffdjfkekdoeaaaDoor.Pl
open Fo Rf Wd
section
variable {k:Int} {a:Aut}
theorem getN_row (hc:a.check k = 0) {s x:Nat} (hs:s < a.next.length) (hx:x < 2 * k.toNat):∃ row,a.next[s]? = some row ∧ x < row.length ∧ getN a.next s x = row.getD x 0 ∧ -1 ≤ row.getD x 0 ∧ row.getD x 0 < (a.next.length:Int):=by
 obtain ⟨_,_,n1,n2,_,_,hrows⟩:=check_spec hc
 have hg:a.next[s]? = some a.next[s]:=List.getElem?_eq_getElem hs
 obtain ⟨h1,h2⟩:=hrows _ (List.getElem_mem hs)
 have hxl:x < a.next[s].length:=by omega
 refine ⟨_,hg,hxl,?_,?_⟩
 ·unfold getN; rw [List.getD_eq_getElem?_getD (l:=a.next),hg]; rfl
 ·rw [getD_get hxl]; exact h2 _ (List.getElem_mem hxl)
theorem edge_bas (hk:k ≤ 8) (hc:a.check k = 0) {s x t:Nat} (hs:s < a.next.length) (hx:x < 2 * k.toNat) (ht:getN a.next s x = (t:Int)) :
  t < a.next.length ∧ Mem ((basF a.next).basis.map wordF) (pathR' (treeF a.next) s ++ [x] ++ inv (pathR' (treeF a.next) t)):=by
 have even:∀ {s x t:Nat},s < a.next.length → x < 2 * k.toNat → getN a.next s x = (t:Int) → x % 2 = 0 → ((s:Int),(x:Int)) ∉ (treeF a.next).keys → Mem ((basF a.next).basis.map wordF) (pathR' (treeF a.next) s ++ [x] ++ inv (pathR' (treeF a.next) t)):=fun {s x t} hs hx ht h2 hno=>by
  obtain ⟨row,g1,g2,g3,g4,g5⟩:=getN_row hc hs hx
  rw [ht] at g3
  have ht':t < a.next.length:=by omega
  have he:=edges_of row 0 x g2 (by omega)
  rw [Nat.zero_add,← g3] at he
  have hb:wordB (treeF a.next) s (x:Int) (t:Int) ∈ (basF a.next).basis:=by
   unfold basF
   rw [basR_iff]
   refine .inr ⟨s,row,g1,(x:Int),(t:Int),(),he,by simpa using h2,?_,?_⟩
   ·rw [Nat.zero_add]; exact hno
   ·rw [Nat.zero_add]
  exact .same (.gen (List.mem_map_of_mem hb)) (wordB_same hk hc hs ht' (by omega))
 obtain ⟨row,g1,g2,g3,g4,g5⟩:=getN_row hc hs hx
 rw [ht] at g3
 have ht':t < a.next.length:=by omega
 refine ⟨ht',?_⟩
 by_cases hkey:((s:Int),(x:Int)) ∈ (treeF a.next).keys
 ·exact .same .one (tree_same hk hc ht hkey).symm
 ·by_cases h2:x % 2 = 0
  ·exact even hs hx ht h2 hkey
  ·have hb:=back_of hc hs hx (by rw [ht]; omega)
   rw [ht,Int.toNat_natCast] at hb
   have hx1:x ^^^ 1 < 2 * k.toNat:=xor_lt (by omega) hx
   have hno:((t:Int),((x ^^^ 1:Nat):Int)) ∉ (treeF a.next).keys:=fun hk'=>by
    obtain ⟨_,hW,_⟩:=tree_ok hk hc
    obtain ⟨u',y',t',e1,e2,e3,e4,e5,e6,e7,e8,e9⟩:=hW.keyw _ _ hk'
    have e1:t = u':=by omega
    have e2:x ^^^ 1 = y':=by omega
    subst e1 e2
    rw [hb] at e4
    have e4:s = t':=by omega
    subst e4
    rw [xor_two] at e7
    exact hkey e7
   have:=even ht' hx1 hb (by rw [xor1,if_neg h2]; omega) hno
   have:=mem_back this
   rwa [xor_two] at this
theorem path_zero (hk:k ≤ 8) (hc:a.check k = 0):pathR' (treeF a.next) 0 = []:=by
 obtain ⟨_,hW,_⟩:=tree_ok hk hc
 unfold pathR' rawF
 rw [hW.zero]; rfl
end
end Go.Proofs.YtffdjfkekdoeaaaDoor.Pl
end
section
set_option maxRecDepth 4000
set_option maxHeartbeats 2000000
namespace Go.Proofs.YtffdjfkekdoeaaaDoor.Pl
open Fo Rf Wd
section
variable {k:Int} {a:Aut}
def Dl (k:Int) (a:Aut) (s x t:Nat):Prop:=s < a.next.length ∧ x < 2 * k.toNat ∧ getN a.next s x = (t:Int)
theorem dl_aut (hk:k ≤ 8) (hc:a.check k = 0):Aut' (Dl k a) where
 det:=fun s x t t' h h'=>by have h1:=h.2.2; have h2:=h'.2.2; rw [h1] at h2; omega
 inv:=fun s x t ⟨h1,h2,h3⟩=>by
  have hb:=back_of hc h1 h2 (by rw [h3]; omega)
  rw [h3,Int.toNat_natCast] at hb
  exact ⟨(edge_bas hk hc h1 h2 h3).1,xor_lt (by omega) h2,hb⟩
theorem leads_dl (hk:k ≤ 8) (hc:a.check k = 0) {s t:Nat} {l:List Nat} (h:Run (Dl k a) s l t):leadsF a.next l s = (t:Int):=by
 induction h with
 | nil s=>rfl
 | @cons s x u t l h1 _ ih=>
  have hs':leadsF a.next (x :: l) s = if getN a.next s x < 0 then getN a.next s x else leadsF a.next l (getN a.next s x).toNat:=rfl
  rw [hs',h1.2.2,if_neg (by omega),Int.toNat_natCast,ih]
theorem path_runs (hk:k ≤ 8) (hc:a.check k = 0):∀ (N v:Nat),v < a.next.length → ((treeF a.next).paths.getD v ⟨#[]⟩).data.toList.length ≤ N → Run (Dl k a) 0 (pathR' (treeF a.next) v) v:=by
 obtain ⟨hT,hW,hseen⟩:=tree_ok hk hc
 intro N
 induction N with
 | zero=>
  intro v hv hl
  by_cases h0:v = 0
  ·subst h0; rw [path_zero hk hc]; exact .nil 0
  ·obtain ⟨s,x,_,e,_⟩:=hW.last v (by omega) (by omega)
   rw [e] at hl; simp at hl
 | succ N ih=>
  intro v hv hl
  by_cases h0:v = 0
  ·subst h0; rw [path_zero hk hc]; exact .nil 0
  ·obtain ⟨s,x,hx,e,hkey⟩:=hW.last v (by omega) (by omega)
   obtain ⟨u',y',t',e1,e2,e3,e4,e5,e6,e7,e8,e9⟩:=hW.keyw _ _ hkey
   have e1:v = u':=by omega
   have e2:x ^^^ 1 = y':=by omega
   subst e1 e2
   rw [xor_two] at e7 e8 e9
   rcases e9 with e9 | e9
   ·exfalso
    have hr:=hW.red _ (path_mem (T:=treeF a.next) (s:=t') (by rw [hT.len]; omega))
    rw [e9] at hr
    have:=(RedL.inv hr).2
    rw [e,List.getLast?_append,other_L (xor16 hx),xor_two] at this
    exact this rfl
   ·have hr:=ih t' (by omega) (by rw [e9,List.length_append,List.length_singleton] at hl; omega)
    have hp:pathR' (treeF a.next) v = pathR' (treeF a.next) t' ++ [x]:=by
     unfold pathR' rawF
     rw [e9,List.map_append,List.map_cons,ix_L hx]; rfl
    rw [hp]
    have hxm:x < 2 * k.toNat:=by
     have:=xor_lt (k:=k.toNat) (by omega) e3
     rwa [xor_two] at this
    exact hr.app (.one ⟨by omega,hxm,e8⟩)
end
end Go.Proofs.YtffdjfkekdoeaaaDoor.Pl
end
section
set_option maxRecDepth 4000
set_option maxHeartbeats 2000000
namespace Go.Proofs.YtffdjfkekdoeaaaDoor.Pl
open Fo Rf Wd
end Go.Proofs.YtffdjfkekdoeaaaDoor.Pl
namespace Go.Proofs.YtffdjfkekdoeaaaDoor.Pl
open Fo Rf Wd
theorem run_let {k:Int} {a:Aut} {s t:Nat} {l:List Nat} (h:Run (Dl k a) s l t):∀ x ∈ l,x < 2 * k.toNat:=by
 induction h with
 | nil _=>intro x hx; simp at hx
 | cons h1 _ ih=>
  intro x hx
  rcases List.mem_cons.1 hx with rfl | hx
  ·exact h1.2.1
  ·exact ih x hx
end Go.Proofs.YtffdjfkekdoeaaaDoor.Pl
end
section
set_option maxRecDepth 4000
set_option maxHeartbeats 2000000
namespace Go.Proofs.YtffdjfkekdoeaaaDoor.Pl
open Fo Rf Wd
def Lg (δ:Nat → Nat → Nat → Prop) (v:Nat) (l:List Nat):Prop:=∃ p,Run δ v p v ∧ Same p l
def Er (E:List Edg) (s x t:Nat):Prop:=(s,x,t) ∈ E
theorem Run.mono {δ ε:Nat → Nat → Nat → Prop} {f:Nat → Nat} (hf:∀ s x t,δ s x t → ε (f s) x (f t)) {s t:Nat} {l:List Nat} (h:Run δ s l t):Run ε (f s) l (f t):=by
 induction h with
 | nil s=>exact .nil _
 | cons h1 _ ih=>exact .cons (hf _ _ _ h1) ih
theorem Run.map {δ ε:Nat → Nat → Nat → Prop} (hf:∀ s x t,δ s x t → ε s x t) {s t:Nat} {l:List Nat} (h:Run δ s l t):Run ε s l t:=by
 induction h with
 | nil s=>exact .nil _
 | cons h1 _ ih=>exact .cons (hf _ _ _ h1) ih
theorem Run.rev {δ:Nat → Nat → Nat → Prop} (hb:∀ s x t,δ s x t → δ t (x ^^^ 1) s) {s t:Nat} {l:List Nat} (h:Run δ s l t):Run δ t (inv l) s:=by
 induction h with
 | nil s=>exact .nil s
 | cons h1 _ ih=>
  rw [inv_cons]
  exact ih.app (.one (hb _ _ _ h1))
theorem lg_hom {δ ε:Nat → Nat → Nat → Prop} {f g:Nat → Nat} {v u:Nat} (hf:∀ s x t,δ s x t → ε (f s) x (f t)) (hg:∀ s x t,ε s x t → δ (g s) x (g t)) (hfv:f v = u) (hgu:g u = v) (l:List Nat):Lg δ v l ↔ Lg ε u l:=by
 constructor
 ·rintro ⟨p,h1,h2⟩
  have:=h1.mono hf
  rw [hfv] at this
  exact ⟨p,this,h2⟩
 ·rintro ⟨p,h1,h2⟩
  have:=h1.mono hg
  rw [hgu] at this
  exact ⟨p,this,h2⟩
theorem lg_iff {δ ε:Nat → Nat → Nat → Prop} (h:∀ s x t,δ s x t ↔ ε s x t) (v:Nat) (l:List Nat):Lg δ v l ↔ Lg ε v l:=
 lg_hom (f:=id) (g:=id) (fun s x t hd=>(h s x t).1 hd) (fun s x t hd=>(h s x t).2 hd) rfl rfl l
theorem lg_det {δ:Nat → Nat → Nat → Prop} (hA:Aut' δ) {v:Nat} {l:List Nat} (hl:Rd l):Lg δ v l ↔ Run δ v l v:=by
 constructor
 ·rintro ⟨p,h1,h2⟩
  have:=h1.rd hA
  rw [h2.rd_eq,hl.self] at this
  exact this
 ·intro h
  exact ⟨l,h,Same.refl l⟩
theorem same_mid {a b:List Nat} (h:Same b []) (c:List Nat):Same (a ++ b ++ c) (a ++ c):=by
 have:=((Same.refl a).app h).app (Same.refl c)
 rwa [List.append_nil] at this
theorem cg_path {E:List Edg} (hb:Both E) {u v:Nat} (h:Cg E u v):∃ p,Run (Er E) u p v ∧ Same p []:=by
 induction h with
 | refl u=>exact ⟨[],.nil u,Same.refl _⟩
 | symm _ ih=>
  obtain ⟨p,h1,h2⟩:=ih
  exact ⟨inv p,h1.rev hb,h2.inv⟩
 | trans _ _ i1 i2=>
  obtain ⟨p,h1,h2⟩:=i1
  obtain ⟨q,h3,h4⟩:=i2
  exact ⟨p ++ q,h1.app h3,h2.app h4⟩
 | @fold s s' x t t' h1 h2 _ ih=>
  obtain ⟨p,h3,h4⟩:=ih
  refine ⟨[x ^^^ 1] ++ p ++ [x],((Run.one (hb _ _ _ h1)).app h3).app (.one h2),?_⟩
  exact (same_mid h4 [x]).trans (same_pair' x)
theorem to_path {E:List Edg} {st:St} (h:Inv E st) (hb:Both E) {s x t:Nat} (ht:To (RowsOf st) s x t):∃ p,Run (Er E) s p t ∧ Same p [x]:=by
 obtain ⟨u,h1,h2,h3⟩:=(to_rows h).1 ht
 obtain ⟨s',e1,e2⟩:=h.snd.ent s x u h2
 obtain ⟨p,p1,p2⟩:=cg_path hb e2
 obtain ⟨q,q1,q2⟩:=cg_path hb (h.snd.par u t ⟨t,h3,h3.self⟩)
 refine ⟨p ++ ([x] ++ q),p1.app ((Run.one e1).app q1),?_⟩
 have:=p2.app ((Same.refl [x]).app q2)
 simpa using this
theorem run_path {E:List Edg} {st:St} (h:Inv E st) (hb:Both E) {s t:Nat} {l:List Nat} (hr:Run (To (RowsOf st)) s l t):∃ p,Run (Er E) s p t ∧ Same p l:=by
 induction hr with
 | nil s=>exact ⟨[],.nil s,Same.refl _⟩
 | cons h1 _ ih=>
  obtain ⟨p,p1,p2⟩:=to_path h hb h1
  obtain ⟨q,q1,q2⟩:=ih
  exact ⟨p ++ q,p1.app q1,p2.app q2⟩
theorem cut_run {rows rows':List (Option Row)} {m r0:Nat} {o:Option (List Row)} (hA:Aut' (To rows)) (hm:MadeOf m r0 rows rows' o) {l:List Nat} (hl:Rd l):Run (To rows') r0 l r0 ↔ Run (To rows) r0 l r0:=by
 have mono:∀ {s t:Nat} {l:List Nat},Run (To rows') s l t → Run (To rows) s l t:=fun hr=>by
  induction hr with
  | nil s=>exact .nil s
  | cons h1 _ ih=>exact .cons (hm.cut.sub _ _ _ h1) ih
 refine ⟨mono,fun hr=>?_⟩
 let Oc:Nat → Nat → Nat → Prop:=fun s x t=>∃ a b,l = a ++ x :: b ∧ Run (To rows) r0 a s ∧ To rows s x t ∧ Run (To rows) t b r0
 have chain:∀ {a b:List Nat} {y x:Nat},l = a ++ y :: x :: b → x ≠ y ^^^ 1:=fun {a b y x} he=>by
  have:∀ (a l:List Nat),l = a ++ y :: x :: b → Rd l → x ≠ y ^^^ 1:=by
   intro a
   induction a with
   | nil=>intro l he hl; subst he; exact hl.1
   | cons z a ih=>
    intro l he hl
    subst he
    cases a with
    | nil=>exact ih _ rfl hl.2
    | cons z' a=>exact ih _ rfl hl.2
  exact this a l he hl
 have hS:∀ s x t,(Oc s x t ∨ Oc t (x ^^^ 1) s) → To rows' s x t:=hm.cut.max (fun s x t=>Oc s x t ∨ Oc t (x ^^^ 1) s) ⟨fun s x t hh=>by rw [xor_two]; exact hh.symm,fun s x t hh hne=>by
  rcases hh with ⟨a,b,e1,e2,e3,e4⟩ | ⟨a,b,e1,e2,e3,e4⟩
  ·rcases List.eq_nil_or_concat a with rfl | ⟨a',y,rfl⟩
   ·cases e2; exact absurd rfl hne
   ·rw [List.concat_eq_append] at e1 e2
    obtain ⟨u,f1,f2⟩:=e2.split
    have e5:l = a' ++ y :: x :: b:=by rw [e1]; simp
    refine ⟨y ^^^ 1,u,fun he=>chain e5 he.symm,.inr ?_⟩
    rw [xor_two]
    exact ⟨a',x :: b,e5,f1,f2.of_one,.cons e3 e4⟩
  ·cases e4 with
   | nil=>exact absurd rfl hne
   | @cons _ y u _ b' f1 f2=>
    refine ⟨y,u,fun he=>?_,.inl ⟨a ++ [x ^^^ 1],b',by rw [e1]; simp,e2.app (.one e3),f1,f2⟩⟩
    have:=chain e1
    rw [xor_two] at this
    exact this he⟩ fun s x t hh=>by
  rcases hh with ⟨_,_,_,_,e3,_⟩ | ⟨_,_,_,_,e3,_⟩
  ·exact e3
  ·have:=hA.inv _ _ _ e3
   rwa [xor_two] at this
 have walk:∀ (b a:List Nat) (s:Nat),l = a ++ b → Run (To rows) r0 a s → Run (To rows) s b r0 → Run (To rows') s b r0:=by
  intro b
  induction b with
  | nil=>intro a s _ _ h2; cases h2; exact .nil _
  | cons x b ih=>
   intro a s he h1 h2
   cases h2 with
   | @cons _ _ u _ _ f1 f2=>
    exact .cons (hS _ _ _ (.inl ⟨a,b,he,h1,f1,f2⟩)) (ih (a ++ [x]) u (by rw [he]; simp) (h1.app (.one f1)) f2)
 exact walk l [] r0 rfl (.nil _) hr
theorem leads_run {k:Int} {a:Aut} (hk:k ≤ 8) (hc:a.check k = 0):∀ (l:List Nat) (s t:Nat),(∀ x ∈ l,x < 2 * k.toNat) → s < a.next.length → leadsF a.next l s = (t:Int) → Run (Dl k a) s l t
 | [],s,t,_,_,h=>by
  simp only [leadsF] at h
  have:s = t:=by omega
  subst this; exact .nil s
 | x :: l,s,t,hx,hs,h=>by
  have h1:=hx x (by simp)
  have e:leadsF a.next (x :: l) s = if getN a.next s x < 0 then getN a.next s x else leadsF a.next l (getN a.next s x).toNat:=rfl
  rw [e] at h
  split at h
  ·omega
  ·rename_i hp
   obtain ⟨u,hu⟩:=Int.eq_ofNat_of_zero_le (show 0 ≤ getN a.next s x by omega)
   rw [hu,Int.toNat_natCast] at h
   exact .cons ⟨hs,h1,hu⟩ (leads_run hk hc l u t (fun y hy=>hx y (by simp [hy])) (edge_bas hk hc hs h1 hu).1 h)
structure FoldedD (k:Nat) (δ:Nat → Nat → Nat → Prop) (v:Nat) (o:Option (List Row)):Prop where
 ok:∃ E st rows',(∀ s x t,(s,x,t) ∈ E ↔ δ s x t) ∧ Inv E st ∧ Both E ∧ st.m = 2 * k ∧ v < st.par.length ∧ MadeOf (2 * k) (rt st.par v) (RowsOf st) rows' o
theorem root_at {E:List Edg} {st:St} (h:Inv E st) {v:Nat} (hv:v < st.par.length):Root st.par v (rt st.par v) ∧ Live (RowsOf st) (rt st.par v):=by
 obtain ⟨d,hf⟩:=h.ok.forest
 obtain ⟨p,hp⟩:=hf.root _ v (Nat.le_refl _) hv
 rw [rt_spec hp]
 exact ⟨hp,(live_rows h).2 hp.self⟩
theorem lang_all {E:List Edg} {st:St} (h:Inv E st) (hb:Both E) {v:Nat} (hv:v < st.par.length) {m:Nat} {rows':List (Option Row)} {o:Option (List Row)} (hm:MadeOf m (rt st.par v) (RowsOf st) rows' o) {l:List Nat} (hl:Rd l) :
  Run (To rows') (rt st.par v) l (rt st.par v) ↔ Lg (Er E) v l:=by
 have hA:=rows_aut h hb
 rw [cut_run hA hm hl]
 constructor
 ·intro hr
  obtain ⟨p,p1,p2⟩:=run_path h hb hr
  obtain ⟨hr1,_⟩:=root_at h hv
  obtain ⟨q,q1,q2⟩:=cg_path hb (h.snd.par v _ ⟨_,hr1,hr1.self⟩)
  refine ⟨q ++ p ++ inv q,(q1.app p1).app (q1.rev hb),?_⟩
  have:=(q2.app p2).app q2.inv
  have e:inv ([]:List Nat) = []:=rfl
  rwa [e,List.append_nil,List.nil_append] at this
 ·rintro ⟨p,h1,h2⟩
  have:=(run_rows h h1).rd hA
  rw [h2.rd_eq,hl.self] at this
  exact this
theorem foldedD_same {k v v':Nat} {δ ε:Nat → Nat → Nat → Prop} {o o':Option (List Row)} (h:FoldedD k δ v o) (h':FoldedD k ε v' o') (hm:∀ l,Rd l → (Lg δ v l ↔ Lg ε v' l)):o = o':=by
 obtain ⟨E,st,rows,e1,i1,i2,i3,i4,i5⟩:=h.ok
 obtain ⟨E',st',rows',e1',j1,j2,j3,j4,j5⟩:=h'.ok
 have key:=pair_num i5 j5 (root_at i1 i4).2 (root_at j1 j4).2 fun p hp=>by
  rw [lang_all i1 i2 i4 i5 hp,lang_all j1 j2 j4 j5 hp,lg_iff (δ:=Er E) (ε:=δ) (fun s x t=>e1 s x t),lg_iff (δ:=Er E') (ε:=ε) (fun s x t=>e1' s x t)]
  exact hm p hp
 have uni:∀ {K K':Nat} {r r':List Row},numG (rowOf rows) K 0 [rt st.par v] [] = some r → numG (rowOf rows') K' 0 [rt st'.par v'] [] = some r' → r = r':=fun {K K' r r'} h1 h2=>by
  rw [key] at h2
  have a1:=numG_fuel K (K + K') _ _ _ _ (by omega) h1
  have a2:=numG_fuel K' (K + K') _ _ _ _ (by omega) h2
  rw [a1] at a2; exact Option.some.inj a2
 cases ho:o with
 | some r=>
  obtain ⟨⟨K,h1⟩,h2⟩:=i5.yes r ho
  cases ho':o' with
  | some r'=>
   obtain ⟨⟨K',h1'⟩,h2'⟩:=j5.yes r' ho'
   rw [uni h1 h1']
  | none=>
   obtain ⟨r',⟨K',h1'⟩,h2'⟩:=j5.no ho'
   have:=uni h1 h1'
   subst this; omega
 | none=>
  obtain ⟨r,⟨K,h1⟩,h2⟩:=i5.no ho
  cases ho':o' with
  | some r'=>
   obtain ⟨⟨K',h1'⟩,h2'⟩:=j5.yes r' ho'
   have:=uni h1 h1'
   subst this; omega
  | none=>rfl
theorem foldedD_auto {k v:Nat} (hk:1 ≤ k ∧ k ≤ 8) {δ:Nat → Nat → Nat → Prop} {R:List Row} (h:FoldedD k δ v (some R)) :
  (autE k R).check (k:Int) = 0 ∧ ∀ l,Rd l → (Run (Dl k (autE k R)) 0 l 0 ↔ Lg δ v l):=by
 obtain ⟨E,st,rows',e1,i1,i2,i3,i4,i5⟩:=h.ok
 obtain ⟨⟨K,h1⟩,h2⟩:=i5.yes _ rfl
 have hr:=(root_at i1 i4).2
 obtain ⟨q,hA⟩:=auto_of i5 hr h1
 have hck:=good hk i5 hA h2 h1
 refine ⟨hck,fun l hl=>?_⟩
 rw [← lg_iff (δ:=Er E) (fun s x t=>e1 s x t),← lang_all i1 i2 i4 i5 hl]
 have hx:∀ {s t:Nat} {l:List Nat},Run (To rows') s l t → ∀ x ∈ l,x < 2 * k:=fun hr=>by
  induction hr with
  | nil _=>intro x hx; simp at hx
  | cons h1 _ ih=>
   intro x hx
   rcases List.mem_cons.1 hx with rfl | hx
   ·exact h1.lt i5.wf
   ·exact ih x hx
 have hkk:(k:Int) ≤ 8:=by omega
 constructor
 ·intro hrun
  have hlt:=run_let (k:=(k:Int)) hrun
  rw [Int.toNat_natCast] at hlt
  have:=leads_dl (k:=(k:Int)) hkk hck hrun
  exact (hA.leads l 0 _ hA.first hlt 0 _ hA.first).1 this
 ·intro hrun
  have hlt:=hx hrun
  have:=(hA.leads l 0 _ hA.first hlt 0 _ hA.first).2 hrun
  exact leads_run (k:=(k:Int)) hkk hck l 0 0 (by rw [Int.toNat_natCast]; exact hlt) (by obtain ⟨_,_,n1,_⟩:=check_spec hck; exact n1) this
end Go.Proofs.YtffdjfkekdoeaaaDoor.Pl
end
section
set_option maxRecDepth 4000
set_option maxHeartbeats 2000000
namespace Go.Proofs.YtffdjfkekdoeaaaDoor.Pl
open Fo Rf Wd
theorem states_ev:∀ (n:Nat) (E:List Edg) (st:St),Inv E st → st.par.length + n < big → ∃ st',Inv E st' ∧ st'.m = st.m ∧ st'.par.length = st.par.length + n
 | 0,E,st,h,_=>⟨st,h,rfl,rfl⟩
 | n + 1,E,st,h,hb=>by
  obtain ⟨st1,_,h1,h2,h3⟩:=state_ev h (by omega)
  obtain ⟨st2,h4,h5,h6⟩:=states_ev n E st1 h1 (by omega)
  exact ⟨st2,h4,h5.trans h2,by omega⟩
theorem links_ev:∀ (es:List Ed) (E:List Edg) (st:St),Inv E st → Both E → Evn es → (∀ e ∈ es,e.1 < st.par.length ∧ e.2.2 < st.par.length ∧ e.2.1 + 1 < st.m) → st.par.length * (st.m + 1) + 2 + st.m < big →
  ∃ E' st',Inv E' st' ∧ Both E' ∧ st'.m = st.m ∧ st'.par.length = st.par.length ∧ ∀ s x t,(s,x,t) ∈ E' ↔ (s,x,t) ∈ E ∨ Dir es s x t
 | [],E,st,h,hB,_,_,_=>⟨E,st,h,hB,rfl,rfl,fun s x t=>by simp [Dir]⟩
 | (s,x,t) :: l,E,st,h,hB,he,hl,hb=>by
  obtain ⟨h1,h2,h3⟩:=hl (s,x,t) (by simp)
  have hev:x % 2 = 0:=he (s,x,t) (by simp)
  dsimp only at h1 h2 h3
  have hx1:x ^^^ 1 = x + 1:=by rw [xor1,if_pos hev]
  obtain ⟨st1,_,a1,a2,a3⟩:=link_ev h h1 h2 (by omega) (by omega:x ^^^ 1 < st.m) hb
  obtain ⟨E',st',b1,b2,b3,b4,b5⟩:=links_ev l _ st1 a1 (Both.app (Both.pair s x t) hB) (fun e hm=>he e (by simp [hm])) (fun e hm=>by rw [a2,a3]; exact hl e (by simp [hm])) (by rw [a2,a3]; exact hb)
  refine ⟨E',st',b1,b2,by rw [b3,a2],by rw [b4,a3],fun a y c=>?_⟩
  rw [b5]
  have hd:Dir ((s,x,t) :: l) a y c ↔ ((a,y,c) = (s,x,t) ∨ (a,y,c) = (t,x ^^^ 1,s)) ∨ Dir l a y c:=by
   have:=dir_app (es:=[(s,x,t)]) (es':=l) (s:=a) (x:=y) (t:=c)
   rw [List.singleton_append] at this
   rw [this]
   refine or_congr ?_ Iff.rfl
   simp only [Dir,List.mem_singleton,Prod.mk.injEq]
   constructor
   ·rintro (⟨p,q⟩ | ⟨p,q⟩)
    ·exact .inl q
    ·exact .inr ⟨by omega,by omega,by omega⟩
   ·rintro (⟨rfl,rfl,rfl⟩ | ⟨rfl,rfl,rfl⟩)
    ·exact .inl ⟨hev,rfl,rfl,rfl⟩
    ·exact .inr ⟨by omega,rfl,by omega,rfl⟩
  rw [hd]
  simp only [List.mem_cons]
  constructor
  ·rintro ((p | p | p) | p)
   ·exact .inr (.inl (.inl p))
   ·exact .inr (.inl (.inr p))
   ·exact .inl p
   ·exact .inr (.inr p)
  ·rintro (p | (p | p) | p)
   ·exact .inl (.inr (.inr p))
   ·exact .inl (.inl p)
   ·exact .inl (.inr (.inl p))
   ·exact .inr p
theorem edges_folded {k:Nat} (hk:1 ≤ k ∧ k ≤ 8) {es:List Ed} (he:Evn es) {B:Nat} (hB:InB B es) (h0:0 < B) (h1:B ≤ 100000) (hx:∀ e ∈ es,e.2.1 < 2 * k):∃ o,FoldedD k (Dir es) 0 o:=by
 have hm0:(start0 (2 * k)).m = 2 * k:=rfl
 have hp0:(start0 (2 * k)).par.length = 1:=rfl
 obtain ⟨st1,a1,a2,a3⟩:=states_ev (B - 1) [] (start0 (2 * k)) (start_inv _) (by rw [hp0]; unfold big; omega)
 rw [hm0] at a2
 rw [hp0] at a3
 have hpl:st1.par.length = B:=by omega
 have hmul:st1.par.length * (st1.m + 1) ≤ 100000 * 17:=by rw [hpl,a2]; exact Nat.mul_le_mul h1 (by omega)
 obtain ⟨E,st,b1,b2,b3,b4,b5⟩:=links_ev es [] st1 a1 Both.nil he (fun e hm=>by
  obtain ⟨c1,c2⟩:=hB e hm
  have c3:=hx e hm
  have c4:=he e hm
  rw [hpl,a2]
  exact ⟨c1,c2,by omega⟩) (by rw [a2] at hmul ⊢; unfold big; omega)
 have hmul2:st.par.length * (st.m + 1) ≤ 100000 * 17:=by rw [b3,b4]; exact hmul
 obtain ⟨o,rows',_,c2⟩:=made_ev (s:=0) b1 b2 (fun x hx=>by rw [b3,a2] at hx ⊢; exact xor_lt (by omega) hx) (by omega) (by unfold big; omega)
 rw [b3,a2] at c2
 exact ⟨o,E,st,rows',fun s x t=>by rw [b5]; simp,b1,b2,by rw [b3,a2],by omega,c2⟩
theorem numE_len {k:Nat} {es:List Ed} {B:Nat} (hes:∀ e ∈ es,e.1 < B ∧ e.2.2 < B):∀ (K i:Nat) (q:List Nat) (out res:List Row),q.Nodup → (∀ v ∈ q,v < B) → i ≤ q.length → out.length = i → numE k es K i q out = some res → res.length ≤ B
 | 0,_,_,_,_,_,_,_,_,h=>by simp [numE] at h
 | K + 1,i,q,out,res,hn,hq,hi,ho,h=>by
  simp only [numE] at h
  split at h
  ·cases h
   have:=nodup_len B q hn hq
   omega
  ·rename_i v hv
   have hlt:=(List.getElem?_eq_some_iff.1 hv).1
   obtain ⟨h1,h2⟩:=bfsRow_ok (B:=B) (rowE k es v) q (fun t ht=>by
    unfold rowE at ht
    obtain ⟨x,_,hx⟩:=List.mem_map.1 ht
    exact stepE_lt es v x t hes hx) hn hq
   have h3:=bfsRow_grow (rowE k es v) q
   exact numE_len hes K (i + 1) _ _ res h1 h2 (by omega) (by simp [ho]) h
theorem stall_of {k:Nat} {es:List Ed} {o:Option (List Row)} (h:FoldedD k (Dir es) 0 o) (he:Evn es) {B:Nat} (hB:InB B es) (hu:Uq es) :
  ∃ K res,stallF k K es = some res ∧ ((o = some res ∧ res.length ≤ 2000) ∨ (o = none ∧ 2000 < res.length)):=by
 obtain ⟨E,st,rows',e1,i1,i2,i3,i4,i5⟩:=h.ok
 exact stall_ev i1 e1 he hB hu i4 i5
theorem graphR_iff {s:Nat} {row:List Int} {e:Ed}:∀ (n i:Nat),e ∈ graphR s row i n ↔ ∃ j,i ≤ j ∧ j < i + n ∧ 0 ≤ row.getD (2 * j) 0 ∧ e = (s,2 * j,(row.getD (2 * j) 0).toNat)
 | 0,i=>by
  simp only [graphR,List.not_mem_nil,false_iff]
  rintro ⟨j,h1,h2,_⟩; omega
 | n + 1,i=>by
  simp only [graphR,List.mem_append,graphR_iff n (i + 1)]
  constructor
  ·rintro (h | ⟨j,h1,h2,h3,h4⟩)
   ·split at h
    ·rename_i hp
     simp only [List.mem_singleton] at h
     exact ⟨i,Nat.le_refl _,by omega,hp,h⟩
    ·simp at h
   ·exact ⟨j,by omega,by omega,h3,h4⟩
  ·rintro ⟨j,h1,h2,h3,h4⟩
   by_cases hj:j = i
   ·subst hj
    left; rw [if_pos h3]; simp [h4]
   ·exact .inr ⟨j,by omega,by omega,h3,h4⟩
theorem graphL_iff {k:Nat} {e:Ed}:∀ (l:List (List Int)) (s:Nat),e ∈ graphL k s l ↔ ∃ (i:Nat) (row:List Int),l[i]? = some row ∧ ∃ j,j < k ∧ 0 ≤ row.getD (2 * j) 0 ∧ e = (s + i,2 * j,(row.getD (2 * j) 0).toNat)
 | [],s=>by simp [graphL]
 | row :: l,s=>by
  simp only [graphL,List.mem_append,graphR_iff,graphL_iff l (s + 1)]
  constructor
  ·rintro (⟨j,h1,h2,h3,h4⟩ | ⟨i,r,h1,j,h2,h3,h4⟩)
   ·exact ⟨0,row,rfl,j,by omega,h3,h4⟩
   ·exact ⟨i + 1,r,h1,j,h2,h3,by rw [h4,show s + 1 + i = s + (i + 1) by omega]⟩
  ·rintro ⟨i,r,h1,j,h2,h3,h4⟩
   cases i with
   | zero=>
    simp only [List.getElem?_cons_zero,Option.some.injEq] at h1
    subst h1
    exact .inl ⟨j,by omega,by omega,h3,h4⟩
   | succ i=>exact .inr ⟨i,r,h1,j,h2,h3,by rw [h4,show s + (i + 1) = s + 1 + i by omega]⟩
section
variable {k:Nat} {a:Aut}
theorem graph_even (k:Nat) (l:List (List Int)):Evn (graphL k 0 l):=fun e he=>by
 obtain ⟨i,row,_,j,_,_,rfl⟩:=(graphL_iff l 0).1 he
 dsimp only; omega
theorem graph_let {k:Nat} {l:List (List Int)}:∀ e ∈ graphL k 0 l,e.2.1 < 2 * k:=fun e he=>by
 obtain ⟨i,row,_,j,_,_,rfl⟩:=(graphL_iff l 0).1 he
 dsimp only; omega
theorem graph_dl (hk:k ≤ 8) (hc:a.check (k:Int) = 0) {s x t:Nat}:Dir (graphL k 0 a.next) s x t ↔ Dl (k:Int) a s x t:=by
 have hk':(k:Int) ≤ 8:=by omega
 have hA:=dl_aut hk' hc
 have ev:∀ {s x t:Nat},x % 2 = 0 → ((s,x,t) ∈ graphL k 0 a.next ↔ Dl (k:Int) a s x t):=fun {s x t} hx=>by
  rw [graphL_iff]
  constructor
  ·rintro ⟨i,row,h1,j,h2,h3,h4⟩
   simp only [Prod.mk.injEq,Nat.zero_add] at h4
   obtain ⟨rfl,rfl,rfl⟩:=h4
   refine ⟨(List.getElem?_eq_some_iff.1 h1).1,by rw [Int.toNat_natCast]; omega,?_⟩
   unfold getN
   rw [List.getD_eq_getElem?_getD (l:=a.next),h1]
   show row.getD (2 * j) 0 = _
   omega
  ·rintro ⟨h1,h2,h3⟩
   rw [Int.toNat_natCast] at h2
   obtain ⟨row,g1,g2,g3,g4,g5⟩:=getN_row (k:=(k:Int)) hc h1 (x:=x) (by rw [Int.toNat_natCast]; exact h2)
   have he:2 * (x / 2) = x:=by omega
   refine ⟨s,row,g1,x / 2,by omega,by rw [he,← g3,h3]; omega,?_⟩
   rw [he,← g3,h3,Nat.zero_add]; rfl
 constructor
 ·rintro (⟨h1,h2⟩ | ⟨h1,h2⟩)
  ·exact (ev h1).1 h2
  ·have:=hA.inv _ _ _ ((ev (by omega)).1 h2)
   rwa [xor1,if_pos (by omega),show x - 1 + 1 = x by omega] at this
 ·intro h
  by_cases hx:x % 2 = 0
  ·exact .inl ⟨hx,(ev hx).2 h⟩
  ·have:=hA.inv _ _ _ h
   rw [xor1,if_neg hx] at this
   exact .inr ⟨by omega,(ev (by omega)).2 this⟩
theorem graph_nodup (k:Nat) (l:List (List Int)):(graphL k 0 l).Nodup:=by
 have hR:∀ (s:Nat) (row:List Int) (n i:Nat),(graphR s row i n).Nodup:=by
  intro s row n
  induction n with
  | zero=>intro i; exact List.nodup_nil
  | succ n ih=>
   intro i
   simp only [graphR]
   rw [List.nodup_append]
   refine ⟨by split <;> simp,ih _,fun x hx y hy he=>?_⟩
   subst he
   obtain ⟨j,h1,h2,h3,h4⟩:=(graphR_iff n (i + 1)).1 hy
   split at hx
   ·simp only [List.mem_singleton] at hx
    rw [hx] at h4
    simp only [Prod.mk.injEq] at h4
    omega
   ·simp at hx
 have hL:∀ (l:List (List Int)) (s:Nat),(graphL k s l).Nodup:=by
  intro l
  induction l with
  | nil=>intro s; exact List.nodup_nil
  | cons row l ih=>
   intro s
   simp only [graphL]
   rw [List.nodup_append]
   refine ⟨hR _ _ _ _,ih _,fun x hx y hy he=>?_⟩
   subst he
   obtain ⟨j,h1,h2,h3,h4⟩:=(graphR_iff k 0).1 hx
   obtain ⟨i,r,_,j',_,_,h5⟩:=(graphL_iff l (s + 1)).1 hy
   rw [h4] at h5
   simp only [Prod.mk.injEq] at h5
   omega
 exact hL l 0
theorem num_of {es es':List Ed} {o:Option (List Row)} (h:FoldedD k (Dir es) 0 o) (hd:Det es) (hp:Pr es es') {K:Nat} {res:List Row} (hn:numE k es' K 0 [0] [] = some res) (h2:res.length ≤ 2000):o = some res:=by
 obtain ⟨E,st,rows',e1,i1,i2,i3,i4,i5⟩:=h.ok
 have h2':Two E st es es (fun v=>v):=⟨i1,e1,⟨fun e=>⟨fun h=>⟨e,h,rfl⟩,fun ⟨e0,h,heq⟩=>heq ▸ h⟩,fun v=>.refl v,fun _=>rfl,fun _=>Nat.le_refl _⟩,hd⟩
 obtain ⟨hr,_⟩:=root_at i1 i4
 have h0:rt st.par 0 = 0:=(h2'.root hr).symm
 rw [h0] at i5 hr
 have:=h2'.num hr rfl i5 hp K
 rw [hn] at this
 cases ho:o with
 | some r=>
  obtain ⟨⟨K',h1'⟩,_⟩:=i5.yes r ho
  have a1:=numG_fuel K (K + K') _ _ _ _ (by omega) this.symm
  have a2:=numG_fuel K' (K + K') _ _ _ _ (by omega) h1'
  rw [a1] at a2
  rw [Option.some.inj a2]
 | none=>
  obtain ⟨r,⟨K',h1'⟩,h3⟩:=i5.no ho
  have a1:=numG_fuel K (K + K') _ _ _ _ (by omega) this.symm
  have a2:=numG_fuel K' (K + K') _ _ _ _ (by omega) h1'
  rw [a1] at a2
  have:=Option.some.inj a2
  subst this; omega
end
end Go.Proofs.YtffdjfkekdoeaaaDoor.Pl
end
section
set_option maxRecDepth 10000
namespace Go.Proofs.YtffdjfkekdoeaaaDoor
open Fw
noncomputable def cayleylaw21_copied.ann:Ann where
 loops:=fun | 3=>[(1,.sc .adr),(2,.sc .adr),(3,.sc .adr),(4,.sc (.int .i64))] | _=>[]
 joins:=fun | _=>none
noncomputable def cayleylaw21_copied.body:Code:=match Tryd.f42.body with | some c=>c | none=>.skip
noncomputable def fold_folding_graft.ann:Ann where
 loops:=fun | 3=>[(3,.sc .adr),(4,.sc .adr),(6,.sc .adr),(15,.sc (.int .i64)),(16,.sc (.int .i64))] | 7=>[(3,.sc .adr),(4,.sc .adr),(6,.sc .adr),(26,.sc (.int .i64)),(27,.sc (.int .i64))] | _=>[]
 joins:=fun | _=>none
noncomputable def fold_folding_graft.body:Code:=match Tryd.f68.body with | some c=>c | none=>.skip
def fold_folding_graft.sh (p0:Option Addr) (p1_0:Int) (p1_1:Int) (p1_2:Sl) (p1_3:Sl) (p2:Int) (R:Ending → World → Prop) (w:World):Prop:=
 New w (.cells #[(.pointer p0)] 76) fun b1 w2=>
 New w2 (.cells #[(.int .i64 p1_0),(.int .i64 p1_1),(.slice p1_2.a p1_2.n p1_2.c),(.slice p1_3.a p1_3.n p1_3.c)] 27) fun b3 w4=>
 New w4 (.cells #[(.int .i64 p2)] 3) fun b5 w6=>
 New w6 (.cells #[(.slice none 0 0)] 85) fun b7 w8=>
 Store1 w8 (Addr.mk b7 0 none) (.slice (some (Addr.mk b5 0 none)) 1 1) fun w9=>
 LoadT (.sc .sl) w9 ((Addr.mk b3 0 none).add 3) fun x10=>
 LoopT (σ:=Addr × Addr × Addr × Int × Int × Unit) ((Addr.mk b1 0 none),(Addr.mk b3 0 none),(Addr.mk b7 0 none),(IntKind.wrap .i64 (((x10.n:Nat):Int) - 1)),0,()) w9 fun l11 g12 w13 I14=>
  Br (decide ((l11.2.2.2.2.1:Int) < l11.2.2.2.1))
   (∃ S15:World → Prop,S15 w13.drew ∧
   (LoadS S15 (.sc .sl) l11.2.2.1 fun x16=>
   LoadS S15 (.sc .ptr) l11.1 fun x17=>
   CallT Tryd.prog 66 #[(.pointer x17)] (.sc (.int .i64)) w13.drew (fun r18 w19=>
     S15 w19 ∧
     (New w19 (.cells #[(.int .i64 r18)] 3) fun b21 w22=>
      S15 w22 ∧
      (RunT Tryd.prog (.sc .sl) (Builtin.append_ #[85,85] 85 #[(.slice x16.a x16.n x16.c),(.slice (some (Addr.mk b21 0 none)) 1 1)]) w22 fun r23 w24=>
       S15 w24 ∧
       (Store1 w24 l11.2.2.1 (.slice r23.a r23.n r23.c) fun w25=>
        I14 (l11.1,l11.2.1,l11.2.2.1,l11.2.2.2.1,(IntKind.wrap .i64 (l11.2.2.2.2.1 + 1)),()) w25)))) (fun h20 w19=>R (.panicked h20) w19)))
   (LoadT (.sc .sl) w13 (l11.2.1.add 3) fun x26=>
   LoopD (σ:=Addr × Addr × Addr × Int × Int × Unit) (l11.1,l11.2.1,l11.2.2.1,((x26.n:Nat):Int),0,()) ([]) w13 fun l27 d31 g28 w29 I30=>
    Br (decide ((l27.2.2.2.2.1:Int) < l27.2.2.2.1))
     (New w29 (.cells #[(.int .i64 0)] 3) fun b32 w33=>
     Store1 w33 (Addr.mk b32 0 none) (.int .i64 l27.2.2.2.2.1) fun w34=>
     LoadT (.agg [.int .i64,.int .i64,.sl,.sl]) w34 l27.2.1 fun x35=>
     LoadT (.sc (.int .i64)) w34 (Addr.mk b32 0 none) fun x36=>
     CallT Tryd.prog 64 #[(.agg #[(.int .i64 x35.1),(.int .i64 x35.2.1),(.slice x35.2.2.1.a x35.2.2.1.n x35.2.2.1.c),(.slice x35.2.2.2.1.a x35.2.2.2.1.n x35.2.2.2.1.c)]),(.int .i64 x36)] (.sc (.clo 88 2)) w34 (fun r37 w38=>
      RangeF Tryd.prog 88 #[] #[(.pointer (some r37.1)),(.pointer (some r37.2.1))] [.sc (.int .i64),.sc (.int .i64)] w38 (fun x41 w42 Kc43 Kx44=>
       (2:Int) ≠ 0 ∧
        Br (((Int.tmod x41.1 2):Int) == 0)
         (LoadT (.sc .ptr) w42.drew l27.1 fun x48=>
         LoadT (.sc .sl) w42.drew l27.2.2.1 fun x49=>
         LoadT (.sc (.int .i64)) w42.drew (Addr.mk b32 0 none) fun x50=>
         Idx x49.a x49.n 1 x50 fun a51=>
         LoadT (.sc (.int .i64)) w42.drew a51 fun x52=>
         LoadT (.sc .sl) w42.drew l27.2.2.1 fun x53=>
         Idx x53.a x53.n 1 x41.2.1 fun a54=>
         LoadT (.sc (.int .i64)) w42.drew a54 fun x55=>
         CallN Tryd.prog 67 #[(.pointer x48),(.int .i64 x52),(.int .i64 x41.1),(.int .i64 x55)] [] w42.drew (fun r56 w57=>
          Kc43 w57) (fun h58 w57=>False))
         (Kc43 w42))
       (fun j45 d46 w47=>match j45 with
       | none=>
         I30 (l27.1,l27.2.1,l27.2.2.1,l27.2.2.2.1,(IntKind.wrap .i64 (l27.2.2.2.2.1 + 1)),()) (Fw.mark d46 :: d31) w47
       | some (.exit i)=>
        False
       | some .ret=>
         RetM (Fw.mark d46 :: d31) w47 fun z59=>
         R (.returned (.tuple #[])) z59
       | some _=>False)) (fun h39 w38=>RetM (d31) w38 fun z40=>R (.panicked h39) z40))
     (RetM (d31) w29 fun z60=>
     R (.returned (.tuple #[])) z60))
theorem fold_folding_graft.calls (p0:Option Addr) (p1_0:Int) (p1_1:Int) (p1_2:Sl) (p1_3:Sl) (p2:Int) {R:Ending → World → Prop} {w:World} (h:fold_folding_graft.sh p0 p1_0 p1_1 p1_2 p1_3 p2 R w):Calls Tryd.prog 68 #[(.pointer p0),(.agg #[(.int .i64 p1_0),(.int .i64 p1_1),(.slice p1_2.a p1_2.n p1_2.c),(.slice p1_3.a p1_3.n p1_3.c)]),(.int .i64 p2)] w R:=calls_of_wpc mixed Tryd.func68 (by kernel_rfl) (by kernel_rfl) ((show _ = wpc Tryd.prog fold_folding_graft.ann fold_folding_graft.body (fnKs Tryd.prog Tryd.f68 R) [] (env0 #[(.pointer p0),(.agg #[(.int .i64 p1_0),(.int .i64 p1_1),(.slice p1_2.a p1_2.n p1_2.c),(.slice p1_3.a p1_3.n p1_3.c)]),(.int .i64 p2)]) w by kernel_rfl).mp h)
noncomputable def fold_Join.ann:Ann where
 loops:=fun | _=>[]
 joins:=fun | _=>none
noncomputable def fold_Join.body:Code:=match Tryd.f34.body with | some c=>c | none=>.skip
def fold_Join.sh (p0:Int) (p1_0:Int) (p1_1:Int) (p1_2:Sl) (p1_3:Sl) (p2_0:Int) (p2_1:Int) (p2_2:Sl) (p2_3:Sl) (R:Ending → World → Prop) (w:World):Prop:=
 New w (.cells #[(.int .i64 p1_0),(.int .i64 p1_1),(.slice p1_2.a p1_2.n p1_2.c),(.slice p1_3.a p1_3.n p1_3.c)] 27) fun b1 w2=>
 New w2 (.cells #[(.int .i64 p2_0),(.int .i64 p2_1),(.slice p2_2.a p2_2.n p2_2.c),(.slice p2_3.a p2_3.n p2_3.c)] 27) fun b3 w4=>
 New w4 (.cells #[(.int .i64 0),(.int .i64 0),(.slice none 0 0),(.slice none 0 0)] 27) fun b5 w6=>
 LoadT (.agg [.int .i64,.int .i64,.sl,.sl]) w6 (Addr.mk b1 0 none) fun x7=>
 LoadT (.agg [.int .i64,.int .i64,.sl,.sl]) w6 (Addr.mk b3 0 none) fun x8=>
 New w6 (.cells #[(.int .i64 x7.1),(.int .i64 x7.2.1),(.slice x7.2.2.1.a x7.2.2.1.n x7.2.2.1.c),(.slice x7.2.2.2.1.a x7.2.2.2.1.n x7.2.2.2.1.c),(.int .i64 x8.1),(.int .i64 x8.2.1),(.slice x8.2.2.1.a x8.2.2.1.n x8.2.2.1.c),(.slice x8.2.2.2.1.a x8.2.2.2.1.n x8.2.2.2.1.c)] 27) fun b9 w10=>
 CallT Tryd.prog 55 #[(.int .i64 p0),(.slice (some (Addr.mk b9 0 none)) 2 2),(.slice none 0 0)] (.sc (.int .i64)) w10 (fun r11 w12=>
  Br ((r11:Int) != 0)
   (StoreN w12 (Addr.mk b5 0 none) [(.int .i64 0),(.int .i64 0),(.slice none 0 0),(.slice none 0 0)] fun w14=>
   LoadT (.agg [.int .i64,.int .i64,.sl,.sl]) w14 (Addr.mk b5 0 none) fun x15=>
   R (.returned (.tuple #[(.agg #[(.int .i64 x15.1),(.int .i64 x15.2.1),(.slice x15.2.2.1.a x15.2.2.1.n x15.2.2.1.c),(.slice x15.2.2.2.1.a x15.2.2.2.1.n x15.2.2.2.1.c)]),(.int .i64 r11)])) w14)
   (CallT Tryd.prog 46 #[(.int .i64 p0)] (.sc .ptr) w12 (fun r16 w17=>
    LoadT (.agg [.int .i64,.int .i64,.sl,.sl]) w17 (Addr.mk b1 0 none) fun x19=>
    CallN Tryd.prog 68 #[(.pointer r16),(.agg #[(.int .i64 x19.1),(.int .i64 x19.2.1),(.slice x19.2.2.1.a x19.2.2.1.n x19.2.2.1.c),(.slice x19.2.2.2.1.a x19.2.2.2.1.n x19.2.2.2.1.c)]),(.int .i64 0)] [] w17 (fun r20 w21=>
     LoadT (.agg [.int .i64,.int .i64,.sl,.sl]) w21 (Addr.mk b3 0 none) fun x23=>
     CallN Tryd.prog 68 #[(.pointer r16),(.agg #[(.int .i64 x23.1),(.int .i64 x23.2.1),(.slice x23.2.2.1.a x23.2.2.1.n x23.2.2.1.c),(.slice x23.2.2.2.1.a x23.2.2.2.1.n x23.2.2.2.1.c)]),(.int .i64 0)] [] w21 (fun r24 w25=>
      CallN Tryd.prog 49 #[(.pointer r16),(.int .i64 0)] [.agg [.int .i64,.int .i64,.sl,.sl],.sc (.int .i64)] w25 (fun r27 w28=>
       StoreN w28 (Addr.mk b5 0 none) [(.int .i64 r27.1.1),(.int .i64 r27.1.2.1),(.slice r27.1.2.2.1.a r27.1.2.2.1.n r27.1.2.2.1.c),(.slice r27.1.2.2.2.1.a r27.1.2.2.2.1.n r27.1.2.2.2.1.c)] fun w30=>
       LoadT (.agg [.int .i64,.int .i64,.sl,.sl]) w30 (Addr.mk b5 0 none) fun x31=>
       R (.returned (.tuple #[(.agg #[(.int .i64 x31.1),(.int .i64 x31.2.1),(.slice x31.2.2.1.a x31.2.2.1.n x31.2.2.1.c),(.slice x31.2.2.2.1.a x31.2.2.2.1.n x31.2.2.2.1.c)]),(.int .i64 r27.2.1)])) w30) (fun h29 w28=>R (.panicked h29) w28)) (fun h26 w25=>R (.panicked h26) w25)) (fun h22 w21=>R (.panicked h22) w21)) (fun h18 w17=>R (.panicked h18) w17))) (fun h13 w12=>R (.panicked h13) w12)
theorem fold_Join.calls (p0:Int) (p1_0:Int) (p1_1:Int) (p1_2:Sl) (p1_3:Sl) (p2_0:Int) (p2_1:Int) (p2_2:Sl) (p2_3:Sl) {R:Ending → World → Prop} {w:World} (h:fold_Join.sh p0 p1_0 p1_1 p1_2 p1_3 p2_0 p2_1 p2_2 p2_3 R w):Calls Tryd.prog 34 #[(.int .i64 p0),(.agg #[(.int .i64 p1_0),(.int .i64 p1_1),(.slice p1_2.a p1_2.n p1_2.c),(.slice p1_3.a p1_3.n p1_3.c)]),(.agg #[(.int .i64 p2_0),(.int .i64 p2_1),(.slice p2_2.a p2_2.n p2_2.c),(.slice p2_3.a p2_3.n p2_3.c)])] w R:=calls_of_wpc mixed Tryd.func34 (by kernel_rfl) (by kernel_rfl) ((show _ = wpc Tryd.prog fold_Join.ann fold_Join.body (fnKs Tryd.prog Tryd.f34 R) [] (env0 #[(.int .i64 p0),(.agg #[(.int .i64 p1_0),(.int .i64 p1_1),(.slice p1_2.a p1_2.n p1_2.c),(.slice p1_3.a p1_3.n p1_3.c)]),(.agg #[(.int .i64 p2_0),(.int .i64 p2_1),(.slice p2_2.a p2_2.n p2_2.c),(.slice p2_3.a p2_3.n p2_3.c)])]) w by kernel_rfl).mp h)
noncomputable def fold_Intersect.ann:Ann where
 loops:=fun | 8=>[(4,.sc .adr),(5,.sc .adr),(6,.sc .adr),(7,.sc .adr),(9,.sc .adr),(10,.sc .adr),(11,.sc .adr),(12,.sc .adr)] | _=>[]
 joins:=fun | 23=>some [(11,.sc .adr),(12,.sc .adr),(13,.sc (.int .i64)),(17,.sc (.int .i64))] | _=>none
noncomputable def fold_Intersect.body:Code:=match Tryd.f33.body with | some c=>c | none=>.skip
def fold_Intersect.sh (p0:Int) (p1_0:Int) (p1_1:Int) (p1_2:Sl) (p1_3:Sl) (p2_0:Int) (p2_1:Int) (p2_2:Sl) (p2_3:Sl) (R:Ending → World → Prop) (w:World):Prop:=
 New w (.cells #[(.int .i64 p1_0),(.int .i64 p1_1),(.slice p1_2.a p1_2.n p1_2.c),(.slice p1_3.a p1_3.n p1_3.c)] 27) fun b1 w2=>
 New w2 (.cells #[(.int .i64 p2_0),(.int .i64 p2_1),(.slice p2_2.a p2_2.n p2_2.c),(.slice p2_3.a p2_3.n p2_3.c)] 27) fun b3 w4=>
 New w4 (.cells #[(.int .i64 0),(.int .i64 0),(.slice none 0 0),(.slice none 0 0)] 27) fun b5 w6=>
 New w6 (.cells #[(.int .i64 0)] 28) fun b7 w8=>
 LoadT (.agg [.int .i64,.int .i64,.sl,.sl]) w8 (Addr.mk b1 0 none) fun x9=>
 LoadT (.agg [.int .i64,.int .i64,.sl,.sl]) w8 (Addr.mk b3 0 none) fun x10=>
 New w8 (.cells #[(.int .i64 x9.1),(.int .i64 x9.2.1),(.slice x9.2.2.1.a x9.2.2.1.n x9.2.2.1.c),(.slice x9.2.2.2.1.a x9.2.2.2.1.n x9.2.2.2.1.c),(.int .i64 x10.1),(.int .i64 x10.2.1),(.slice x10.2.2.1.a x10.2.2.1.n x10.2.2.1.c),(.slice x10.2.2.2.1.a x10.2.2.2.1.n x10.2.2.2.1.c)] 27) fun b11 w12=>
 CallT Tryd.prog 55 #[(.int .i64 p0),(.slice (some (Addr.mk b11 0 none)) 2 2),(.slice none 0 0)] (.sc (.int .i64)) w12 (fun r13 w14=>
  Br ((r13:Int) != 0)
   (StoreN w14 (Addr.mk b5 0 none) [(.int .i64 0),(.int .i64 0),(.slice none 0 0),(.slice none 0 0)] fun w16=>
   Store1 w16 (Addr.mk b7 0 none) (.int .i64 r13) fun w17=>
   LoadT (.agg [.int .i64,.int .i64,.sl,.sl]) w17 (Addr.mk b5 0 none) fun x18=>
   LoadT (.sc (.int .i64)) w17 (Addr.mk b7 0 none) fun x19=>
   R (.returned (.tuple #[(.agg #[(.int .i64 x18.1),(.int .i64 x18.2.1),(.slice x18.2.2.1.a x18.2.2.1.n x18.2.2.1.c),(.slice x18.2.2.2.1.a x18.2.2.2.1.n x18.2.2.2.1.c)]),(.int .i64 x19)])) w17)
   (New w14 (.map #[] 0) fun b20 w21=>
   RunU Tryd.prog (Instr.mapUpdate 91 (.map (some b20)) (.agg #[(.int .i64 0),(.int .i64 0)]) (.int .i64 0)) w21 fun w22=>
   New w22 (.cells #[(.map none)] 91) fun b23 w24=>
   Store1 w24 (Addr.mk b23 0 none) (.map (some b20)) fun w25=>
   New w25 (.cells #[(.int .i64 0),(.int .i64 0)] 96) fun b26 w27=>
   New w27 (.cells #[(.slice none 0 0)] 106) fun b28 w29=>
   Store1 w29 (Addr.mk b28 0 none) (.slice (some (Addr.mk b26 0 none)) 1 1) fun w30=>
   CallT Tryd.prog 46 #[(.int .i64 p0)] (.sc .ptr) w30 (fun r31 w32=>
    New w32 (.cells #[(.pointer none)] 76) fun b34 w35=>
    Store1 w35 (Addr.mk b34 0 none) (.pointer r31) fun w36=>
    New w36 (.cells #[(.int .i64 0)] 3) fun b37 w38=>
    Store1 w38 (Addr.mk b37 0 none) (.int .i64 0) fun w39=>
    LoopD (σ:=Addr × Addr × Addr × Addr × Addr × Addr × Addr × Addr × Unit) ((Addr.mk b1 0 none),(Addr.mk b3 0 none),(Addr.mk b5 0 none),(Addr.mk b7 0 none),(Addr.mk b23 0 none),(Addr.mk b28 0 none),(Addr.mk b34 0 none),(Addr.mk b37 0 none),()) ([]) w39 fun l40 d44 g41 w42 I43=>
     LoadT (.sc (.int .i64)) w42 l40.2.2.2.2.2.2.2.1 fun x45=>
     LoadT (.sc .sl) w42 l40.2.2.2.2.2.1 fun x46=>
     Br (decide ((x45:Int) < ((x46.n:Nat):Int)))
      (LoadT (.agg [.int .i64,.int .i64,.sl,.sl]) w42.drew l40.1 fun x47=>
      LoadT (.sc .sl) w42.drew l40.2.2.2.2.2.1 fun x48=>
      LoadT (.sc (.int .i64)) w42.drew l40.2.2.2.2.2.2.2.1 fun x49=>
      Idx x48.a x48.n 2 x49 fun a50=>
      Idx (some a50) 2 1 0 fun a51=>
      LoadT (.sc (.int .i64)) w42.drew a51 fun x52=>
      CallT Tryd.prog 64 #[(.agg #[(.int .i64 x47.1),(.int .i64 x47.2.1),(.slice x47.2.2.1.a x47.2.2.1.n x47.2.2.1.c),(.slice x47.2.2.2.1.a x47.2.2.2.1.n x47.2.2.2.1.c)]),(.int .i64 x52)] (.sc (.clo 88 2)) w42.drew (fun r53 w54=>
       RangeF Tryd.prog 88 #[] #[(.pointer (some r53.1)),(.pointer (some r53.2.1))] [.sc (.int .i64),.sc (.int .i64)] w54 (fun x57 w58 Kc59 Kx60=>
        LoadT (.sc .sl) w58.drew (l40.2.1.add 3) fun x64=>
         LoadT (.sc .sl) w58.drew l40.2.2.2.2.2.1 fun x65=>
         LoadT (.sc (.int .i64)) w58.drew l40.2.2.2.2.2.2.2.1 fun x66=>
         Idx x65.a x65.n 2 x66 fun a67=>
         Idx (some a67) 2 1 1 fun a68=>
         LoadT (.sc (.int .i64)) w58.drew a68 fun x69=>
         Idx x64.a x64.n 1 x69 fun a70=>
         LoadT (.sc .sl) w58.drew a70 fun x71=>
         Idx x71.a x71.n 1 x57.1 fun a72=>
         LoadT (.sc (.int .i64)) w58.drew a72 fun x73=>
         Br (decide ((x73:Int) < 0))
          (Kc59 w58.drew)
          (New w58.drew (.cells #[(.int .i64 0),(.int .i64 0)] 96) fun b74 w75=>
          StoreN w75 (Addr.mk b74 0 none) [(.int .i64 x57.2.1),(.int .i64 x73)] fun w76=>
          LoadT (.sc .map) w76 l40.2.2.2.2.1 fun x77=>
          LoadT (.agg [.int .i64,.int .i64]) w76 (Addr.mk b74 0 none) fun x78=>
          RunN Tryd.prog [.sc (.int .i64),.sc .bool] (Instr.lookup 91 (.map x77) (.agg #[(.int .i64 x78.1),(.int .i64 x78.2.1)]) true) w76 fun r79 w80=>
          Join (σ:=Addr × Addr × Int × Int × Unit) (fun j83 g82 w101=>
           LoadT (.sc .ptr) w101 j83.1 fun x102=>
           LoadT (.sc (.int .i64)) w101 j83.2.1 fun x103=>
           CallN Tryd.prog 67 #[(.pointer x102),(.int .i64 x103),(.int .i64 j83.2.2.1),(.int .i64 j83.2.2.2.1)] [] w101 (fun r104 w105=>
            Kc59 w105) (fun h106 w105=>False)) fun J81=>
           Br (!r79.2.1)
            (LoadT (.sc .ptr) w80 l40.2.2.2.2.2.2.1 fun x84=>
            CallT Tryd.prog 66 #[(.pointer x84)] (.sc (.int .i64)) w80 (fun r85 w86=>
             LoadT (.sc .map) w86 l40.2.2.2.2.1 fun x88=>
             LoadT (.agg [.int .i64,.int .i64]) w86 (Addr.mk b74 0 none) fun x89=>
             RunU Tryd.prog (Instr.mapUpdate 91 (.map x88) (.agg #[(.int .i64 x89.1),(.int .i64 x89.2.1)]) (.int .i64 r85)) w86 fun w90=>
             LoadT (.sc .sl) w90 l40.2.2.2.2.2.1 fun x91=>
             LoadT (.agg [.int .i64,.int .i64]) w90 (Addr.mk b74 0 none) fun x92=>
             New w90 (.cells #[(.int .i64 x92.1),(.int .i64 x92.2.1)] 96) fun b93 w94=>
             RunT Tryd.prog (.sc .sl) (Builtin.append_ #[106,106] 106 #[(.slice x91.a x91.n x91.c),(.slice (some (Addr.mk b93 0 none)) 1 1)]) w94 fun r95 w96=>
             Store1 w96 l40.2.2.2.2.2.1 (.slice r95.a r95.n r95.c) fun w97=>
             LoadT (.sc .sl) w97 l40.2.2.2.2.2.1 fun x98=>
             Br (decide ((((x98.n:Nat):Int):Int) > 20000))
              (StoreN w97 l40.2.2.1 [(.int .i64 0),(.int .i64 0),(.slice none 0 0),(.slice none 0 0)] fun w99=>
              Store1 w99 l40.2.2.2.1 (.int .i64 2) fun w100=>
              Kx60 .ret w100)
              (J81 (l40.2.2.2.2.2.2.1,l40.2.2.2.2.2.2.2.1,x57.1,r85,()) w97)) (fun h87 w86=>False))
            (J81 (l40.2.2.2.2.2.2.1,l40.2.2.2.2.2.2.2.1,x57.1,r79.1,()) w80)))
        (fun j61 d62 w63=>match j61 with
        | none=>
          LoadT (.sc (.int .i64)) w63 l40.2.2.2.2.2.2.2.1 fun x107=>
          New w63 (.cells #[(.int .i64 0)] 3) fun b108 w109=>
          Store1 w109 (Addr.mk b108 0 none) (.int .i64 x107) fun w110=>
          LoadT (.sc (.int .i64)) w110 (Addr.mk b108 0 none) fun x111=>
          Store1 w110 (Addr.mk b108 0 none) (.int .i64 (IntKind.wrap .i64 (x111 + 1))) fun w112=>
          I43 (l40.1,l40.2.1,l40.2.2.1,l40.2.2.2.1,l40.2.2.2.2.1,l40.2.2.2.2.2.1,l40.2.2.2.2.2.2.1,(Addr.mk b108 0 none),()) (Fw.mark d62 :: d44) w112
        | some (.exit i)=>
         bif Nat.beq i 3 then
          False
         else False
        | some .ret=>
          RetM (Fw.mark d62 :: d44) w63 fun z113=>
          LoadT (.agg [.int .i64,.int .i64,.sl,.sl]) z113 l40.2.2.1 fun x114=>
          LoadT (.sc (.int .i64)) z113 l40.2.2.2.1 fun x115=>
          R (.returned (.tuple #[(.agg #[(.int .i64 x114.1),(.int .i64 x114.2.1),(.slice x114.2.2.1.a x114.2.2.1.n x114.2.2.1.c),(.slice x114.2.2.2.1.a x114.2.2.2.1.n x114.2.2.2.1.c)]),(.int .i64 x115)])) z113
        | some _=>False)) (fun h55 w54=>RetM (d44) w54 fun z56=>R (.panicked h55) z56))
      (LoadT (.sc .ptr) w42 l40.2.2.2.2.2.2.1 fun x116=>
      CallN Tryd.prog 49 #[(.pointer x116),(.int .i64 0)] [.agg [.int .i64,.int .i64,.sl,.sl],.sc (.int .i64)] w42 (fun r117 w118=>
       StoreN w118 l40.2.2.1 [(.int .i64 r117.1.1),(.int .i64 r117.1.2.1),(.slice r117.1.2.2.1.a r117.1.2.2.1.n r117.1.2.2.1.c),(.slice r117.1.2.2.2.1.a r117.1.2.2.2.1.n r117.1.2.2.2.1.c)] fun w121=>
       Store1 w121 l40.2.2.2.1 (.int .i64 r117.2.1) fun w122=>
       RetM (d44) w122 fun z123=>
       LoadT (.agg [.int .i64,.int .i64,.sl,.sl]) z123 l40.2.2.1 fun x124=>
       LoadT (.sc (.int .i64)) z123 l40.2.2.2.1 fun x125=>
       R (.returned (.tuple #[(.agg #[(.int .i64 x124.1),(.int .i64 x124.2.1),(.slice x124.2.2.1.a x124.2.2.1.n x124.2.2.1.c),(.slice x124.2.2.2.1.a x124.2.2.2.1.n x124.2.2.2.1.c)]),(.int .i64 x125)])) z123) (fun h119 w118=>RetM (d44) w118 fun z120=>R (.panicked h119) z120))) (fun h33 w32=>R (.panicked h33) w32))) (fun h15 w14=>R (.panicked h15) w14)
theorem fold_Intersect.calls (p0:Int) (p1_0:Int) (p1_1:Int) (p1_2:Sl) (p1_3:Sl) (p2_0:Int) (p2_1:Int) (p2_2:Sl) (p2_3:Sl) {R:Ending → World → Prop} {w:World} (h:fold_Intersect.sh p0 p1_0 p1_1 p1_2 p1_3 p2_0 p2_1 p2_2 p2_3 R w):Calls Tryd.prog 33 #[(.int .i64 p0),(.agg #[(.int .i64 p1_0),(.int .i64 p1_1),(.slice p1_2.a p1_2.n p1_2.c),(.slice p1_3.a p1_3.n p1_3.c)]),(.agg #[(.int .i64 p2_0),(.int .i64 p2_1),(.slice p2_2.a p2_2.n p2_2.c),(.slice p2_3.a p2_3.n p2_3.c)])] w R:=calls_of_wpc mixed Tryd.func33 (by kernel_rfl) (by kernel_rfl) ((show _ = wpc Tryd.prog fold_Intersect.ann fold_Intersect.body (fnKs Tryd.prog Tryd.f33 R) [] (env0 #[(.int .i64 p0),(.agg #[(.int .i64 p1_0),(.int .i64 p1_1),(.slice p1_2.a p1_2.n p1_2.c),(.slice p1_3.a p1_3.n p1_3.c)]),(.agg #[(.int .i64 p2_0),(.int .i64 p2_1),(.slice p2_2.a p2_2.n p2_2.c),(.slice p2_3.a p2_3.n p2_3.c)])]) w by kernel_rfl).mp h)
end Go.Proofs.YtffdjfkekdoeaaaDoor
end
section
set_option maxRecDepth 4000
set_option maxHeartbeats 4000000
namespace Go.Proofs.YtffdjfkekdoeaaaDoor.Fo
open Fw Wd Rf Pl
theorem Turn.chg {B:Nat} {V V':World} (t:Turn B V V'):Chg (fun k=>∃ r,V.heap[k]? = some (.loop r)) V V':=
 ⟨t.os,t.tape,t.output,t.size,fun k hk hs=>by
  have h:V.heap[k]? = some V.heap[k]:=Array.getElem?_eq_getElem hk
  rw [h]
  exact t.keep k _ h fun r hr=>hs ⟨r,by rw [h,hr]⟩⟩
theorem Rep.foot_cells {w:World} {fb:Nat} {st:St} {M:Mem} (h:Fo.Rep w fb st M) {k:Nat} (hk:M.foot fb k):∃ cur e,w.heap[k]? = some (.cells cur e (0,0)) ∧ e ≠ 76 ∧ e ≠ 27:=by
 rcases hk with rfl | hk | hk | hk | hk
 ·exact ⟨_,_,h.head,by decide,by decide⟩
 ·obtain ⟨c,hc⟩:=h.par.elem hk; exact ⟨_,_,hc,by decide,by decide⟩
 ·obtain ⟨c,hc⟩:=h.next.elem hk; exact ⟨_,_,hc,by decide,by decide⟩
 ·obtain ⟨c,hc⟩:=h.todo.elem hk; exact ⟨_,_,hc,by decide,by decide⟩
 ·obtain ⟨c,hc⟩:=h.rowElem hk; exact ⟨_,_,hc,by decide,by decide⟩
theorem Rep.turn {B:Nat} {w w':World} {fb:Nat} {st:St} {M:Mem} (h:Fo.Rep w fb st M) (t:Turn B w w'):Fo.Rep w' fb st M:=
 h.chg (Turn.chg t) fun k hk ⟨r,hr⟩=>by obtain ⟨c,e,hc,_⟩:=Rep.foot_cells h hk; rw [hc] at hr; cases hr
theorem Rep.keepL {w w':World} {fb:Nat} {st:St} {M:Mem} (h:Fo.Rep w fb st M) (hc:Chg (M.foot fb) w w'):KeepL w w':=
 KeepL.of' hc fun k hk=>by obtain ⟨c,e,hc,_⟩:=Rep.foot_cells h hk; exact ⟨_,hc,rfl⟩
theorem own_lit {w:World} {b n:Nat} {e:TypeId} {t:Ty} {cs:Array Value} {xs:List t.den} (h:w.heap[b]? = some (.cells cs e (0,0))) (hz:0 < t.sz) (hc:cs.toList = xs.flatMap t.cells) (hn:n = xs.length) (hm:n ≤ maxLen):OwnT w e t ⟨some ⟨b,0,none⟩,n,n⟩ xs:=by
 have hl:cs.size = n * t.sz:=by
  have:=congrArg List.length hc
  rw [flat_length] at this
  rw [hn,← this]; simp
 refine ⟨⟨by rw [flat_length,← hn],.inr ⟨b,n,cs,rfl,Nat.zero_le _,h,Nat.le_refl _,hm,hl,?_⟩⟩,hn⟩
 rw [← hc,← hl]
 exact List.take_of_length_le (by simp)
def atN (start n0 s:Nat):Nat:=if s = 0 then start else n0 + (s - 1)
def atL (start n0 j:Nat):List Int:=(List.range j).map fun s=>((atN start n0 s:Nat):Int)
theorem atL_succ (start n0 j:Nat):atL start n0 (j + 1) = atL start n0 j ++ [((atN start n0 j:Nat):Int)]:=by
 unfold atL
 rw [List.range_succ,List.map_append]; rfl
theorem atL_get {start n0 j s:Nat} (h:s < j):(atL start n0 j)[s]? = some ((atN start n0 s:Nat):Int):=by
 unfold atL
 rw [List.getElem?_map,List.getElem?_range h]; rfl
theorem atL_len (start n0 j:Nat):(atL start n0 j).length = j:=by unfold atL; simp
def evR (f:Nat → Nat) (s:Nat) (l:List (Int × Int × Unit)):List Ed:=l.flatMap fun e=>if e.1.toNat % 2 = 0 then [(f s,e.1.toNat,f e.2.1.toNat)] else []
def grE (f:Nat → Nat) (next:List (List Int)) (s:Nat):List Ed:=(List.range s).flatMap fun i=>evR f i (edgesFrom 0 (next.getD i []))
theorem evR_mem {f:Nat → Nat} {s:Nat} {l:List (Int × Int × Unit)} {e:Ed}:e ∈ evR f s l ↔ ∃ x t u,(x,t,u) ∈ l ∧ x.toNat % 2 = 0 ∧ e = (f s,x.toNat,f t.toNat):=by
 unfold evR
 rw [List.mem_flatMap]
 constructor
 ·rintro ⟨⟨x,t,u⟩,h1,h2⟩
  split at h2
  ·rename_i hp
   simp only [List.mem_singleton] at h2
   exact ⟨x,t,u,h1,hp,h2⟩
  ·simp at h2
 ·rintro ⟨x,t,u,h1,h2,h3⟩
  exact ⟨_,h1,by rw [if_pos h2]; simp [h3]⟩
theorem grE_dir {k:Nat} (hk:k ≤ 8) {a:Aut} (hc:a.check (k:Int) = 0) (f:Nat → Nat) {u y v:Nat}:Dir (grE f a.next a.next.length) u y v ↔ ∃ s x t,Dl (k:Int) a s x t ∧ u = f s ∧ y = x ∧ v = f t:=by
 have hA:=dl_aut (k:=(k:Int)) (by omega) hc
 obtain ⟨_,_,n1,n2,_,_,hrows⟩:=check_spec hc
 have ev:∀ {u y v:Nat},(u,y,v) ∈ grE f a.next a.next.length ↔ ∃ s x t,Dl (k:Int) a s x t ∧ x % 2 = 0 ∧ u = f s ∧ y = x ∧ v = f t:=fun {u y v}=>by
  unfold grE
  rw [List.mem_flatMap]
  constructor
  ·rintro ⟨s,hs,he⟩
   obtain ⟨x,t,un,h1,h2,h3⟩:=evR_mem.1 he
   have hs:=List.mem_range.1 hs
   have hg:a.next.getD s [] = a.next[s]:=getD_get hs
   rw [hg] at h1
   obtain ⟨i,g1,g2,g3⟩:=Pl.edges_mem _ 0 _ h1
   dsimp only at g1 g2 g3
   have hlt:=(List.getElem?_eq_some_iff.1 g1).1
   obtain ⟨r1,r2⟩:=hrows _ (List.getElem_mem hs)
   simp only [Prod.mk.injEq] at h3
   subst g2
   rw [Nat.zero_add] at *
   refine ⟨s,i,t.toNat,⟨hs,by rw [Int.toNat_natCast]; omega,?_⟩,by simpa using h2,h3.1,by simpa using h3.2.1,h3.2.2⟩
   unfold getN
   rw [hg,List.getD_eq_getElem?_getD,g1]
   show t = _
   omega
  ·rintro ⟨s,x,t,⟨h1,h2,h3⟩,h4,rfl,rfl,rfl⟩
   refine ⟨s,List.mem_range.2 h1,evR_mem.2 ⟨(y:Int),(t:Int),(),?_,by simpa using h4,by simp⟩⟩
   obtain ⟨row,g1,g2,g3,g4,g5⟩:=getN_row (k:=(k:Int)) hc h1 h2
   have hg:a.next.getD s [] = row:=by rw [List.getD_eq_getElem?_getD,g1]; rfl
   rw [hg]
   have he:=edges_of row 0 y g2 (by rw [← g3,h3]; omega)
   rw [Nat.zero_add,← g3,h3] at he
   exact he
 constructor
 ·rintro (⟨h1,h2⟩ | ⟨h1,h2⟩)
  ·obtain ⟨s,x,t,g1,g2,g3⟩:=ev.1 h2
   exact ⟨s,x,t,g1,g3⟩
  ·obtain ⟨s,x,t,g1,g2,g3,g4,g5⟩:=ev.1 h2
   have:=hA.inv _ _ _ g1
   rw [Pl.xor1,if_pos g2] at this
   exact ⟨t,x + 1,s,this,g5,by omega,g3⟩
 ·rintro ⟨s,x,t,h1,rfl,rfl,rfl⟩
  by_cases hx:y % 2 = 0
  ·exact .inl ⟨hx,ev.2 ⟨s,y,t,h1,hx,rfl,rfl,rfl⟩⟩
  ·have:=hA.inv _ _ _ h1
   rw [Pl.xor1,if_neg hx] at this
   exact .inr ⟨by omega,ev.2 ⟨t,y - 1,s,this,by omega,rfl,rfl,rfl⟩⟩
structure Gf (w0 w W:World) (rs:List Nat) (b1 b3 b7 fb:Nat) (M:Mem) (av:Array Value) (st1:St) (M1:Mem) (sat:Sl) (at':List Int):Prop where
 chg0:Chg Nil w0 W
 chg:Chg (M.foot fb) w W
 mks:Marks W rs
 mB:∀ r ∈ rs,w.heap.size ≤ r
 bB:w.heap.size ≤ b1 ∧ w.heap.size ≤ b3 ∧ w.heap.size ≤ b7
 c1:W.heap[b1]? = some (.cells #[.pointer (some (at0 fb))] 76 (0,0))
 c3:W.heap[b3]? = some (.cells av 27 (0,0))
 c7:W.heap[b7]? = some (.cells #[sat.v] 85 (0,0))
 rep:Fo.Rep W fb st1 M1
 foot:∀ k,M1.foot fb k → M.foot fb k ∨ w.heap.size ≤ k
 own:OwnT W 3 tI sat at'
 lo:∀ k,sat.own k → w.heap.size ≤ k
 ap:∀ k,M1.foot fb k → k ≠ b7 ∧ ¬ sat.own k
section
variable {w0 w W W':World} {rs:List Nat} {b1 b3 b7 fb:Nat} {M M1:Mem} {av:Array Value} {st1 st2:St} {sat:Sl} {at':List Int}
theorem Gf.cells (h:Gf w0 w W rs b1 b3 b7 fb M av st1 M1 sat at'):(∀ k,M1.foot fb k → k ≠ b1 ∧ k ≠ b3) ∧ ¬ sat.own b1 ∧ ¬ sat.own b3 ∧ ¬ sat.own b7:=by
 refine ⟨fun k hk=>?_,fun ho=>?_,fun ho=>?_,fun ho=>?_⟩
 ·obtain ⟨c,e,hc,n1,n2⟩:=Rep.foot_cells h.rep hk
  exact ⟨ne_of_elem hc h.c1 n1,ne_of_elem hc h.c3 n2⟩
 ·obtain ⟨c,hc⟩:=h.own.elem ho; have:=h.c1; rw [hc] at this; cases this
 ·obtain ⟨c,hc⟩:=h.own.elem ho; have:=h.c3; rw [hc] at this; cases this
 ·obtain ⟨c,hc⟩:=h.own.elem ho; have:=h.c7; rw [hc] at this; cases this
theorem Gf.nil (h:Gf w0 w W rs b1 b3 b7 fb M av st1 M1 sat at') (hc:Chg Nil W W'):Gf w0 w W' rs b1 b3 b7 fb M av st1 M1 sat at':=
 { chg0:=h.chg0.then hc,chg:=h.chg.then hc.nil,mks:=h.mks.chg hc (fun _ _ h=>h),mB:=h.mB,bB:=h.bB,c1:=hc.heap h.c1 (fun h=>h),c3:=hc.heap h.c3 (fun h=>h),c7:=hc.heap h.c7 (fun h=>h)
   rep:=h.rep.nil hc,foot:=h.foot,own:=h.own.chg hc (fun _ _ h=>h),lo:=h.lo,ap:=h.ap }
theorem Gf.turn {B:Nat} (h:Gf w0 w W rs b1 b3 b7 fb M av st1 M1 sat at') (t:Turn B W W') (hB:w.heap.size ≤ B) (hw:Chg Nil w0 w):Gf w0 w W' rs b1 b3 b7 fb M av st1 M1 sat at':=by
 have hle:=hw.size
 have c1:Chg (M.foot fb) w W':=⟨t.os.trans h.chg.os,t.tape.trans h.chg.tape,t.output.trans h.chg.output,Nat.le_trans h.chg.size t.size,fun k hk hs=>by
  rw [← h.chg.block k hk hs]; exact t.old k (by omega) (Nat.lt_of_lt_of_le hk h.chg.size)⟩
 exact { chg0:=h.chg0.turn t (by omega),chg:=c1,mks:=h.mks.turn t,mB:=h.mB,bB:=h.bB,c1:=t.cells h.c1,c3:=t.cells h.c3,c7:=t.cells h.c7
         rep:=Rep.turn h.rep t,foot:=h.foot,own:=OwnT.turn h.own t,lo:=h.lo,ap:=h.ap }
theorem Gf.step (h:Gf w0 w W rs b1 b3 b7 fb M av st1 M1 sat at') (hw:Chg Nil w0 w) (hf0:∀ k,M.foot fb k → w0.heap.size ≤ k) (k:Fo.Step fb M1 W W' st2):∃ M2,Gf w0 w W' rs b1 b3 b7 fb M av st2 M2 sat at':=by
 obtain ⟨⟨M2,hr2,hf2⟩,hc2⟩:=k
 obtain ⟨d1,d2,d3,d4⟩:=h.cells
 have hle:=h.chg.size
 have hlt:=h.own.lt
 refine ⟨M2,{ chg0:=h.chg0.trans hc2 (fun _ _ h=>h) (fun i hi hk=>?_),chg:=h.chg.trans hc2 (fun _ _ h=>h) (fun i hi hk=>?_),mks:=h.mks.chg hc2 (fun r hr hk=>?_),mB:=h.mB,bB:=h.bB
              c1:=hc2.heap h.c1 (fun hk=>(d1 _ hk).1 rfl),c3:=hc2.heap h.c3 (fun hk=>(d1 _ hk).2 rfl),c7:=hc2.heap h.c7 (fun hk=>(h.ap _ hk).1 rfl)
              rep:=hr2,foot:=fun k hk=>?_,own:=h.own.chg hc2 (fun a ha hk=>(h.ap _ hk).2 ⟨a,ha,rfl⟩),lo:=h.lo,ap:=fun k hk=>?_ }⟩
 ·rcases h.foot i hk with h1 | h1
  ·have:=hf0 i h1; omega
  ·have:=hw.size; omega
 ·rcases h.foot i hk with h1 | h1
  ·exact h1
  ·omega
 ·obtain ⟨c,e,hc,_⟩:=Rep.foot_cells h.rep hk
  have:=h.mks.2 r hr
  rw [hc] at this; cases this
 ·rcases hf2 k hk with h1 | h1
  ·exact h.foot k h1
  ·exact .inr (by omega)
 ·rcases hf2 k hk with h1 | h1
  ·exact h.ap k h1
  ·have l7:=lt_of_heap h.c7
   refine ⟨by omega,fun ⟨a,ha,he⟩=>?_⟩
   have:=hlt a ha
   omega
theorem Gf.mark (h:Gf w0 w W rs b1 b3 b7 fb M av st1 M1 sat at') {d:Nat} (hd:W.heap[d]? = some (.deferred (some []))) (hB:w.heap.size ≤ d) (hn:d ∉ rs):Gf w0 w W (d :: rs) b1 b3 b7 fb M av st1 M1 sat at':=
 { h with mks:=h.mks.cons hd hn,mB:=fun r hr=>by rcases List.mem_cons.1 hr with rfl | hr; exact hB; exact h.mB r hr }
end
theorem graft_ret {w0 w:World} {fb:Nat} {st:St} {M:Mem} (h:Fo.Rep w fb st M) (hw:Chg Nil w0 w) (hf0:∀ k,M.foot fb k → w0.heap.size ≤ k) {E:List Edg} (hI:Pl.Inv E st) (hB:Both E) {k:Nat} (hk:1 ≤ k ∧ k ≤ 8) (hm:st.m = 2 * k)
  {x:Int × Int × Sl × Sl × Unit} {a:Aut} (ha:AutIn w0 x a) (hc:a.check (k:Int) = 0) {start:Nat} (hst:start < st.par.length) (hsz:st.par.length ≤ 1000000) :
  RetN Tryd.prog 68 #[.pointer (some (at0 fb)),.agg #[.int .i64 x.1,.int .i64 x.2.1,x.2.2.1.v,x.2.2.2.1.v],.int .i64 (start:Int)] [] w fun _ w'=>
   ∃ E' st',Fo.Step fb M w w' st' ∧ Pl.Inv E' st' ∧ Both E' ∧ st'.m = st.m ∧ st'.par.length = st.par.length + (a.next.length - 1) ∧
    ∀ u y v,(u,y,v) ∈ E' ↔ (u,y,v) ∈ E ∨ ∃ s x t,Dl (k:Int) a s x t ∧ u = atN start st.par.length s ∧ y = x ∧ v = atN start st.par.length t:=by
 obtain ⟨x1,x2,sa,sn,_⟩:=x
 obtain ⟨_,_,hn1,hn2,hla,_,hrows⟩:=check_spec hc
 refine fold_folding_graft.calls _ x1 x2 sa sn (start:Int) ?_
 unfold fold_folding_graft.sh
 refine New.mk fun b1 w1 hb1 hh1 hs1 hc1=>?_
 refine New.mk fun b3 w2 hb3 hh3 hs3 hc3=>?_
 refine New.mk fun b5 w3 hb5 hh5 hs5 hc5=>?_
 refine New.mk fun b7 w4 hb7 hh7 hs7 hc7=>?_
 refine Store1.at0' hh7 (by show 0 < 1; decide) rfl fun w5 hh7' hc7' hsz7=>?_
 have hnn:sn.n = a.next.length:=by obtain ⟨_,_,_,sls,h4,h5,_⟩:=ha.rd; rw [h4.len,h5]
 generalize hav:(#[.int .i64 x1,.int .i64 x2,.slice sa.a sa.n sa.c,.slice sn.a sn.n sn.c]:Array Value) = av at *
 have e7:∀ j,j < b7 → ¬ (j = b7):=fun j hj he=>by omega
 have l1:=lt_of_heap hh1
 have l3:=lt_of_heap hh3
 have l5:=lt_of_heap hh5
 have hN5:Chg Nil w w5:=(((hc1.then hc3).then hc5).then hc7).trans hc7' (fun _ _ h=>h) fun i hi he=>by have he:i = b7:=he; omega
 have hown:OwnT w5 3 tI ⟨some ⟨b5,0,none⟩,1,1⟩ (atL start st.par.length 1):=by
  have h4:OwnT w4 3 tI ⟨some ⟨b5,0,none⟩,1,1⟩ (atL start st.par.length 1):=by
   exact own_lit (t:=tI) (hc7.heap hh5 fun h=>h) (by decide) rfl rfl (by decide)
  exact h4.chg hc7' fun ad had he=>by cases had; exact e7 b5 (by omega) he
 have hG0:Gf w0 w w5 [] b1 b3 b7 fb M av st M ⟨some ⟨b5,0,none⟩,1,1⟩ (atL start st.par.length 1):=by
  have hlt:=Fo.Rep.lt h
  exact { chg0:=hw.then hN5,chg:=hN5.nil,mks:=⟨List.nodup_nil,fun r hr=>by simp at hr⟩,mB:=by simp,bB:=by omega
          c1:=hc7'.heap (hc7.heap (hc5.heap (hc3.heap hh1 fun h=>h) fun h=>h) fun h=>h) (e7 _ (by omega))
          c3:=hc7'.heap (hc7.heap (hc5.heap hh3 fun h=>h) fun h=>h) (e7 _ (by omega)),c7:=hh7',rep:=h.nil hN5,foot:=fun _ h=>.inl h,own:=hown
          lo:=fun j hj=>by obtain ⟨ad,had,he⟩:=hj; cases had; dsimp only at he; omega
          ap:=fun j hj=>by have:=hlt j hj; exact ⟨by omega,fun ⟨ad,had,he⟩=>by cases had; dsimp only at he; omega⟩ }
 clear hown hh7' hh7 hh5 hh3 hh1 hc7' e7
 refine LoadT.sc (s:=.sl) (x:=sn) (by rw [cellOf hG0.c3,← hav]; rfl) ?_
 have hw1:IntKind.wrap .i64 (((sn.n:Nat):Int) - 1) = ((a.next.length - 1:Nat):Int):=by rw [hnn,wrap64 (by omega) (by omega)]; omega
 rw [hw1]
 -- the states
 refine LoopT.mk (fun y W=>∃ (j:Nat) (st1:St) (M1:Mem) (sat:Sl),j ≤ a.next.length - 1 ∧ y = (at0 b1,at0 b3,at0 b7,((a.next.length - 1:Nat):Int),(j:Int),()) ∧ Gf w0 w W [] b1 b3 b7 fb M av st1 M1 sat (atL start st.par.length (j + 1)) ∧
   Pl.Inv E st1 ∧ st1.m = st.m ∧ st1.par.length = st.par.length + j) (fun y _=>a.next.length - 1 - y.2.2.2.2.1.toNat) ⟨0,st,M,_,Nat.zero_le _,rfl,hG0,hI,rfl,rfl⟩ ?_
 clear hG0
 rintro y g W ⟨j,st1,M1,sat,hj,rfl,hG,hI1,hm1,hp1⟩
 dsimp only
 refine Br.dec (fun hlt=>?_) (fun hge=>?_)
 ·have hlt':j < a.next.length - 1:=by omega
  have hGd:=hG.nil (Chg.drew W)
  obtain ⟨st2,hs2,hI2,hm2,hp2⟩:=state_ev hI1 (by unfold big; omega)
  have hSl:∀ U:World,(U.heap[b7]? = some (.cells #[sat.v] 85 (0,0)) ∧ U.heap[b1]? = some (.cells #[.pointer (some (at0 fb))] 76 (0,0))) → U.cell? (at0 b7) = some (.slice sat.a sat.n sat.c) ∧ U.cell? (at0 b1) = some (.pointer (some (at0 fb))):=fun U hU=>⟨by rw [cellOf0 hU.1]; rfl,by rw [cellOf0 hU.2]; rfl⟩
  refine ⟨fun U:World=>U.heap[b7]? = some (.cells #[sat.v] 85 (0,0)) ∧ U.heap[b1]? = some (.cells #[.pointer (some (at0 fb))] 76 (0,0)),⟨hGd.c7,hGd.c1⟩,?_⟩
  refine LoadS.sc (s:=.sl) (x:=sat) (fun U hU=>(hSl U hU).1) ?_
  refine LoadS.sc (s:=.ptr) (x:=some (at0 fb)) (fun U hU=>(hSl U hU).2) ?_
  refine Ret.call (state_ret hGd.rep hs2) ?_
  rintro _ W1 ⟨rfl,hst1⟩
  obtain ⟨M2,hG1⟩:=hGd.step hw hf0 hst1
  refine ⟨⟨hG1.c7,hG1.c1⟩,?_⟩
  refine New.mk fun b21 W2 hb21 hn21 _ hc21=>?_
  have hG2:=hG1.nil hc21
  refine ⟨⟨hG2.c7,hG2.c1⟩,?_⟩
  have hle2:=hG2.chg.size
  have hsl:(atL start st.par.length (j + 1)).length = j + 1:=atL_len _ _ _
  refine OwnT.append (t:=tI) (m:=1) ok85 rfl (by decide) hG2.own [((st1.par.length:Nat):Int)] rfl (by decide) (fun i v hv=>by rw [cellOf hn21]; simpa [Ty.cells] using hv) (by rw [hsl]; omega) (by rw [hsl]; simp only [maxLen]; omega) fun sat' W3 ho3 hc3' hown3=>?_
  obtain ⟨d1,d2,d3,d4⟩:=hG2.cells
  have hb7:W3.heap[b7]? = some (.cells #[sat.v] 85 (0,0)):=hc3'.heap hG2.c7 d4
  have hb1':W3.heap[b1]? = some (.cells #[.pointer (some (at0 fb))] 76 (0,0)):=hc3'.heap hG2.c1 d2
  refine ⟨⟨hb7,hb1'⟩,?_⟩
  refine Store1.at0' hb7 (by show 0 < 1; decide) rfl fun W4 hb7' hc4 _=>?_
  have hle:=hG2.chg.size
  have hlt7:=lt_of_heap hG2.c7
  have hol:=hG2.own.lt
  have hn7:∀ i,sat'.own i → i ≠ b7:=fun i hi he=>by
   rcases hown3 i hi with h1 | h1
   ·exact d4 (he ▸ h1)
   ·omega
  have hfo:∀ i,M2.foot fb i → i ≠ b7 ∧ ¬ sat'.own i:=fun i hi=>⟨(hG2.ap i hi).1,fun ho=>by
   rcases hown3 i ho with h1 | h1
   ·exact (hG2.ap i hi).2 h1
   ·have:=Fo.Rep.lt hG2.rep i hi; omega⟩
  have hat:atL start st.par.length (j + 1) ++ [((st1.par.length:Nat):Int)] = atL start st.par.length (j + 1 + 1):=by
   rw [atL_succ start st.par.length (j + 1)]
   congr 2
   unfold atN
   rw [if_neg (by omega),hp1]; simp
  have hG4:Gf w0 w W4 [] b1 b3 b7 fb M av st2 M2 sat' (atL start st.par.length (j + 1 + 1)):=by
   have ho4:OwnT W4 3 tI sat' (atL start st.par.length (j + 1 + 1)):=by rw [← hat]; exact ho3.chg hc4 fun ad had he=>hn7 _ ⟨ad,had,rfl⟩ he
   have hw2:=hw.size
   exact { chg0:=(hG2.chg0.trans hc3' (fun _ _ h=>h) fun i hi ho=>by have:=hG2.lo i ho; omega).trans hc4 (fun _ _ h=>h) fun i hi he=>by have he:i = b7:=he; have:=hG2.bB.2.2; omega
           chg:=(hG2.chg.trans hc3' (fun _ _ h=>h) fun i hi ho=>by have:=hG2.lo i ho; omega).trans hc4 (fun _ _ h=>h) fun i hi he=>by have he:i = b7:=he; have:=hG2.bB.2.2; omega
           mks:=⟨List.nodup_nil,fun r hr=>by simp at hr⟩,mB:=by simp,bB:=hG2.bB
           c1:=hc4.heap hb1' fun he=>by have he:b1 = b7:=he; have:=hG2.c1; rw [he,hG2.c7] at this; cases this
           c3:=hc4.heap (hc3'.heap hG2.c3 d3) fun he=>by have he:b3 = b7:=he; have:=hG2.c3; rw [he,hG2.c7] at this; cases this
           c7:=hb7',rep:=(hG2.rep.chg hc3' fun i hi ho=>(hG2.ap i hi).2 ho).chg hc4 fun i hi he=>(hG2.ap i hi).1 he
           foot:=hG2.foot,own:=ho4
           lo:=fun i hi=>by
            rcases hown3 i hi with h1 | h1
            ·exact hG2.lo i h1
            ·omega
           ap:=hfo }
  rw [wrap64 (x:=(j:Int) + 1) (by omega) (by omega)]
  refine ⟨⟨j + 1,st2,M2,sat',hlt',rfl,hG4,hI2,by rw [hm2,hm1],by omega⟩,?_⟩
  show a.next.length - 1 - (j + 1) < a.next.length - 1 - j
  omega
 have hjl:j = a.next.length - 1:=by have:¬ (j:Int) < ((a.next.length - 1:Nat):Int):=hge; omega
 subst hjl
 have hn0:a.next.length - 1 + 1 = a.next.length:=by omega
 rw [hn0] at hG
 refine LoadT.sc (s:=.sl) (x:=sn) (by rw [cellOf hG.c3,← hav]; rfl) ?_
 -- the transitions
 have hbase:st1.par.length ≤ 1002000:=by omega
 refine ⟨fun y ds V=>∃ (s:Nat) (rs:List Nat) (st2:St) (M2:Mem) (E2:List Edg),s ≤ a.next.length ∧ y = (at0 b1,at0 b3,at0 b7,((sn.n:Nat):Int),(s:Int),()) ∧ ds = marksOf rs ∧ Gf w0 w V rs b1 b3 b7 fb M av st2 M2 sat (atL start st.par.length a.next.length) ∧
   Pl.Inv E2 st2 ∧ Both E2 ∧ st2.m = st.m ∧ st2.par.length = st1.par.length ∧ ∀ u y v,(u,y,v) ∈ E2 ↔ (u,y,v) ∈ E ∨ Dir (grE (atN start st.par.length) a.next s) u y v,fun y _=>a.next.length - y.2.2.2.2.1.toNat,
  ⟨0,[],st1,M1,E,Nat.zero_le _,rfl,rfl,hG,hI1,hB,hm1,rfl,fun u y v=>by simp [grE,Dir]⟩,?_⟩
 clear hG hI1
 rintro y ds g2 V ⟨s,rs,st2,M2,E2,hs,rfl,rfl,hG,hI2,hB2,hm2,hp2,hE2⟩
 dsimp only
 refine Br.dec (fun hlt=>?_) (fun hge=>?_)
 ·have hlt':s < a.next.length:=by omega
  have hrow':a.next[s]? = some a.next[s]:=List.getElem?_eq_getElem hlt'
  generalize hR:a.next[s] = row at hrow'
  have hgetS:a.next.getD s [] = row:=by rw [List.getD_eq_getElem?_getD,hrow']; rfl
  obtain ⟨hrlen,hrval⟩:=hrows row (List.mem_of_getElem? hrow')
  refine New.mk fun b32 V1 hb32 hh32 hs32 hc32=>?_
  refine Store1.at0' hh32 (by show 0 < 1; decide) rfl fun V2 hh32' hc32' hsz32=>?_
  have hN2:Chg Nil V V2:=hc32.trans hc32' (fun _ _ h=>h) fun i hi he=>by have he:i = b32:=he; omega
  have hG2:=hG.nil hN2
  refine LoadT.mk (.agg [.int .i64,.int .i64,.sl,.sl]) (x:=(x1,x2,sa,sn,())) (fun j v hv=>by rw [show at0 b3 = Addr.mk b3 0 none from rfl,cellOf hG2.c3,← hav]; simpa [Ty.cells] using hv) ?_
  refine LoadT.sc (s:=.int .i64) (x:=(s:Int)) (by rw [cellOf0 hh32']; rfl) ?_
  refine Ret.call (edges_ret (v0:=x1) (v1:=x2) (sa:=sa) (sn:=sn) (s:Int)) ?_
  rintro _ V3 ⟨q1,q3,rfl,hq1,hq3,hc23,hB1,hB3⟩
  have hq1:V3.heap[q1]? = some (.cells av 27 (0,0)):=by rw [← hav]; exact hq1
  have hG3:=hG2.nil hc23
  have hh32'':=hc23.heap hh32' fun h=>h
  obtain ⟨_,_,_,sls,hrn0,hsl,hrws0,_⟩:=ha.rd
  have hrn0:RdT w0 (.sc .sl) sn sls:=hrn0
  obtain ⟨rsl,hrsl⟩:∃ rsl,sls[s]? = some rsl:=⟨_,List.getElem?_eq_getElem (by rw [hsl]; exact hlt')⟩
  have hrr:=hrws0 s rsl row hrsl hrow'
  have hsz3:w.heap.size ≤ V3.heap.size:=hG3.chg.size
  have lv3:=Fo.Rep.lt hG3.rep
  -- these cells no folding touches
  have hap3:∀ i,M2.foot fb i → i ≠ b32 ∧ i ≠ q1 ∧ i ≠ q3:=fun i hi=>by
   have:=Fo.Rep.lt hG.rep i hi
   have:=hN2.size
   have:=hc32.size
   omega
  refine ⟨edgesFrom 0 row,_,fun i U=>∃ (st3:St) (M3:Mem) (E3:List Edg),Gf w0 w U rs b1 b3 b7 fb M av st3 M3 sat (atL start st.par.length a.next.length) ∧ U.heap[b32]? = some (.cells #[.int .i64 (s:Int)] 3 (0,0)) ∧ U.heap[q1]? = some (.cells av 27 (0,0)) ∧ U.heap[q3]? = some (.cells #[.int .i64 (s:Int)] 3 (0,0)) ∧
    (∀ i,M3.foot fb i → i ≠ b32 ∧ i ≠ q1 ∧ i ≠ q3) ∧ Pl.Inv E3 st3 ∧ Both E3 ∧ st3.m = st.m ∧ st3.par.length = st1.par.length ∧ ∀ u y v,(u,y,v) ∈ E3 ↔ (u,y,v) ∈ E ∨ Dir (grE (atN start st.par.length) a.next s ++ evR (atN start st.par.length) s ((edgesFrom 0 row).take i)) u y v,
   fun c U=>False,edges_gives (q0:=at0 q1) (q1:=at0 q3) (sn:=sn) (rsl:=rsl) (sls:=sls) (s:=s) (row:=row) (by omega),?_,?_,?_,?_,?_,?_,?_⟩
  ·rintro i U ⟨st3,M3,E3,v1,v2,v3,v4,_⟩
   exact ⟨by rw [cellOf v3,← hav]; rfl,by rw [cellOf0 v4]; rfl,hrn0.chg v1.chg0 (fun _ _ h=>h),hrsl,hrr.chg v1.chg0 (fun _ _ h=>h)⟩
  ·rintro i U U' ⟨st3,M3,E3,v1,v2,v3,v4,v5⟩ ht
   exact ⟨st3,M3,E3,v1.turn ht hsz3 hw,ht.cells v2,ht.cells v3,ht.cells v4,v5⟩
  ·rintro c U U' hf ht
   exact hf
  ·exact ⟨st2,M2,E2,hG3,hh32'',hq1,hq3,hap3,hI2,hB2,hm2,hp2,fun u y v=>by rw [hE2]; simp [evR]⟩
  ·rintro i ⟨ex,et,eu⟩ U hx ⟨st3,M3,E3,hU,u32,uq1,uq3,hap,hI3,hB3',hm3,hp3,hE3⟩
   obtain ⟨e1,e2,e3,e4⟩:=Fo.edges_mem row 0 ex et eu (List.mem_of_getElem? hx)
   have e6:=hrval et e2
   obtain ⟨nt,rfl⟩:=Int.eq_ofNat_of_zero_le e1
   obtain ⟨nx,rfl⟩:=Int.eq_ofNat_of_zero_le e3
   have htake:(edgesFrom 0 row).take (i + 1) = (edgesFrom 0 row).take i ++ [((nx:Int),(nt:Int),eu)]:=by rw [List.take_add_one,hx]; rfl
   have hev:evR (atN start st.par.length) s ((edgesFrom 0 row).take (i + 1)) = evR (atN start st.par.length) s ((edgesFrom 0 row).take i) ++ (if nx % 2 = 0 then [(atN start st.par.length s,nx,atN start st.par.length nt)] else []):=by
    rw [htake]; unfold evR; rw [List.flatMap_append]
    simp
   have hmod:Int.tmod (nx:Int) 2 = ((nx % 2:Nat):Int):=by
    rw [Int.tmod_eq_emod_of_nonneg (by omega)]; omega
   refine ⟨by decide,?_⟩
   dsimp only
   rw [hmod]
   refine Br.mk (fun heven=>?_) (fun hodd=>?_)
   ·have heven:nx % 2 = 0:=by have:((nx % 2:Nat):Int) = 0:=by simpa using heven
                              omega
    have hUd:=hU.nil (Chg.drew U)
    have ud32:U.drew.heap[b32]? = some (.cells #[.int .i64 (s:Int)] 3 (0,0)):=u32
    refine LoadT.sc (s:=.ptr) (x:=some (at0 fb)) (by rw [show at0 b1 = Addr.mk b1 0 none from rfl,cellOf0 hUd.c1]; rfl) ?_
    refine LoadT.sc (s:=.sl) (x:=sat) (by rw [show at0 b7 = Addr.mk b7 0 none from rfl,cellOf0 hUd.c7]; rfl) ?_
    refine LoadT.sc (s:=.int .i64) (x:=(s:Int)) (by rw [cellOf0 ud32]; rfl) ?_
    refine hUd.own.rd.get (t:=tI) s rfl (atL_get hlt') ?_
    refine LoadT.sc (s:=.sl) (x:=sat) (by rw [show at0 b7 = Addr.mk b7 0 none from rfl,cellOf0 hUd.c7]; rfl) ?_
    refine hUd.own.rd.get (t:=tI) nt rfl (atL_get (by omega)) ?_
    have hxm:nx < st3.m:=by rw [hm3,hm]; omega
    have hxm1:nx ^^^ 1 < st3.m:=by rw [hm3,hm]; exact Pl.xor_lt hk.2 (by omega)
    have hatlt:∀ q,q < a.next.length → atN start st.par.length q < st3.par.length:=fun q hq=>by
     unfold atN
     split <;> omega
    have hmul:st3.par.length * (st3.m + 1) ≤ 1002000 * 17:=Nat.mul_le_mul (by omega) (by omega)
    obtain ⟨st4,⟨K,hl4⟩,hI4,hm4,hp4⟩:=link_ev hI3 (hatlt s hlt') (hatlt nt (by omega)) hxm hxm1 (by unfold big; omega)
    refine RetN.call (link_ret hUd.rep (hl4 K (Nat.le_refl _))) fun _ U1 hs4=>?_
    have hst4:=hs4.step
    obtain ⟨M4,hU1⟩:=hUd.step hw hf0 hst4
    have hkeep:KeepL U U1:=by
     have k1:=Rep.keepL hUd.rep hst4.chg
     intro q o hq ho
     exact k1 q o hq ho
    obtain ⟨⟨M5,hr5,hf5⟩,hc5'⟩:=hst4
    have hap5:∀ i,M5.foot fb i → i ≠ b32 ∧ i ≠ q1 ∧ i ≠ q3:=fun i hi=>by
     rcases hf5 i hi with h1 | h1
     ·exact hap i h1
     ·have:=lt_of_heap ud32
      have:=lt_of_heap (show U.drew.heap[q1]? = _ from uq1)
      have:=lt_of_heap (show U.drew.heap[q3]? = _ from uq3)
      omega
    have hns:∀ {q o},U.heap[q]? = some o → (q = b32 ∨ q = q1 ∨ q = q3) → U1.heap[q]? = some o:=fun {q o} hq hor=>hc5'.heap (w:=U.drew) hq fun hfo=>by
     obtain ⟨n1,n2,n3⟩:=hap q hfo
     rcases hor with h | h | h
     ·exact n1 h
     ·exact n2 h
     ·exact n3 h
    have hU5:Gf w0 w U1 rs b1 b3 b7 fb M av st4 M5 sat (atL start st.par.length a.next.length):=by
     obtain ⟨d1,d2,d3,d4⟩:=hUd.cells
     have hl7:=lt_of_heap hUd.c7
     have hol:=hUd.own.lt
     have hsz:=hUd.chg.size
     exact { chg0:=hU1.chg0,chg:=hU1.chg,mks:=hU1.mks,mB:=hU1.mB,bB:=hU1.bB,c1:=hU1.c1,c3:=hU1.c3,c7:=hU1.c7,rep:=hr5
             foot:=fun i hi=>by
              rcases hf5 i hi with h1 | h1
              ·exact hUd.foot i h1
              ·exact .inr (by omega)
             own:=hU1.own,lo:=hU1.lo
             ap:=fun i hi=>by
              rcases hf5 i hi with h1 | h1
              ·exact hUd.ap i h1
              ·exact ⟨by omega,fun ⟨ad,had,he⟩=>by have:=hol ad had; omega⟩ }
    refine ⟨hkeep,st4,M5,_,hU5,hns u32 (.inl rfl),hns uq1 (.inr (.inl rfl)),hns uq3 (.inr (.inr rfl)),hap5,hI4,Both.app (Both.pair _ _ _) hB3',by rw [hm4,hm3],by rw [hp4,hp3],fun u y v=>?_⟩
    rw [hev,if_pos heven,← List.append_assoc]
    have hdd:=dir_app (es:=grE (atN start st.par.length) a.next s ++ evR (atN start st.par.length) s ((edgesFrom 0 row).take i)) (es':=[(atN start st.par.length s,nx,atN start st.par.length nt)]) (s:=u) (x:=y) (t:=v)
    rw [hdd]
    have hone:Dir [(atN start st.par.length s,nx,atN start st.par.length nt)] u y v ↔ ((u,y,v) = (atN start st.par.length s,nx,atN start st.par.length nt) ∨ (u,y,v) = (atN start st.par.length nt,nx ^^^ 1,atN start st.par.length s)):=by
     have hx1:nx ^^^ 1 = nx + 1:=by rw [Pl.xor1,if_pos heven]
     simp only [Dir,List.mem_singleton,Prod.mk.injEq]
     constructor
     ·rintro (⟨p,q⟩ | ⟨p,q⟩)
      ·exact .inl q
      ·exact .inr ⟨by omega,by omega,by omega⟩
     ·rintro (⟨p1,p2,p3⟩ | ⟨p1,p2,p3⟩)
      ·exact .inl ⟨by omega,p1,p2,p3⟩
      ·exact .inr ⟨by omega,p3,by omega,p1⟩
    rw [hone]
    simp only [List.mem_cons,hE3]
    constructor
    ·rintro (p | p | p | p)
     ·exact .inr (.inr (.inl p))
     ·exact .inr (.inr (.inr p))
     ·exact .inl p
     ·exact .inr (.inl p)
    ·rintro (p | p | p | p)
     ·exact .inr (.inr (.inl p))
     ·exact .inr (.inr (.inr p))
     ·exact .inl p
     ·exact .inr (.inl p)
   ·have hodd:¬ nx % 2 = 0:=fun he=>by rw [he] at hodd; simp at hodd
    refine ⟨fun q o hq _=>hq,st3,M3,E3,hU,u32,uq1,uq3,hap,hI3,hB3',hm3,hp3,fun u y v=>?_⟩
    rw [hev,if_neg hodd,List.append_nil]
    exact hE3 u y v
  ·rintro d U hd hlo ⟨st3,M3,E3,hU,u32,uq1,uq3,hap,hI3,hB3',hm3,hp3,hE3⟩
   have hnr:d ∉ rs:=fun hr=>by have:=lt_of_heap (hG3.mks.2 d hr); omega
   rw [wrap64 (x:=(s:Int) + 1) (by omega) (by omega)]
   refine ⟨⟨s + 1,d :: rs,st3,M3,E3,hlt',rfl,rfl,hU.mark hd (by omega) hnr,hI3,hB3',hm3,hp3,fun u y v=>?_⟩,?_⟩
   ·rw [hE3,List.take_length]
    have:grE (atN start st.par.length) a.next (s + 1) = grE (atN start st.par.length) a.next s ++ evR (atN start st.par.length) s (edgesFrom 0 row):=by
     unfold grE
     rw [List.range_succ,List.flatMap_append,List.flatMap_cons,List.flatMap_nil,List.append_nil,hgetS]
    rw [this]
   ·show a.next.length - (s + 1) < a.next.length - s
    omega
  ·rintro c d U hd hlo hf
   exact hf.elim
 ·have hsn:s = a.next.length:=by omega
  subst hsn
  refine retM_marks rs V hG.mks fun V' hc'=>⟨(),rfl,E2,st2,?_,hI2,hB2,hm2,by rw [hp2,hp1],fun u y v=>?_⟩
  ·have hcr:Chg (M.foot fb) w V':=hG.chg.trans hc' (fun _ _ h=>h) fun i hi hr=>by have:=hG.mB i hr; omega
   refine ⟨⟨M2,hG.rep.chg hc' fun i hi hr=>?_,hG.foot⟩,hcr⟩
   obtain ⟨c,e,hcc,_⟩:=Rep.foot_cells hG.rep hi
   have:=hG.mks.2 i hr
   rw [hcc] at this; cases this
  ·rw [hE2,grE_dir hk.2 hc]
end Go.Proofs.YtffdjfkekdoeaaaDoor.Fo
end
section
set_option maxRecDepth 8000
set_option maxHeartbeats 4000000
namespace Go.Proofs.YtffdjfkekdoeaaaDoor.Fo
open Fw Wd Rf Pl
theorem foldedD_len {k v:Nat} (hk:k ≤ 8) {δ:Nat → Nat → Nat → Prop} {R:List Row} (h:FoldedD k δ v (some R)):R.length ≤ 2000 ∧ ∀ r ∈ R,r.length ≤ 16:=by
 obtain ⟨E,st,rows',_,i1,i2,i3,i4,i5⟩:=h.ok
 obtain ⟨⟨K,h1⟩,h2⟩:=i5.yes _ rfl
 refine ⟨h2,fun r hr=>?_⟩
 have:=numG_rows (m:=2 * k) (fun v=>?_) K 0 _ [] _ (by simp) h1 r hr
 ·omega
 ·unfold rowOf
  split
  ·rename_i row hrow
   exact Nat.le_of_eq (i5.wf.len _ _ hrow)
  ·simp
def Fresh (B:Nat) (W:World) (x:tA.den) (a:Aut):Prop:=∀ (W':World) (S:Nat → Prop),Chg S W W' → (∀ k,S k → k < B) → AutIn W' x a
theorem made_lang {w0 w:World} {fb:Nat} {st:St} {M:Mem} (h:Fo.Rep w fb st M) (hw:Chg Nil w0 w) (hf0:∀ k,M.foot fb k → w0.heap.size ≤ k) {E:List Edg} (hI:Pl.Inv E st) (hB:Both E) {k:Nat} (hk:1 ≤ k ∧ k ≤ 8) (hm:st.m = 2 * k)
  {v:Nat} (hv:v < st.par.length) (hsz:st.par.length ≤ 10000000) :
  RetN Tryd.prog 49 #[.pointer (some (at0 fb)),.int .i64 (v:Int)] [tA,tI] w fun y w'=>∃ o,FoldedD k (Er E) v o ∧ Chg Nil w0 w' ∧ Chg (M.foot fb) w w' ∧ Fresh w.heap.size w' y.1 (autR (resOf (2 * k) o)).1 ∧ y.2.1 = (autR (resOf (2 * k) o)).2:=by
 have hmul:st.par.length * (st.m + 1) ≤ 10000000 * 17:=Nat.mul_le_mul hsz (by omega)
 obtain ⟨o,rows',⟨K,b1⟩,b2⟩:=made_ev (s:=v) hI hB (fun x hx=>by rw [hm] at hx ⊢; exact Pl.xor_lt hk.2 hx) hv (by unfold big; omega)
 rw [hm] at b2
 have hF:FoldedD k (Er E) v o:=⟨E,st,rows',fun _ _ _=>Iff.rfl,hI,hB,hm,hv,b2⟩
 refine Calls.mono (made_ret h (by rw [hI.ok.len]; unfold big; omega) (by omega) (b1 K (Nat.le_refl _))) ?_
 rintro e w' ⟨hc,he⟩
 have hc0:Chg Nil w0 w':=hw.trans hc (fun _ _ h=>h) fun i hi hk=>by have:=hf0 i hk; omega
 cases o with
 | none=>
  have he:e = _:=he
  subst he
  exact ⟨((0,0,⟨none,0,0⟩,⟨none,0,0⟩,()),2,()),rfl,none,hF,hc0,hc,fun W' _ _ _=>autIn_zero W',rfl⟩
 | some R=>
  obtain ⟨sa,sn,rfl,hA⟩:=he
  obtain ⟨h1,h2⟩:=foldedD_len hk.2 hF
  rw [hm]
  exact ⟨((((2 * k:Nat):Int),0,sa,sn,()),0,()),rfl,some R,hF,hc0,hc,fun W' S hS hlt=>autIn_of (hA.chg hS fun q hq hs=>by have:=hlt q hs; omega) h1 h2,rfl⟩
theorem exam_two {k:Int} {a b:Aut} (hk:1 ≤ k ∧ k ≤ 8):examF k [a,b] [] = 0 ↔ a.check k = 0 ∧ b.check k = 0:=by
 unfold examF
 rw [if_neg (by simpa using hk)]
 by_cases h1:a.check k = 0
 ·by_cases h2:b.check k = 0
  ·simp [h1,h2]
  ·simp [h1,h2]
 ·simp [h1]
theorem exam_rank {k:Int} {l:List Aut} {ws:List ByteArray} (h:examF k l ws = 0):1 ≤ k ∧ k ≤ 8:=by
 unfold examF at h
 split at h
 ·cases h
 ·rename_i hk
  exact Classical.byContradiction fun hh=>hk hh
def Mv (k:Int) (a:Aut) (f:Nat → Nat) (u y v:Nat):Prop:=∃ s x t,Dl k a s x t ∧ u = f s ∧ y = x ∧ v = f t
def joinD (k:Int) (a b:Aut) (u y v:Nat):Prop:=Mv k a (atN 0 1) u y v ∨ Mv k b (atN 0 a.next.length) u y v
inductive JoinIs (k:Int) (a b:Aut):FoldR → Prop
 | err:examF k [a,b] [] ≠ 0 → JoinIs k a b (.err (examF k [a,b] []))
 | ok {o:Option (List Row)}:examF k [a,b] [] = 0 → FoldedD k.toNat (joinD k a b) 0 o → JoinIs k a b (resOf (2 * k.toNat) o)
theorem foldedD_iff {k v:Nat} {δ ε:Nat → Nat → Nat → Prop} {o:Option (List Row)} (h:FoldedD k δ v o) (he:∀ s x t,δ s x t ↔ ε s x t):FoldedD k ε v o:=by
 obtain ⟨E,st,rows',e1,i⟩:=h.ok
 exact ⟨E,st,rows',fun s x t=>(e1 s x t).trans (he s x t),i⟩
theorem Join_ret {w:World} (hl:Laid w) {k:Int} {x y:Int × Int × Sl × Sl × Unit} {a b:Aut} (ha:AutIn w x a) (hb:AutIn w y b) :
  RetN Tryd.prog 34 #[.int .i64 k,.agg #[.int .i64 x.1,.int .i64 x.2.1,x.2.2.1.v,x.2.2.2.1.v],.agg #[.int .i64 y.1,.int .i64 y.2.1,y.2.2.1.v,y.2.2.2.1.v]] [tA,tI] w fun z w'=>
   ∃ res,JoinIs k a b res ∧ Chg Nil w w' ∧ AutIn w' z.1 (autR res).1 ∧ z.2.1 = (autR res).2:=by
 obtain ⟨x1,x2,sa,sn,_⟩:=x
 obtain ⟨y1,y2,ta,tn,_⟩:=y
 refine fold_Join.calls k x1 x2 sa sn y1 y2 ta tn ?_
 unfold fold_Join.sh
 refine New.mk fun b1 w1 hb1 hh1 hs1 hc1=>?_
 refine New.mk fun b3 w2 hb3 hh3 hs3 hc3=>?_
 refine New.mk fun b5 w3 hb5 hh5 hs5 hc5=>?_
 have h1:w3.heap[b1]? = some _:=hc5.heap (hc3.heap hh1 fun h=>h) fun h=>h
 have h3:w3.heap[b3]? = some _:=hc5.heap hh3 fun h=>h
 refine LoadT.mk tA (x:=(x1,x2,sa,sn,())) (fun j v hv=>by rw [cellOf h1]; simpa [Ty.cells] using hv) ?_
 refine LoadT.mk tA (x:=(y1,y2,ta,tn,())) (fun j v hv=>by rw [cellOf h3]; simpa [Ty.cells] using hv) ?_
 refine New.mk fun b9 w4 hb9 hh9 hs9 hc9=>?_
 have hc04:=((hc1.then hc3).then hc5).then hc9
 have hz4:=hc9.heap hh5 fun h=>h
 refine Ret.call (exam_ret (sl:=⟨some ⟨b9,0,none⟩,2,2⟩) (sw:=⟨none,0,0⟩) (xs:=[(x1,x2,sa,sn,()),(y1,y2,ta,tn,())]) (ats:=[a,b]) (ws:=[]) (hl.nil hc04) (rd_lit hh9 rfl rfl) rfl (fun i z c hz hc=>by
  match i,hz,hc with
  | 0,hz,hc=>simp at hz hc; subst hz; subst hc; exact ha.nil hc04
  | 1,hz,hc=>simp at hz hc; subst hz; subst hc; exact hb.nil hc04
  | i + 2,hz,hc=>simp at hz) (RdT.nil _ _ _ _) (by simp) (by simp)) ?_
 rintro _ w5 ⟨rfl,hc4⟩
 have hc05:=hc04.then hc4
 have hz5:=hc4.heap hz4 fun h=>h
 refine Br.mk (fun hne=>?_) (fun heq=>?_)
 ·have hne':examF k [a,b] [] ≠ 0:=by simpa using hne
  refine StoreN.whole (vs:=[.int .i64 0,.int .i64 0,.slice none 0 0,.slice none 0 0]) hz5 rfl fun w6 h6 hc6 _=>?_
  refine LoadT.mk tA (x:=(0,0,⟨none,0,0⟩,⟨none,0,0⟩,())) (fun j v hv=>by rw [cellOf h6]; simpa [Ty.cells] using hv) ?_
  refine ⟨((0,0,⟨none,0,0⟩,⟨none,0,0⟩,()),examF k [a,b] [],()),rfl,_,.err hne',hc05.trans hc6 (fun _ _ h=>h) fun i hi he=>by have he:i = b5:=he; have:=(hc1.then hc3).size; omega,autIn_zero w6,rfl⟩
 ·have hz:examF k [a,b] [] = 0:=by simpa using heq
  have hk:=exam_rank hz
  obtain ⟨hca,hcb⟩:=(exam_two hk).1 hz
  obtain ⟨nk,rfl⟩:=Int.eq_ofNat_of_zero_le (show 0 ≤ k by omega)
  obtain ⟨_,_,na1,na2,_⟩:=check_spec hca
  obtain ⟨_,_,nb1,nb2,_⟩:=check_spec hcb
  refine Ret.call (start_ret nk (by omega) (by omega)) ?_
  rintro _ w6 ⟨fb,M,rfl,hr6,hc6,hf6⟩
  have hc06:=hc05.then hc6
  have h16:=((hc9.then hc4).then hc6).heap h1 fun h=>h
  have h36:=((hc9.then hc4).then hc6).heap h3 fun h=>h
  have h56:=hc6.heap hz5 fun h=>h
  have sz5:=hc05.size
  have hf0:∀ q,M.foot fb q → w5.heap.size ≤ q:=hf6
  refine LoadT.mk tA (x:=(x1,x2,sa,sn,())) (fun j v hv=>by rw [cellOf h16]; simpa [Ty.cells] using hv) ?_
  have hm0:(start0 (2 * nk)).m = 2 * nk:=rfl
  have hp0:(start0 (2 * nk)).par.length = 1:=rfl
  refine RetN.call (graft_ret (w0:=w5) (k:=nk) (x:=(x1,x2,sa,sn,())) (start:=0) hr6 hc6 hf0 (start_inv _) Both.nil (by omega) hm0 (ha.nil hc05) hca (by rw [hp0]; omega) (by rw [hp0]; omega)) ?_
  rintro _ w7 ⟨E1,st1,⟨⟨M1,hr7,hf7⟩,hc7⟩,hI1,hB1,hm1,hp1,hE1⟩
  have hN7:Chg Nil w5 w7:=hc6.trans hc7 (fun _ _ h=>h) fun i hi hk=>by have:=hf0 i hk; omega
  have hf07:∀ q,M1.foot fb q → w5.heap.size ≤ q:=fun q hq=>by
   rcases hf7 q hq with h | h
   ·exact hf0 q h
   ·have:=hc6.size; omega
  have h37:=hN7.heap ((hc9.then hc4).heap h3 fun h=>h) fun h=>h
  refine LoadT.mk tA (x:=(y1,y2,ta,tn,())) (fun j v hv=>by rw [cellOf h37]; simpa [Ty.cells] using hv) ?_
  rw [hp0] at hp1
  rw [hp0] at hE1
  refine RetN.call (graft_ret (w0:=w5) (k:=nk) (x:=(y1,y2,ta,tn,())) (start:=0) hr7 hN7 hf07 hI1 hB1 (by omega) (by rw [hm1,hm0]) (hb.nil hc05) hcb (by omega) (by omega)) ?_
  rintro _ w8 ⟨E2,st2,⟨⟨M2,hr8,hf8⟩,hc8⟩,hI2,hB2,hm2,hp2,hE2⟩
  have hN8:Chg Nil w5 w8:=hN7.trans hc8 (fun _ _ h=>h) fun i hi hk=>by have:=hf07 i hk; omega
  have hf08:∀ q,M2.foot fb q → w5.heap.size ≤ q:=fun q hq=>by
   rcases hf8 q hq with h | h
   ·exact hf07 q h
   ·have:=hN7.size; omega
  refine RetN.call (made_lang (w0:=w5) (k:=nk) (v:=0) hr8 hN8 hf08 hI2 hB2 (by omega) (by rw [hm2,hm1,hm0]) (by omega) (by omega)) ?_
  rintro ⟨⟨z1,z2,ua,un,_⟩,z3,_⟩ w9 ⟨o,hF,hN9,_,hA,hz3⟩
  have hz9:=hN9.heap hz5 fun h=>h
  have hFJ:FoldedD nk (joinD (nk:Int) a b) 0 o:=foldedD_iff hF fun s x t=>by
   show (s,x,t) ∈ E2 ↔ _
   rw [hE2,hE1,hp1]
   have e:1 + (a.next.length - 1) = a.next.length:=by omega
   rw [e]
   unfold joinD Mv
   simp
  refine StoreN.whole (vs:=[.int .i64 z1,.int .i64 z2,ua.v,un.v]) hz9 rfl fun w10 h10 hc10 _=>?_
  refine LoadT.mk tA (x:=(z1,z2,ua,un,())) (fun j v hv=>by rw [cellOf h10]; simpa [Ty.cells] using hv) ?_
  have hJ:=JoinIs.ok (k:=(nk:Int)) (a:=a) (b:=b) hz hFJ
  refine ⟨((z1,z2,ua,un,()),z3,()),rfl,_,hJ,(hc05.then hN9).trans hc10 (fun _ _ h=>h) fun i hi he=>by have he:i = b5:=he; have:=(hc1.then hc3).size; omega,hA w10 _ hc10 fun q hq=>?_,hz3⟩
  have hq:q = b5:=hq
  have:=hN8.size
  have:=lt_of_heap hz5
  omega
end Go.Proofs.YtffdjfkekdoeaaaDoor.Fo
end
section
set_option maxRecDepth 8000
set_option maxHeartbeats 4000000
namespace Go.Proofs.YtffdjfkekdoeaaaDoor.Rf
open Fw Wd Fo Pl
def metF (n m:Nat):List Bool:=(List.range n).map fun i=>decide (i < m)
theorem metF_set {n m:Nat} (h:m < n):(metF n m).set m true = metF n (m + 1):=by
 unfold metF
 apply List.ext_getElem (by simp)
 intro i h1 h2
 rw [List.getElem_set]
 simp only [List.getElem_map,List.getElem_range]
 split
 ·rename_i he; subst he; simp
 ·rename_i he
  by_cases hi:i < m
  ·simp [hi]; omega
  ·simp [hi]; omega
theorem metF_get {n m i:Nat} (h:i < n):(metF n m)[i]? = some (decide (i < m)):=by
 unfold metF; rw [List.getElem?_map,List.getElem?_range h]; rfl
theorem metF_zero (n:Nat):List.replicate n false = metF n 0:=by
 unfold metF
 apply List.ext_getElem (by simp)
 intro i h1 h2
 simp
theorem zero4':(Tryd.prog.info? 4).bind (·.zero) = some (.bool false):=by kernel_rfl
theorem Paths_ret {w:World} {k:Int} {x:Int × Int × Sl × Sl × Unit} {a:Aut} (h:AutIn w x a) (hc:a.check k = 0) (hk:1 ≤ k ∧ k ≤ 8) :
  Ret Tryd.prog 32 #[.agg #[.int .i64 x.1,.int .i64 x.2.1,x.2.2.1.v,x.2.2.2.1.v]] (.sc .sl) w fun y w'=>OwnT w' 9 tS y (treeF a.next).paths ∧ Chg Nil w w' ∧ ∀ k,y.own k → w.heap.size ≤ k:=by
 obtain ⟨x1,x2,sa,sn,_⟩:=x
 obtain ⟨hsym,_,hn1,hn2,hla,hscan0,hrows⟩:=check_spec hc
 have a1:=h.sym
 simp only at a1
 refine cayleyref21_Paths.calls x1 x2 sa sn ?_
 unfold cayleyref21_Paths.sh
 refine New.mk fun b1 w1 hb1 hh1 hs1 hc1=>?_
 obtain ⟨hra,_,_,sls,hrn,hsl,hrws,_⟩:=h.rd
 have hrn:RdT w (.sc .sl) sn sls:=hrn
 have e1:sa.n = a.next.length:=by rw [hla]; exact hra.len
 have hml:maxLen = 9223372036854775807:=rfl
 refine LoadT.sc (s:=.sl) (x:=sa) (by rw [cellOf hh1]; rfl) ?_
 rw [e1]
 refine makeSlice_own (s:=.str) ok22 (z:=(⟨#[]⟩:ByteArray)) zero9 rfl a.next.length rfl (by omega) (by omega) fun g w2 hog hcg hg=>?_
 refine LoadT.sc (s:=.sl) (x:=sa) (by rw [cellOf (hcg.heap hh1 fun h=>h)]; rfl) ?_
 rw [e1]
 refine makeSlice_own (s:=.bool) ok24 (z:=false) zero4' rfl a.next.length rfl (by omega) (by omega) fun m w3 hom hcm hm=>?_
 rw [metF_zero] at hom
 refine hom.idx (t:=.sc .bool) 0 rfl (by simp [metF]; omega) fun g' hg'=>?_
 cases hg'
 refine hom.store (s:=.bool) rfl 0 (by simp [metF]; omega) (x:=true) fun w4 hom4 hc4 _=>?_
 rw [metF_set (by omega)] at hom4
 have hog3:=hog.chg hcm fun _ _ h=>h
 have hgl:=Rf.OwnT.ltk hog (k:=g) ⟨_,rfl,rfl⟩
 have hog4:OwnT w4 9 tS (sl0 g a.next.length) (List.replicate a.next.length ⟨#[]⟩):=hog3.chg hc4 fun a' ha' he=>by cases ha'; have he:g = m:=he; omega
 have z1:=hc1.size
 have z2:=hcg.size
 have hc04:Chg Nil w w4:=((hc1.then hcg).then hcm).trans hc4 (fun _ _ h=>h) fun i hi he=>by have he:i = m:=he; omega
 have l1:=lt_of_heap hh1
 have h14:w4.heap[b1]? = some (.cells #[.int .i64 x1,.int .i64 x2,sa.v,sn.v] 27 (0,0)):=hc4.heap (hcm.heap (hcg.heap hh1 fun h=>h) fun h=>h) fun he=>by have he:b1 = m:=he; omega
 have hgm:g < m:=by omega
 have hT0:=TreeOk.start hn1
 let Inv:World → Tree → Prop:=fun W T=>Chg Nil w W ∧ W.heap[b1]? = some (.cells #[.int .i64 x1,.int .i64 x2,sa.v,sn.v] 27 (0,0)) ∧ OwnT W 9 tS (sl0 g a.next.length) T.paths ∧ OwnT W 4 (.sc .bool) (sl0 m a.next.length) (metF a.next.length T.seen) ∧ TreeOk a.next T
 refine LoopT.mk (fun y W=>∃ (s:Nat) (T:Tree),s ≤ a.next.length ∧ y = (at0 b1,sl0 g a.next.length,sl0 m a.next.length,(s:Int),()) ∧ Inv W T ∧ treeR s (a.next.drop s) T = treeF a.next ∧ scanR a.acc a.next s (a.next.drop s) T.seen = some a.next.length) (fun y _=>a.next.length - y.2.2.2.1.toNat)
  ⟨0,_,Nat.zero_le _,rfl,⟨hc04,h14,hog4,hom4,hT0⟩,rfl,hscan0⟩ ?_
 rintro y gE W ⟨s,T,hs,rfl,⟨i1,i2,i3,i4,i5⟩,htree,hscan⟩
 dsimp only
 refine LoadT.sc (s:=.sl) (x:=sa) (by rw [cellOf i2]; rfl) ?_
 rw [e1]
 refine Br.dec (fun hlt=>?_) (fun hge=>?_)
 ·have hlt':s < a.next.length:=by omega
  have hdrop:a.next.drop s = a.next[s] :: a.next.drop (s + 1):=List.drop_eq_getElem_cons hlt'
  have hrow':a.next[s]? = some a.next[s]:=List.getElem?_eq_getElem hlt'
  generalize hR:a.next[s] = row at hdrop hrow'
  obtain ⟨hrlen,hrval⟩:=hrows row (List.mem_of_getElem? hrow')
  have hgetS:a.next.getD s [] = row:=by rw [List.getD_eq_getElem?_getD,hrow']; rfl
  rw [hdrop] at htree hscan
  simp only [treeR,scanR] at htree hscan
  split at hscan
  ·cases hscan
  rename_i hgood
  split at hscan
  ·cases hscan
  rename_i seen' hE
  have hsT:s < T.seen:=by
   by_cases hcc:T.seen ≤ s
   ·exact absurd (.inr (.inr hcc)) hgood
   ·omega
  obtain ⟨rsl,hrsl⟩:∃ rsl,sls[s]? = some rsl:=⟨_,List.getElem?_eq_getElem (by rw [hsl]; exact hlt')⟩
  have hrr:=hrws s rsl row hrsl hrow'
  refine LoopT.mk (fun y W=>∃ (x:Nat) (T':Tree),x ≤ row.length ∧ y = (at0 b1,sl0 g a.next.length,sl0 m a.next.length,(s:Int),(x:Int),()) ∧ Inv W T' ∧ treeE s (edgesFrom x (row.drop x)) T' = treeE s (edgesFrom 0 row) T ∧ scanE a.next s (edgesFrom x (row.drop x)) T'.seen = some seen' ∧ s < T'.seen) (fun y _=>row.length - y.2.2.2.2.1.toNat)
   ⟨0,T,Nat.zero_le _,rfl,⟨i1,i2,i3,i4,i5⟩,rfl,hE,hsT⟩ ?_
  clear i1 i2 i3 i4 i5
  rintro y gE2 W ⟨x,T',hx,rfl,⟨i1,i2,i3,i4,i5⟩,htr,hsc,hsT'⟩
  dsimp only
  refine LoadT.sc (s:=.int .i64) (x:=x1) (by rw [cellOf i2]; rfl) ?_
  rw [a1,hsym]
  refine Br.dec (fun hlt2=>?_) (fun hge2=>?_)
  ·have hxr:x < row.length:=by omega
   have hxe:row[x]? = some row[x]:=List.getElem?_eq_getElem hxr
   have hdr2:row.drop x = row[x] :: row.drop (x + 1):=List.drop_eq_getElem_cons hxr
   have htv:=hrval row[x] (List.getElem_mem hxr)
   have hfor0:getN a.next s x = row[x]:=by unfold getN; rw [hgetS,getD_get hxr]
   rw [hdr2] at htr hsc
   generalize row[x] = t at *
   simp only [edgesFrom] at htr hsc
   refine LoadT.sc (s:=.sl) (x:=sn) (by rw [cellOf i2]; rfl) ?_
   refine (hrn.chg i1 fun _ _ h=>h).get (t:=.sc .sl) s rfl hrsl ?_
   refine (hrr.chg i1 fun _ _ h=>h).get (t:=tI) x rfl hxe ?_
   have hwx:IntKind.wrap .i64 ((x:Int) + 1) = ((x + 1:Nat):Int):=by rw [wrap64 (by omega) (by omega)]; rfl
   have hmu:row.length - (x + 1) < row.length - x:=by omega
   have hseen:=i5.seen
   refine Join.by' (fun y V=>∃ b:Bool,y = (at0 b1,sl0 g a.next.length,sl0 m a.next.length,(s:Int),(x:Int),t,b,()) ∧ V = W ∧ (b = true ↔ (0 ≤ t ∧ ¬ t.toNat < T'.seen))) ?_ ?_
   ·rintro y V gE3 ⟨b,rfl,hV,hb⟩
    rw [hV]; clear hV
    dsimp only
    rw [hwx]
    refine Br.mk (fun hbt=>?_) (fun hbf=>?_)
    ·obtain ⟨h0,hge3⟩:=hb.1 hbt
     obtain ⟨nt,rfl⟩:=Int.eq_ofNat_of_zero_le h0
     simp only [Int.toNat_natCast] at hge3
     rw [if_pos h0] at htr hsc
     simp only [treeE,scanE] at htr hsc
     split at hsc
     ·cases hsc
     rename_i hok
     have hle:¬ (nt:Int) > (T'.seen:Int):=fun hh=>hok (.inr hh)
     have hback:getN a.next nt (x ^^^ 1) = (s:Int):=by
      by_cases hh:(a.next.getD ((nt:Int)).toNat []).getD (((x:Int)).toNat ^^^ 1) 0 = (s:Int)
      ·exact hh
      ·exact absurd (.inl hh) hok
     obtain rfl:nt = T'.seen:=by omega
     rw [if_pos rfl] at htr hsc
     have hstep:=i5.step hsT' (by omega) hfor0 hback
     have hmlen:T'.seen < (metF a.next.length T'.seen).length:=by simp [metF]; omega
     refine i4.idx (t:=.sc .bool) T'.seen rfl hmlen fun g' hg'=>?_
     cases hg'
     refine i4.store (s:=.bool) rfl T'.seen hmlen (x:=true) fun V1 om1 hcA _=>?_
     rw [metF_set (by omega)] at om1
     have hd:Chg Nil V1 V1.drew:=Chg.drew V1
     have pl:s < T'.paths.length:=by rw [i5.len]; exact hlt'
     have hps:T'.paths[s]? = some (T'.paths.getD s ⟨#[]⟩):=by rw [getD_get pl]; exact List.getElem?_eq_getElem pl
     have op1:OwnT V1 9 tS (sl0 g a.next.length) T'.paths:=i3.chg hcA fun a' ha' he=>by cases ha'; have he:g = m:=he; omega
     have j1:Chg Nil w V1:=i1.trans hcA (fun _ _ h=>h) fun i hi he=>by have he:i = m:=he; omega
     have j2:=hcA.heap i2 fun he=>by have he:b1 = m:=he; omega
     refine ⟨fun U=>Chg Nil V1.drew U,Chg.refl _,?_⟩
     refine rd_idxA (t:=tS) op1.rd s rfl hps fun ad had=>?_
     refine LoadS.sc (s:=.str) (x:=T'.paths.getD s ⟨#[]⟩) (fun U hU=>(op1.rd.chg (hd.then hU) fun _ _ h=>h).cell1 had hps) ?_
     refine Ret.call (Rf.Letter_ret _ _) ?_
     rintro _ _ ⟨rfl,rfl⟩
     refine ⟨Chg.refl _,?_⟩
     refine New.mk fun b40 V3 hb40 hn40 _ hc3'=>⟨hc3',?_⟩
     refine letter_string hn40 ⟨hc3',?_,?_⟩
     ·have:=i5.small _ (List.mem_of_getElem? hps)
      rw [letS_size]; omega
     have hdN:=hd.then hc3'
     have op3:=op1.chg hdN fun _ _ h=>h
     have om3:=om1.chg hdN fun _ _ h=>h
     have hpt:T'.seen < T'.paths.length:=by rw [i5.len]; omega
     refine op3.idx (t:=tS) T'.seen rfl hpt fun g' hg'=>?_
     cases hg'
     refine op3.store (s:=.str) rfl T'.seen hpt (x:=T'.paths.getD s ⟨#[]⟩ ++ letS (x:Int)) fun V4 op4 hc4' _=>?_
     refine ⟨⟨x + 1,⟨T'.seen + 1,T'.paths.set T'.seen (T'.paths.getD s ⟨#[]⟩ ++ letS (x:Int)),T'.keys ++ [((s:Int),(x:Int)),((T'.seen:Int),((x ^^^ 1:Nat):Int))]⟩,hxr,rfl,⟨?_,?_,op4,?_,hstep⟩,?_,hsc,by show s < T'.seen + 1; omega⟩,hmu⟩
     ·exact (j1.then hdN).trans hc4' (fun _ _ h=>h) fun i hi he=>by have he:i = g:=he; omega
     ·exact hc4'.heap (hdN.heap j2 fun h=>h) fun he=>by have he:b1 = g:=he; omega
     ·exact om3.chg hc4' fun a' ha' he=>by cases ha'; have he:m = g:=he; omega
     ·simpa using htr
    ·have hno:¬ (0 ≤ t ∧ ¬ t.toNat < T'.seen):=fun hh=>by rw [hb.2 hh] at hbf; cases hbf
     refine ⟨⟨x + 1,T',hxr,rfl,⟨i1,i2,i3,i4,i5⟩,?_,?_,hsT'⟩,hmu⟩
     ·by_cases h0:0 ≤ t
      ·rw [if_pos h0] at htr
       simp only [treeE] at htr
       rw [if_neg (by omega)] at htr
       exact htr
      ·rw [if_neg h0] at htr; exact htr
     ·by_cases h0:0 ≤ t
      ·rw [if_pos h0] at hsc
       simp only [scanE] at hsc
       split at hsc
       ·cases hsc
       rw [if_neg (by omega)] at hsc
       exact hsc
      ·rw [if_neg h0] at hsc; exact hsc
   ·intro J hJ
    refine Br.dec (fun hp=>?_) (fun hn=>hJ _ _ ⟨false,rfl,rfl,?_⟩)
    ·have hp:t ≥ 0:=hp
     obtain ⟨nt,rfl⟩:=Int.eq_ofNat_of_zero_le hp
     refine i4.rd.get (t:=.sc .bool) nt rfl (x:=decide (nt < T'.seen)) (metF_get (by omega)) ?_
     refine hJ _ _ ⟨_,rfl,rfl,?_⟩
     simp
    ·have hn:¬ t ≥ 0:=hn
     constructor
     ·intro h; cases h
     ·rintro ⟨h,_⟩; omega
  ·have hxe:x = row.length:=by omega
   rw [hxe,List.drop_eq_nil_of_le (Nat.le_refl _)] at htr hsc
   simp only [edgesFrom,treeE,scanE,Option.some.injEq] at htr hsc
   rw [← htr] at htree
   rw [← hsc] at hscan
   rw [wrap64 (by omega) (by omega)]
   refine ⟨⟨s + 1,T',hlt',rfl,⟨i1,i2,i3,i4,i5⟩,htree,hscan⟩,?_⟩
   show a.next.length - (s + 1) < a.next.length - s
   omega
 ·have hsn:s = a.next.length:=by omega
  rw [hsn,List.drop_eq_nil_of_le (Nat.le_refl _)] at htree
  simp only [treeR] at htree
  exact ⟨_,rfl,by rw [← htree]; exact i3,i1,fun k hk=>by obtain ⟨a',ha',rfl⟩:=hk; cases ha'; show w.heap.size ≤ g; omega⟩
theorem bytes_eq (a b:ByteArray):(a.toList == b.toList) = decide (a = b):=by
 by_cases h:a = b
 ·subst h; simp
 ·rw [decide_eq_false h]
  refine beq_eq_false_iff_ne.2 fun he=>h ?_
  rw [ByteArray.toList_eq,ByteArray.toList_eq] at he
  exact ByteArray.ext (Array.toList_inj.1 he)
theorem Basis_ret21 {w:World} {k:Int} {x:Int × Int × Sl × Sl × Unit} {a:Aut} (h:AutIn w x a) (hc:a.check k = 0) (hk:1 ≤ k ∧ k ≤ 8) :
  Ret Tryd.prog 30 #[.agg #[.int .i64 x.1,.int .i64 x.2.1,x.2.2.1.v,x.2.2.2.1.v]] (.sc .sl) w fun y w'=>OwnT w' 9 tS y (basF a.next).basis ∧ Chg Nil w w' ∧ ∀ k,y.own k → w.heap.size ≤ k:=by
 obtain ⟨x1,x2,sa,sn,_⟩:=x
 obtain ⟨hsym,_,hn1,hn2,hla,_,hrows⟩:=check_spec hc
 obtain ⟨hT,hW,hseen⟩:=tree_ok hk.2 hc
 have a1:=h.sym
 simp only at a1
 refine cayleyref21_Basis.calls x1 x2 sa sn ?_
 unfold cayleyref21_Basis.sh
 refine New.mk fun b1 w1 hb1 hh1 hs1 hc1=>?_
 obtain ⟨hra,_,_,sls,hrn,hsl,hrws,_⟩:=id h.rd
 have hrn:RdT w (.sc .sl) sn sls:=hrn
 have e1:sa.n = a.next.length:=by rw [hla]; exact hra.len
 have hml:maxLen = 9223372036854775807:=rfl
 refine LoadT.mk tA (x:=(x1,x2,sa,sn,())) (fun j v hv=>by rw [cellOf hh1]; simpa [Ty.cells] using hv) ?_
 refine Ret.call (Paths_ret (x:=(x1,x2,sa,sn,())) (h.nil hc1) hc hk) ?_
 rintro ps w2 ⟨hps,hc2,hpsO⟩
 refine New.mk fun b7 w3 hb7 hh7 hs7 hc7=>?_
 have h13:=hc7.heap (hc2.heap hh1 fun h=>h) fun h=>h
 have hps3:=hps.chg hc7 fun _ _ h=>h
 have hob:OwnT w3 9 tS ⟨some ⟨b7,0,none⟩,0,0⟩ []:=own_empty hh7 (by decide)
 have hc03:=(hc1.then hc2).then hc7
 have z1:=hc1.size
 have z2:=hc2.size
 generalize hTT:treeF a.next = T at *
 have rd2:∀ {W:World},Chg Nil w3 W → W.heap[b1]? = some (.cells #[.int .i64 x1,.int .i64 x2,sa.v,sn.v] 27 (0,0)) ∧ OwnT W 9 tS ps T.paths:=fun hW=>⟨hW.heap h13 fun h=>h,hps3.chg hW fun _ _ h=>h⟩
 let Inv:World → Sl → List ByteArray → Prop:=fun W so bl=>Chg Nil w3 W ∧ OwnT W 9 tS so bl ∧ (∀ k,so.own k → b7 ≤ k)
 -- the old blocks end at b7
 have hlt7:∀ {W:World},Chg (fun k=>b7 ≤ k) w3 W → W.heap[b1]? = some (.cells #[.int .i64 x1,.int .i64 x2,sa.v,sn.v] 27 (0,0)) ∧ OwnT W 9 tS ps T.paths ∧ Chg Nil w W:=fun hW=>by
  have l1:=lt_of_heap hh1
  have lp:∀ k,ps.own k → k < b7:=fun k hk=>by rw [hb7]; exact Rf.OwnT.ltk hps hk
  refine ⟨hW.heap h13 fun hk=>by have hk:b7 ≤ b1:=hk; omega,hps3.chg hW fun a' ha' hk=>?_,hc03.trans hW (fun _ _ h=>h) fun i hi hk=>?_⟩
  ·have:=lp a'.block ⟨a',ha',rfl⟩
   have hk:b7 ≤ a'.block:=hk
   omega
  ·have hk:b7 ≤ i:=hk; omega
 refine LoopT.mk (fun y W=>∃ (s:Nat) (so:Sl) (B:Bas),s ≤ a.next.length ∧ y = (at0 b1,ps,so,(s:Int),()) ∧ Chg (fun k=>b7 ≤ k) w3 W ∧ OwnT W 9 tS so B.basis ∧ (∀ k,so.own k → b7 ≤ k) ∧ B.basis.length ≤ 16 * s ∧ basR T s (a.next.drop s) B = basR T 0 a.next ⟨[],[]⟩) (fun y _=>a.next.length - y.2.2.2.1.toNat)
  ⟨0,_,⟨[],[]⟩,Nat.zero_le _,rfl,Chg.refl _,hob,fun k hk=>by obtain ⟨a',ha',rfl⟩:=hk; cases ha'; exact Nat.le_refl _,by simp,rfl⟩ ?_
 rintro y gE W ⟨s,so,B,hs,rfl,hcW,hoW,hownW,hbl,hbas⟩
 dsimp only
 obtain ⟨i2,i3,i1⟩:=hlt7 hcW
 refine LoadT.sc (s:=.sl) (x:=sa) (by rw [cellOf i2]; rfl) ?_
 rw [e1]
 refine Br.dec (fun hlt=>?_) (fun hge=>?_)
 ·have hlt':s < a.next.length:=by omega
  have hdrop:a.next.drop s = a.next[s] :: a.next.drop (s + 1):=List.drop_eq_getElem_cons hlt'
  have hrow':a.next[s]? = some a.next[s]:=List.getElem?_eq_getElem hlt'
  obtain ⟨hrlen,hrval⟩:=hrows _ (List.getElem_mem hlt')
  have hgetS:a.next.getD s [] = a.next[s]:=getD_get hlt'
  generalize a.next[s] = row at *
  rw [hdrop] at hbas
  simp only [basR] at hbas
  obtain ⟨rsl,hrsl⟩:∃ rsl,sls[s]? = some rsl:=⟨_,List.getElem?_eq_getElem (by rw [hsl]; exact hlt')⟩
  have hrr:=hrws s rsl row hrsl hrow'
  have hr2:row.length = 2 * k.toNat:=by omega
  refine LoopT.mk (fun y W=>∃ (i:Nat) (so:Sl) (B':Bas),i ≤ k.toNat ∧ y = (at0 b1,ps,so,(s:Int),((2 * i:Nat):Int),()) ∧ Chg (fun k=>b7 ≤ k) w3 W ∧ OwnT W 9 tS so B'.basis ∧ (∀ k,so.own k → b7 ≤ k) ∧ B'.basis.length ≤ 16 * s + i ∧ basE T s (edgesFrom (2 * i) (row.drop (2 * i))) B' = basE T s (edgesFrom 0 row) B) (fun y _=>2 * k.toNat - y.2.2.2.2.1.toNat)
   ⟨0,so,B,Nat.zero_le _,rfl,hcW,hoW,hownW,by omega,rfl⟩ ?_
  clear hcW hoW hownW hbl i1 i2 i3 so
  rintro y gE2 W ⟨i,so,B',hi,rfl,hcW,hoW,hownW,hbl,hbe⟩
  dsimp only
  obtain ⟨i2,i3,i1⟩:=hlt7 hcW
  refine LoadT.sc (s:=.int .i64) (x:=x1) (by rw [cellOf i2]; rfl) ?_
  rw [a1,hsym]
  refine Br.dec (fun hlt2=>?_) (fun hge2=>?_)
  ·have hik:i < k.toNat:=by have hlt2:((2 * i:Nat):Int) < 2 * k:=hlt2; omega
   have h2i:2 * i < row.length:=by omega
   have hxe:row[2 * i]? = some row[2 * i]:=List.getElem?_eq_getElem h2i
   have hdr1:row.drop (2 * i) = row[2 * i] :: row.drop (2 * i + 1):=List.drop_eq_getElem_cons h2i
   have hdr2:row.drop (2 * i + 1) = row[2 * i + 1]'(by omega) :: row.drop (2 * i + 1 + 1):=List.drop_eq_getElem_cons (by omega)
   have htv:=hrval row[2 * i] (List.getElem_mem h2i)
   have hfor:getN a.next s (2 * i) = row[2 * i]:=by unfold getN; rw [hgetS,getD_get h2i]
   rw [hdr1,hdr2] at hbe
   generalize row[2 * i] = t at *
   generalize row[2 * i + 1]'(by omega) = t2 at hbe hdr2
   simp only [edgesFrom] at hbe
   have hodd:∀ (Z:List (Int × Int × Unit)) (B0:Bas),basE T s (if 0 ≤ t2 then (((2 * i + 1:Nat):Int),t2,()) :: Z else Z) B0 = basE T s Z B0:=fun Z B0=>by
    split
    ·simp only [basE]
     rw [if_neg (by rintro ⟨h,_⟩; omega)]
    ·rfl
   have hwx:IntKind.wrap .i64 (((2 * i:Nat):Int) + 2) = ((2 * (i + 1):Nat):Int):=by rw [wrap64 (by omega) (by omega)]; omega
   have hmu:2 * k.toNat - (((2 * (i + 1):Nat):Int)).toNat < 2 * k.toNat - (((2 * i:Nat):Int)).toNat:=by omega
   rw [hwx]
   refine LoadT.sc (s:=.sl) (x:=sn) (by rw [cellOf i2]; rfl) ?_
   refine (hrn.chg i1 fun _ _ h=>h).get (t:=.sc .sl) s rfl hrsl ?_
   refine (hrr.chg i1 fun _ _ h=>h).get (t:=tI) (2 * i) rfl hxe ?_
   refine Br.dec (fun hp=>?_) (fun hn=>?_)
   ·have hp:t ≥ 0:=hp
    obtain ⟨nt,rfl⟩:=Int.eq_ofNat_of_zero_le hp
    rw [if_pos hp] at hbe
    simp only [basE] at hbe
    have hntl:nt < a.next.length:=by omega
    have hps':T.paths[s]? = some (T.paths.getD s ⟨#[]⟩):=by rw [getD_get (by rw [hT.len]; exact hlt')]; exact List.getElem?_eq_getElem _
    have hpt':T.paths[nt]? = some (T.paths.getD nt ⟨#[]⟩):=by rw [getD_get (by rw [hT.len]; exact hntl)]; exact List.getElem?_eq_getElem _
    have zs:=hT.small _ (List.mem_of_getElem? hps')
    have zt:=hT.small _ (List.mem_of_getElem? hpt')
    have hTs:=hT.seen
    have hred:=red_edge hk.2 hc hlt' (x:=2 * i) (by omega) hfor
    rw [hTT] at hred
    refine Ret.call (Rf.Letter_ret _ _) ?_
    rintro _ W1 ⟨rfl,hw1⟩
    rw [hw1]; clear hw1
    refine New.mk fun b27 W2 hb27 hn27 _ hc27=>?_
    refine letter_string hn27 ?_
    have hd:Chg Nil W2 W2.drew:=Chg.drew W2
    have hN:=hc27.then hd
    have i3d:=i3.chg hN fun _ _ h=>h
    refine ⟨fun U=>Chg Nil W2.drew U,Chg.refl _,?_⟩
    refine rd_idxA (t:=tS) i3d.rd s rfl hps' fun ad had=>?_
    refine LoadS.sc (s:=.str) (x:=T.paths.getD s ⟨#[]⟩) (fun U hU=>(i3d.rd.chg hU fun _ _ h=>h).cell1 had hps') ⟨by rw [letS_size]; omega,?_⟩
    refine rd_idxA (t:=tS) i3d.rd nt rfl hpt' fun ad2 had2=>?_
    refine LoadS.sc (s:=.str) (x:=T.paths.getD nt ⟨#[]⟩) (fun U hU=>(i3d.rd.chg hU fun _ _ h=>h).cell1 had2 hpt') ?_
    refine Ret.call (Rf.Inverse_ret _ _) ?_
    rintro _ W3 ⟨rfl,hc3⟩
    have zi:=invF_size (T.paths.getD nt ⟨#[]⟩)
    refine ⟨hc3,by rw [ByteArray.size_append,letS_size]; omega,?_⟩
    refine Ret.call (Rf.Reduce_ret _ _) ?_
    rintro _ W4 ⟨rfl,hc4⟩
    refine ⟨hc3.then hc4,?_⟩
    have hN4:=(hN.then hc3).then hc4
    have hcW4:Chg (fun k=>b7 ≤ k) w3 W4:=hcW.then hN4.nil
    have hoW4:=hoW.chg hN4 fun _ _ h=>h
    rw [bytes_eq]
    refine Br.mk (fun hne=>?_) (fun heq=>?_)
    ·have hnk:¬ ((s:Int),((2 * i:Nat):Int)) ∈ T.keys:=fun hm=>by
      have:=hred.2 hm
      rw [this] at hne; simp at hne
     rw [if_pos ⟨by omega,hnk⟩] at hbe
     refine New.mk fun b42 W5 hb42 hn42 _ hc42=>?_
     have hoW5:=hoW4.chg hc42 fun _ _ h=>h
     refine OwnT.append (t:=tS) (m:=1) ok22 rfl (by decide) hoW5 [_] rfl (by decide) (fun j v hv=>by rw [cellOf hn42]; simpa [Ty.cells] using hv) ?_ ?_ fun so' W6 ho6 hcA hownA=>?_
     ·omega
     ·omega
     have z5:=(hcW4.then hc42.nil).size
     have z3:b7 < w3.heap.size:=lt_of_heap hh7
     refine ⟨⟨i + 1,so',⟨B'.number ++ [((s:Int),((2 * i:Nat):Int))],_⟩,hik,rfl,(hcW4.then hc42.nil).then (hcA.mono fun j _ hj=>hownW j hj),ho6,fun k hk=>?_,by simp; omega,?_⟩,hmu⟩
     ·rcases hownA k hk with h1 | h1
      ·exact hownW k h1
      ·omega
     ·rw [hodd] at hbe; exact hbe
    ·have hk':((s:Int),((2 * i:Nat):Int)) ∈ T.keys:=hred.1 (by simpa using heq)
     rw [if_neg (by rintro ⟨_,h⟩; exact h hk')] at hbe
     refine ⟨⟨i + 1,so,B',hik,rfl,hcW4,hoW4,hownW,by omega,?_⟩,hmu⟩
     rw [hodd] at hbe; exact hbe
   ·have hn:¬ t ≥ 0:=hn
    rw [if_neg (by omega)] at hbe
    refine ⟨⟨i + 1,so,B',hik,rfl,hcW,hoW,hownW,by omega,?_⟩,hmu⟩
    rw [hodd] at hbe; exact hbe
  ·have hik:i = k.toNat:=by have hge2:¬ ((2 * i:Nat):Int) < 2 * k:=hge2; omega
   rw [List.drop_eq_nil_of_le (by omega)] at hbe
   simp only [edgesFrom,basE] at hbe
   rw [← hbe] at hbas
   rw [wrap64 (by omega) (by omega)]
   refine ⟨⟨s + 1,so,B',hlt',rfl,hcW,hoW,hownW,by omega,hbas⟩,?_⟩
   show a.next.length - (s + 1) < a.next.length - s
   omega
 ·have hsn:s = a.next.length:=by omega
  rw [hsn,List.drop_eq_nil_of_le (Nat.le_refl _)] at hbas
  simp only [basR] at hbas
  have:B = basF a.next:=by rw [hbas]; unfold basF; rw [hTT]
  exact ⟨so,rfl,by rw [← this]; exact hoW,i1,fun k hk=>by have:=hownW k hk; omega⟩
end Go.Proofs.YtffdjfkekdoeaaaDoor.Rf
end
section
set_option maxRecDepth 8000
set_option maxHeartbeats 8000000
namespace Go.Proofs.YtffdjfkekdoeaaaDoor.Fo
open Fw Wd Rf Pl
structure Prd (k:Int) (a b:Aut) (q:List (Nat × Nat)):Prop where
 nodup:q.Nodup
 first:q[0]? = some (0,0)
 lt:∀ p ∈ q,p.1 < a.next.length ∧ p.2 < b.next.length
 closed:∀ (u s t y s' t':Nat),q[u]? = some (s,t) → Dl k a s y s' → Dl k b t y t' → ∃ v:Nat,q[v]? = some (s',t')
def prodD (k:Int) (a b:Aut) (q:List (Nat × Nat)) (u y v:Nat):Prop:=∃ s t s' t',q[u]? = some (s,t) ∧ q[v]? = some (s',t') ∧ Dl k a s y s' ∧ Dl k b t y t'
inductive IntIs (k:Int) (a b:Aut):FoldR → Prop
 | err:examF k [a,b] [] ≠ 0 → IntIs k a b (.err (examF k [a,b] []))
 | ok {q:List (Nat × Nat)} {o:Option (List Row)}:examF k [a,b] [] = 0 → Prd k a b q → FoldedD k.toNat (prodD k a b q) 0 o → IntIs k a b (resOf (2 * k.toNat) o)
structure PI (k:Int) (a b:Aut) (q:List (Nat × Nat)) (E:List Edg) (i:Nat):Prop where
 nodup:q.Nodup
 first:q[0]? = some (0,0)
 lt:∀ p ∈ q,p.1 < a.next.length ∧ p.2 < b.next.length
 snd:∀ u y v,(u,y,v) ∈ E → prodD k a b q u y v
 cmp:∀ (u s t y s' t':Nat),u < i → q[u]? = some (s,t) → Dl k a s y s' → Dl k b t y t' → ∃ v:Nat,q[v]? = some (s',t') ∧ (u,y,v) ∈ E
theorem get_app {α:Type} {q:List α} {i:Nat} {x y:α} (h:q[i]? = some x):(q ++ [y])[i]? = some x:=by
 rw [List.getElem?_append_left (List.getElem?_eq_some_iff.1 h).1]; exact h
theorem pairs_len {q:List (Nat × Nat)} (hn:q.Nodup) (hl:∀ p ∈ q,p.1 < 20 ∧ p.2 < 20):q.length ≤ 400:=by
 have:=nodup_len 400 (q.map fun p=>p.1 * 20 + p.2) ?_ ?_
 ·simpa using this
 ·rw [List.Nodup,List.pairwise_map]
  refine List.Pairwise.imp_of_mem (fun {x y} hx hy hne he=>hne ?_) hn
  have h1:=hl x hx
  have h2:=hl y hy
  apply Prod.ext <;> omega
 ·intro v hv
  obtain ⟨p,hp,rfl⟩:=List.mem_map.1 hv
  have:=hl p hp
  omega
def qk (q:List (Nat × Nat)):List (Int × Int):=q.map fun p=>((p.1:Int),(p.2:Int))
theorem qk_mem {q:List (Nat × Nat)} {s t:Nat}:((s:Int),(t:Int)) ∈ qk q ↔ (s,t) ∈ q:=by
 unfold qk
 rw [List.mem_map]
 constructor
 ·rintro ⟨⟨u,v⟩,h1,h2⟩
  simp only [Prod.mk.injEq] at h2
  have e1:u = s:=by omega
  have e2:v = t:=by omega
  subst e1 e2; exact h1
 ·intro h; exact ⟨_,h,rfl⟩
theorem qk_nodup {q:List (Nat × Nat)} (h:q.Nodup):(qk q).Nodup:=by
 unfold qk
 rw [List.Nodup,List.pairwise_map]
 refine List.Pairwise.imp (fun {x y} hne he=>hne ?_) h
 simp only [Prod.mk.injEq] at he
 apply Prod.ext <;> omega
theorem qk_idx {q:List (Nat × Nat)} {s t:Nat} (h:(s,t) ∈ q):q[(qk q).idxOf ((s:Int),(t:Int))]? = some (s,t):=by
 have hm:=(qk_mem (q:=q)).2 h
 have hlt:=List.idxOf_lt_length_iff.2 hm
 have hg:(qk q)[(qk q).idxOf ((s:Int),(t:Int))]? = some ((s:Int),(t:Int)):=by rw [List.getElem?_eq_getElem hlt,List.getElem_idxOf hlt]
 generalize (qk q).idxOf ((s:Int),(t:Int)) = i at *
 unfold qk at hg
 rw [List.getElem?_map] at hg
 cases hq:q[i]? with
 | none=>rw [hq] at hg; cases hg
 | some p=>
  rw [hq] at hg
  simp only [Option.map_some,Option.some.injEq,Prod.mk.injEq] at hg
  congr 1
  apply Prod.ext
  ·show p.1 = s
   omega
  ·show p.2 = t
   omega
structure Ix (w0 W:World) (rs:List Nat) (fb:Nat) (st:St) (M:Mem) (mb qb:Nat) (sq:Sl) (qm q:List (Nat × Nat)) (cs:List (Nat × Array Value × TypeId)):Prop where
 chg:Chg Nil w0 W
 mks:Marks W rs
 mB:∀ r ∈ rs,w0.heap.size ≤ r
 cells:∀ p ∈ cs,W.heap[p.1]? = some (.cells p.2.1 p.2.2 (0,0))
 cq:W.heap[qb]? = some (.cells #[sq.v] 106 (0,0))
 map:MapP W mb (numL (qk qm))
 lo:w0.heap.size ≤ qb ∧ w0.heap.size ≤ mb ∧ ∀ k,sq.own k → w0.heap.size ≤ k
 rep:Fo.Rep W fb st M
 foot:∀ k,M.foot fb k → w0.heap.size ≤ k
 own:OwnT W 96 tP sq (q.map ofP)
 ap:∀ k,M.foot fb k → k ≠ qb ∧ ¬ sq.own k ∧ ∀ p ∈ cs,p.1 ≠ k
 sep:∀ k,sq.own k → k ≠ qb ∧ ∀ p ∈ cs,p.1 ≠ k
 qn:∀ p ∈ cs,p.1 ≠ qb
section
variable {w0 W W':World} {rs:List Nat} {fb mb qb:Nat} {st st2:St} {M:Mem} {sq:Sl} {qm q:List (Nat × Nat)} {cs:List (Nat × Array Value × TypeId)}
theorem Ix.nil (h:Ix w0 W rs fb st M mb qb sq qm q cs) (hc:Chg Nil W W'):Ix w0 W' rs fb st M mb qb sq qm q cs:=
 { h with chg:=h.chg.then hc,mks:=h.mks.chg hc (fun _ _ h=>h),cells:=fun p hp=>hc.heap (h.cells p hp) fun h=>h,cq:=hc.heap h.cq fun h=>h,map:=h.map.chg hc fun h=>h,rep:=h.rep.nil hc,own:=h.own.chg hc fun _ _ h=>h }
theorem Ix.turn {B:Nat} (h:Ix w0 W rs fb st M mb qb sq qm q cs) (t:Turn B W W') (hB:w0.heap.size ≤ B):Ix w0 W' rs fb st M mb qb sq qm q cs:=
 { h with chg:=h.chg.turn t hB,mks:=h.mks.turn t,cells:=fun p hp=>t.cells (h.cells p hp),cq:=t.cells h.cq,map:=h.map.turn t,rep:=Rep.turn h.rep t,own:=Fo.OwnT.turn h.own t }
theorem Ix.mapNe (h:Ix w0 W rs fb st M mb qb sq qm q cs) {k:Nat} {c:Array Value} {e:TypeId} {f:Nat × Nat} (hk:W.heap[k]? = some (.cells c e f)):k ≠ mb:=fun he=>by
 obtain ⟨es,cl,hm,_⟩:=h.map
 rw [he,hm] at hk; cases hk
theorem Ix.step (h:Ix w0 W rs fb st M mb qb sq qm q cs) (k:Fo.Step fb M W W' st2):∃ M2,Ix w0 W' rs fb st2 M2 mb qb sq qm q cs:=by
 obtain ⟨⟨M2,hr2,hf2⟩,hc2⟩:=k
 have hle:=h.chg.size
 have hlt:=h.own.lt
 refine ⟨M2,{ chg:=h.chg.trans hc2 (fun _ _ h=>h) (fun i hi hk=>by have:=h.foot i hk; omega),mks:=h.mks.chg hc2 (fun r hr hk=>?_),mB:=h.mB
              cells:=fun p hp=>hc2.heap (h.cells p hp) fun hk=>(h.ap _ hk).2.2 p hp rfl,cq:=hc2.heap h.cq (fun hk=>(h.ap _ hk).1 rfl)
              map:=h.map.chg hc2 fun hk=>?_,lo:=h.lo,rep:=hr2,foot:=fun k hk=>?_,own:=h.own.chg hc2 (fun a ha hk=>(h.ap _ hk).2.1 ⟨a,ha,rfl⟩),ap:=fun k hk=>?_,sep:=h.sep,qn:=h.qn }⟩
 ·obtain ⟨c,e,hc,_⟩:=Rep.foot_cells h.rep hk
  have:=h.mks.2 r hr
  rw [hc] at this; cases this
 ·obtain ⟨c,e,hc,_⟩:=Rep.foot_cells h.rep hk
  exact h.mapNe hc rfl
 ·rcases hf2 k hk with h1 | h1
  ·exact h.foot k h1
  ·omega
 ·rcases hf2 k hk with h1 | h1
  ·exact h.ap k h1
  ·have lq:=lt_of_heap h.cq
   refine ⟨by omega,fun ⟨a,ha,he⟩=>?_,fun p hp=>?_⟩
   ·have:=hlt a ha
    omega
   ·have:=lt_of_heap (h.cells p hp); omega
theorem Ix.mark (h:Ix w0 W rs fb st M mb qb sq qm q cs) {d:Nat} (hd:W.heap[d]? = some (.deferred (some []))) (hB:w0.heap.size ≤ d) (hn:d ∉ rs):Ix w0 W (d :: rs) fb st M mb qb sq qm q cs:=
 { h with mks:=h.mks.cons hd hn,mB:=fun r hr=>by rcases List.mem_cons.1 hr with rfl | hr; exact hB; exact h.mB r hr }
theorem Ix.sub (h:Ix w0 W rs fb st M mb qb sq qm q cs) {cs':List (Nat × Array Value × TypeId)} (hs:∀ p ∈ cs',p ∈ cs):Ix w0 W rs fb st M mb qb sq qm q cs':=
 { h with cells:=fun p hp=>h.cells p (hs p hp),ap:=fun k hk=>⟨(h.ap k hk).1,(h.ap k hk).2.1,fun p hp=>(h.ap k hk).2.2 p (hs p hp)⟩,sep:=fun k hk=>⟨(h.sep k hk).1,fun p hp=>(h.sep k hk).2 p (hs p hp)⟩,qn:=fun p hp=>h.qn p (hs p hp) }
theorem Ix.add {V:World} (h:Ix w0 W rs fb st M mb qb sq qm q cs) (hV:Ix w0 V rs fb st M mb qb sq qm q cs) {b:Nat} {c:Array Value} {e:TypeId} (hb:W.heap[b]? = some (.cells c e (0,0))) (hn:V.heap.size ≤ b):Ix w0 W rs fb st M mb qb sq qm q ((b,c,e) :: cs):=by
 have hlt:=hV.own.lt
 have lq:=lt_of_heap hV.cq
 refine { h with cells:=fun p hp=>?_,ap:=fun k hk=>⟨(h.ap k hk).1,(h.ap k hk).2.1,fun p hp=>?_⟩,sep:=fun k hk=>⟨(h.sep k hk).1,fun p hp=>?_⟩,qn:=fun p hp=>?_ }
 ·rcases List.mem_cons.1 hp with rfl | hp
  ·exact hb
  ·exact h.cells p hp
 ·rcases List.mem_cons.1 hp with rfl | hp
  ·have:=Fo.Rep.lt hV.rep k hk
   show b ≠ k
   omega
  ·exact (h.ap k hk).2.2 p hp
 ·rcases List.mem_cons.1 hp with rfl | hp
  ·obtain ⟨a,ha,he⟩:=hk
   have:=hlt a ha
   show b ≠ k
   omega
  ·exact (h.sep k hk).2 p hp
 ·rcases List.mem_cons.1 hp with rfl | hp
  ·show b ≠ qb
   omega
  ·exact h.qn p hp
theorem Ix.mapTo (h:Ix w0 W rs fb st M mb qb sq qm q cs) {qm':List (Nat × Nat)} (hc:Chg (· = mb) W W') (hm:MapP W' mb (numL (qk qm'))):Ix w0 W' rs fb st M mb qb sq qm' q cs:=by
 have ne:∀ {k:Nat} {c:Array Value} {e:TypeId} {f:Nat × Nat},W.heap[k]? = some (.cells c e f) → ¬ (k = mb):=fun hk=>h.mapNe hk
 exact { chg:=h.chg.trans hc (fun _ _ h=>h) (fun i hi hk=>by have hk:i = mb:=hk; have:=h.lo.2.1; omega),mks:=h.mks.chg hc (fun r hr hk=>by
          have hk:r = mb:=hk
          obtain ⟨es,cl,hmm,_⟩:=h.map
          have:=h.mks.2 r hr
          rw [hk,hmm] at this; cases this),mB:=h.mB
         cells:=fun p hp=>hc.heap (h.cells p hp) (ne (h.cells p hp)),cq:=hc.heap h.cq (ne h.cq),map:=hm,lo:=h.lo
         rep:=h.rep.chg hc fun k hk he=>by obtain ⟨c,e,hcc,_⟩:=Rep.foot_cells h.rep hk; exact ne hcc he
         foot:=h.foot,own:=h.own.chg hc fun a ha he=>by obtain ⟨c,hcc⟩:=h.own.elem ⟨a,ha,rfl⟩; exact ne hcc he
         ap:=h.ap,sep:=h.sep,qn:=h.qn }
theorem Ix.push {W3 W4:World} {sq':Sl} {q':List (Nat × Nat)} (h:Ix w0 W rs fb st M mb qb sq qm q cs) (ho:OwnT W3 96 tP sq' (q'.map ofP)) (hc3:Chg sq.own W W3) (hown:∀ i,sq'.own i → sq.own i ∨ W.heap.size ≤ i) (hc4:Chg (· = qb) W3 W4) (hq:W4.heap[qb]? = some (.cells #[sq'.v] 106 (0,0))) :
  Ix w0 W4 rs fb st M mb qb sq' qm q' cs:=by
 have hle:=h.chg.size
 have lq:=lt_of_heap h.cq
 have hn:∀ k,sq'.own k → k ≠ qb:=fun k hk=>by
  rcases hown k hk with h1 | h1
  ·exact (h.sep k h1).1
  ·omega
 have mo:¬ sq.own mb:=fun hk=>by obtain ⟨c,hcc⟩:=h.own.elem hk; exact h.mapNe hcc rfl
 have mq:mb ≠ qb:=fun he=>h.mapNe h.cq he.symm
 exact { chg:=(h.chg.trans hc3 (fun _ _ h=>h) (fun i hi hk=>by have:=h.lo.2.2 i hk; omega)).trans hc4 (fun _ _ h=>h) (fun i hi he=>by have he:i = qb:=he; have:=h.lo.1; omega)
         mks:=(h.mks.chg hc3 (fun r hr hk=>by
          obtain ⟨c,hcc⟩:=h.own.elem hk
          have:=h.mks.2 r hr
          rw [hcc] at this; cases this)).chg hc4 (fun r hr he=>by
          have he:r = qb:=he
          have:=h.mks.2 r hr
          rw [he,h.cq] at this; cases this),mB:=h.mB
         cells:=fun p hp=>hc4.heap (hc3.heap (h.cells p hp) fun hk=>(h.sep _ hk).2 p hp rfl) fun he=>h.qn p hp he
         cq:=hq,map:=(h.map.chg hc3 mo).chg hc4 mq
         lo:=⟨h.lo.1,h.lo.2.1,fun k hk=>by
          rcases hown k hk with h1 | h1
          ·exact h.lo.2.2 k h1
          ·omega⟩
         rep:=(h.rep.chg hc3 fun k hk ho=>(h.ap k hk).2.1 ho).chg hc4 fun k hk he=>(h.ap k hk).1 he
         foot:=h.foot,own:=ho.chg hc4 fun a ha he=>hn _ ⟨a,ha,rfl⟩ he
         ap:=fun k hk=>⟨(h.ap k hk).1,fun ho'=>by
          rcases hown k ho' with h1 | h1
          ·exact (h.ap k hk).2.1 h1
          ·have:=Fo.Rep.lt h.rep k hk; omega,(h.ap k hk).2.2⟩
         sep:=fun k hk=>⟨hn k hk,fun p hp=>by
          rcases hown k hk with h1 | h1
          ·exact (h.sep k h1).2 p hp
          ·have:=lt_of_heap (h.cells p hp); omega⟩
         qn:=h.qn }
end
end Go.Proofs.YtffdjfkekdoeaaaDoor.Fo
end
