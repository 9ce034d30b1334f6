/- Parts of a proof, laid one behind the other by our own merge.py: PlGood PlMove PlLead PlGen PlGen2 PlGen3 PlFit PlLg PlEdges Sh5 FmGraft LwMade RfJoin LwCopied ShK LwCored LwMapI ShA PlIndex LwAlike LwCoreTot PlCore PlConj RfPaths LwConj PlHn1 LwMeet LwCoreOf PlCoreR LwIso LwIso2 LwNumIso LwConjE ShC LwNielsen LwMembers. -/
import Derived.Test.YtffdjfkekdoeaaaDoorZc4
import Derived.Test.YtffdjfkekdoeaaaDoorZc3
import Derived.Test.YtffdjfkekdoeaaaDoorZc1
import Derived.Test.YtffdjfkekdoeaaaDoorProg
import Derived.KernelRfl
import Derived.Test.YtffdjfkekdoeaaaDoorZc2
import Derived.Laws.OwnMore
import Derived.Laws.StructEq
set_option linter.unusedVariables false
set_option linter.unusedSimpArgs false
set_option maxRecDepth 10000
set_option maxHeartbeats 8000000
section
namespace Go.Proofs.YtffdjfkekdoeaaaDoor.Pl
open Fo Rf Wd
theorem edges_mem:∀ (row:List Int)(y:Nat)(e:Int × Int × Unit),e∈edgesFrom y row→∃ i,row[i]? = some e.2.1∧e.1=((y+i:Nat):Int)∧0≤e.2.1
 | [],y,e,h=>by simp[edgesFrom]at h
 | t :: l,y,e,h=>by
  simp only[edgesFrom]at h;split at h
  ·rename_i ht
   rcases List.mem_cons.1 h with rfl|h
   ·exact⟨0,rfl,rfl,ht⟩
   ·obtain⟨i,h1,h2,h3⟩:=edges_mem l (y+1) e h;exact⟨i+1,h1,by rw[h2];congr 1;omega,h3⟩
  ·obtain⟨i,h1,h2,h3⟩:=edges_mem l (y+1) e h;exact⟨i+1,h1,by rw[h2];congr 1;omega,h3⟩
structure Auto (m r:Nat) (rows':List (Option Row))(q:List Nat)(R:List Row):Prop where
 num:NumOf (rowOf rows') [r] q R
 live:∀ v∈q,Live rows' v
 inn:∀ v∈q,v=r∨∃ u x,To rows' u x v
 first:q[0]? = some r
 len:∀ row∈R,row.length=m
 to:∀ (j v x:Nat),q[j]? = some v→∀ i,(∃ row,R[j]? = some row∧row[x]? = some (some i))↔∃ t,To rows' v x t∧q[i]? = some t
theorem auto_of {m r K:Nat}{rows rows':List (Option Row)}{o:Option (List Row)}{R:List Row}(hm:MadeOf m r rows rows' o)(hr:Live rows r)(h:numG (rowOf rows') K 0 [r] []=some R):∃ q,Auto m r rows' q R:=by
 obtain⟨q,hq⟩:=numG_spec K 0 [r] [] R (by simp) rfl (by simp) (fun j v hj=>by omega) h
 have hall:=hq.all (fun v=>Live rows' v∧(v=r∨∃ u x,To rows' u x v)) (fun v hv=>by simp only[List.mem_singleton]at hv;subst hv;exact⟨(hm.cut.live v).2 hr,.inl rfl⟩) (fun v hv t ht=>by
  obtain⟨e1,e2,e3⟩:=row_live hm.wf hv.1;obtain⟨x,hx⟩:=List.getElem?_of_mem ht;exact⟨e3 t ht,.inr ⟨v,x,_,e1,hx⟩⟩)
 refine⟨q,hq,fun v hv=>(hall v hv).1,fun v hv=>(hall v hv).2,?_,fun row hrow=>?_,fun j v x hj i=>?_⟩
 ·obtain⟨tl,htl⟩:=hq.pre;rw[← htl];rfl
 ·obtain⟨j,hj⟩:=List.getElem?_of_mem hrow;have hlt:j<q.length:=by rw[← hq.len];exact(List.getElem?_eq_some_iff.1 hj).1
  have hg:q[j]? = some q[j]:=List.getElem?_eq_getElem hlt;obtain⟨k1,_⟩:=hq.row j _ hg;rw[hj]at k1;cases k1;rw[List.length_map];exact(row_live hm.wf (hall _ (List.getElem_mem hlt)).1).2.1
 ·obtain⟨k1,k2⟩:=hq.row j v hj;obtain⟨e1,e2,e3⟩:=row_live hm.wf (hall v (List.mem_of_getElem? hj)).1;constructor
  ·rintro⟨row,h1,h2⟩
   rw[k1]at h1;cases h1;rw[List.getElem?_map]at h2;cases hx:(rowOf rows' v)[x]? with
   | none=>rw[hx]at h2;cases h2
   | some o=>
    rw[hx]at h2;cases o with
    | none=>cases h2
    | some t=>
     simp only[Option.map_some,Option.some.injEq]at h2;have ht:=k2 t (List.mem_of_getElem? hx);have hlt:=List.idxOf_lt_length_iff.2 ht;refine⟨t,⟨_,e1,hx⟩,?_⟩;rw[← h2,List.getElem?_eq_getElem hlt,List.getElem_idxOf hlt]
  ·rintro⟨t,⟨row,h1,h2⟩,h3⟩
   rw[e1]at h1;cases h1;refine⟨_,k1,?_⟩;rw[List.getElem?_map,h2];simp only[Option.map_some,Option.some.injEq];have hlt:=(List.getElem?_eq_some_iff.1 h3);obtain⟨hi,ht⟩:=hlt;rw[← ht];exact hq.nd.idxOf_getElem i hi
theorem accF_get {n s:Nat}(h:s<n):(accF n).getD s false=(s == 0):=by
 unfold accF;rw[List.getD_eq_getElem?_getD,List.getElem?_map,List.getElem?_range h];rfl
theorem next_get {R:List Row}{j x i:Nat}{row:Row}(h1:R[j]? = some row)(h2:row[x]? = some (some i)):getN (R.map (·.map ofO)) j x=(i:Int):=by
 have e:(R.map (·.map ofO)).getD j []=row.map ofO:=by rw[List.getD_eq_getElem?_getD,List.getElem?_map,h1];rfl
 unfold getN;rw[e,List.getD_eq_getElem?_getD,List.getElem?_map,h2];rfl
theorem Auto.next {m r:Nat} {rows':List (Option Row)}{q:List Nat}{R:List Row}(h:Auto m r rows' q R){v x t:Nat}{j:Nat}(hj:q[j]? = some v)(ht:To rows' v x t):∃ i:Nat,q[i]? = some t:=by
 obtain⟨row,h1,h2⟩:=ht;have:rowOf rows' v=row:=by unfold rowOf;rw[h1]
 have hm:=(h.num.row j v hj).2 t (by rw[this];exact List.mem_of_getElem? h2)
 exact List.getElem?_of_mem hm
theorem good {k r K:Nat}(hk:1≤k∧k≤8){rows rows':List (Option Row)}{o:Option (List Row)}{q:List Nat}{R:List Row}(hm:MadeOf (2*k) r rows rows' o)(hA:Auto (2*k) r rows' q R)(h2:R.length≤2000)(h:numG (rowOf rows') K 0 [r] []=some R) :
  (autE k R).check (k:Int)=0:=by
 have hql:=hA.num.len;have h1:1≤R.length:=by
  rw[hql];have:=(List.getElem?_eq_some_iff.1 hA.first).1;omega
 have tgt:∀ row∈R,∀ t,some t∈row→t<R.length:=fun row hrow t ht=>by
  obtain⟨j,hj⟩:=List.getElem?_of_mem hrow;obtain⟨x,hx⟩:=List.getElem?_of_mem ht;have hlt:j<q.length:=by rw[← hql];exact(List.getElem?_eq_some_iff.1 hj).1
  obtain⟨u,_,hu⟩:=(hA.to j _ x (List.getElem?_eq_getElem hlt) t).1 ⟨row,hj,hx⟩;rw[hql];exact(List.getElem?_eq_some_iff.1 hu).1
 have hrows:∀ rr∈(R.map (·.map ofO)),rr.length=2*k∧∀ t∈rr,-1≤t∧t<((R.map (·.map ofO)).length:Int):=fun rr hrr=>by
  obtain⟨row,hrow,rfl⟩:=List.mem_map.1 hrr;refine⟨by rw[List.length_map];exact hA.len row hrow,fun t ht=>?_⟩
  obtain⟨o,ho,rfl⟩:=List.mem_map.1 ht;rw[List.length_map];cases o with
  | none=>simp only[ofO];omega
  | some i=>have:=tgt row hrow i ho;simp only[ofO];omega
 have hloc:∀ (s:Nat) (rr:List Int),(R.map (·.map ofO))[s]? = some rr→rowLocal (R.map (·.map ofO)) s rr=true:=fun s rr hs=>by
  rw[List.getElem?_map]at hs;cases hR:R[s]? with
  | none=>rw[hR]at hs;cases hs
  | some row=>
   rw[hR]at hs;simp only[Option.map_some,Option.some.injEq]at hs;subst hs;unfold rowLocal;rw[List.all_eq_true];intro e he;obtain⟨i,e1,e2,e3⟩:=edges_mem _ 0 e he;rw[List.getElem?_map]at e1;cases hi:row[i]? with
   | none=>rw[hi]at e1;cases e1
   | some o=>
    rw[hi]at e1;cases o with
    | none=>simp only[Option.map_some,ofO,Option.some.injEq]at e1;omega
    | some t=>
     simp only[Option.map_some,ofO,Option.some.injEq]at e1;have hlt:s<q.length:=by rw[← hql];exact(List.getElem?_eq_some_iff.1 hR).1
     have hg:q[s]? = some q[s]:=List.getElem?_eq_getElem hlt;obtain⟨u,k1,k2⟩:=(hA.to s _ i hg t).1 ⟨row,hR,hi⟩;obtain⟨row',f1,f2⟩:=(hA.to t u (i ^^^ 1) k2 s).2 ⟨_,hm.wf.inv _ _ _ k1,hg⟩;rw[← e1,e2,Nat.zero_add,Int.toNat_natCast,Int.toNat_natCast,next_get f1 f2];simp
 have hdeg:∀ (s:Nat) (row:Row),R[s]? = some row→0<s→2≤degF row:=fun s row hR hs=>by
  have hlt:s<q.length:=by rw[← hql];exact(List.getElem?_eq_some_iff.1 hR).1
  have hg:q[s]? = some q[s]:=List.getElem?_eq_getElem hlt;have hne:q[s]≠r:=fun he=>by
   have h0:=(List.getElem?_eq_some_iff.1 hA.first);obtain⟨h00,h01⟩:=h0;have:=(List.getElem_inj (h₀:=hlt) (h₁:=h00) hA.num.nd).1 (by rw[he,h01])
   omega
  rcases hA.inn _ (List.getElem_mem hlt) with he|⟨u,x,hu⟩
  ·exact absurd he hne
  ·have hb:=hm.wf.inv _ _ _ hu;obtain⟨x',t',hx,hb'⟩:=hm.two _ _ _ hb hne;obtain⟨i,hi⟩:=hA.next hg hb;obtain⟨i',hi'⟩:=hA.next hg hb';obtain⟨r1,a1,a2⟩:=(hA.to s _ _ hg i).2 ⟨_,hb,hi⟩;obtain⟨r2,b1,b2⟩:=(hA.to s _ _ hg i').2 ⟨_,hb',hi'⟩;rw[hR]at a1 b1;cases a1;cases b1
   by_cases hd:degF row≤1
   ·exact absurd (deg_one row hd _ _ _ _ b2 a2) hx
   ·omega
 have hlen:(accF R.length).length=R.length:=by unfold accF;simp
 have hfsa:fsaF ((2*k:Nat):Int) 0 (accF R.length) (R.map (·.map ofO))=0:=by
  unfold fsaF;rw[if_neg (by rw[hlen,List.length_map];omega),if_neg]
  rw[Bool.not_eq_true,List.any_eq_false];intro rr hrr;obtain⟨g1,g2⟩:=hrows rr hrr;unfold badRow;rw[Bool.not_eq_true,Bool.or_eq_false_iff];refine⟨by simp[g1],?_⟩
  rw[List.any_eq_false];intro t ht;have:=g2 t ht;rw[List.length_map]at this;rw[hlen];simp;omega
 have hI:isM (k:Int) (autE k R)=true:=by
  have hacc0:(accF R.length).getD 0 false=true:=by rw[accF_get (by omega)];rfl
  unfold isM
  show(decide (fsaF ((2*k:Nat):Int) 0 (accF R.length) (R.map (·.map ofO))=0) && (decide (((2*k:Nat):Int)=2*(k:Int)) && (decide (1≤(accF R.length).length) && (decide ((accF R.length).length≤2000) && (decide ((0:Int)=0) && ((accF R.length).getD 0 false && (localAll (accF R.length) (R.map (·.map ofO)) 0 (R.map (·.map ofO)) && sameF (autE k R) (autE k (numR k (R.map (·.map ofO)))))))))) )=true
  have hla:localAll (accF R.length) (R.map (·.map ofO)) 0 (R.map (·.map ofO))=true:=by
   rw[localAll_iff];intro s rr hs;rw[Nat.zero_add];refine(localS_iff hacc0).2 ⟨accF_get (by have:=(List.getElem?_eq_some_iff.1 hs).1;simpa using this),fun h0=>?_,hloc s rr hs⟩
   rw[List.getElem?_map]at hs;cases hR:R[s]? with
   | none=>rw[hR]at hs;cases hs
   | some row=>
    rw[hR]at hs;simp only[Option.map_some,Option.some.injEq]at hs;subst hs;have e:(row.map ofO).map toO=row:=by
     rw[List.map_map]
     conv=>rhs;rw[← List.map_id row]
     exact List.map_congr_left fun o _=>toO_ofO o
    rw[e];exact hdeg s row hR h0
  have hnum:numR k (R.map (·.map ofO))=R:=by
   obtain⟨q',hq',hself⟩:=num_self h;have hlt:=graphL_lt (k:=k) (next:=R.map (·.map ofO)) (fun rr hrr t ht=>((hrows rr hrr).2 t ht).2) (by rw[List.length_map];omega)
   obtain⟨res,hres⟩:=numE_some (k:=k) hlt ((R.map (·.map ofO)).length+1) 0 [0] [] (by simp) (by simp;omega) (by simp) (by omega)
   have hmap:=num_map (φ:=fun v=>v) (P:=fun v=>v<R.length) (fun u v _ _ h=>h) (k:=k) (es:=graphL k 0 (R.map (·.map ofO))) (ρ:=fun i=>R.getD i []) (fun v hv=>?_) (fun v hv t ht=>?_) ((R.map (·.map ofO)).length+1) 0 [0] [] (by simp;omega)
   ·rw[show List.map (fun v:Nat=>v) [0]=[0] from rfl]at hmap
    rw[hmap]at hres;have a1:=numG_fuel _ (K+(R.map (·.map ofO)).length+1) _ _ _ _ (by omega) hres
    have a2:=numG_fuel _ (K+(R.map (·.map ofO)).length+1) _ _ _ _ (by omega) hself
    rw[a2]at a1;unfold numR;rw[hmap,hres];exact(Option.some.inj a1).symm
   ·have hRv:R[v]? = some R[v]:=List.getElem?_eq_getElem hv;have e1:R.getD v []=R[v]:=by rw[List.getD_eq_getElem?_getD,hRv];rfl
    show rowE k _ v=(R.getD v []).map (Option.map fun v=>v)
    rw[e1]
    apply List.ext_getElem?
    intro x;have hl:=hA.len _ (List.getElem_mem hv)
    by_cases hx:x<2*k
    ·rw[rowE_get hx,step_graph hk.2 hrows hloc (by rw[List.length_map];exact hv) hx]
     have hxl:x<R[v].length:=by omega
     rw[List.getElem?_map,List.getElem?_eq_getElem hxl];have e:(R.map (·.map ofO)).getD v []=R[v].map ofO:=by rw[List.getD_eq_getElem?_getD,List.getElem?_map,hRv];rfl
     unfold getN;rw[e,List.getD_eq_getElem?_getD,List.getElem?_map,List.getElem?_eq_getElem hxl];simp only[Option.map_some,Option.getD_some,toO_ofO];cases R[v][x] <;> rfl
    ·rw[List.getElem?_eq_none (by rw[rowE_len];omega),List.getElem?_eq_none (by rw[List.length_map];omega)]
   ·have hRv:R[v]? = some R[v]:=List.getElem?_eq_getElem hv;have e1:R.getD v []=R[v]:=by rw[List.getD_eq_getElem?_getD,hRv];rfl
    have ht:some t∈R.getD v []:=ht;rw[e1]at ht;exact tgt _ (List.getElem_mem hv) t ht
  rw[hfsa,hacc0,hla,hnum];have e2:decide (((2*k:Nat):Int)=2*(k:Int))=true:=by simp
  rw[e2,hlen,decide_eq_true h1,decide_eq_true h2];simp[sameF]
 have:=isM_check (k:=(k:Int)) (by omega) (autE k R)
 rw[hI]at this;exact of_decide_eq_true this.symm
def ix (b:UInt8):Nat:=(idxF (ofB b)).toNat
theorem ix_L {x:Nat}(h:x<16):ix (L x)=x:=by
 have:=L_idx ⟨x,h⟩;dsimp only at this;unfold ix;rw[this];rfl
theorem other_L {x:Nat}(h:x<16):otherB (L x)=L (x ^^^ 1):=L_other ⟨x,h⟩
theorem xor16 {x:Nat}(h:x<16):x ^^^ 1<16:=(xor_xor ⟨x,h⟩).2
def rawF (s:ByteArray):List Nat:=s.data.toList.map ix
theorem red_step {out:List UInt8}{c:UInt8}(ho:Good out)(hc:∃ x,x<16∧c=L x):(redStep out c).map ix=rdS (out.map ix) (ix c)∧Good (redStep out c):=by
 obtain⟨x,hx,rfl⟩:=hc;unfold redStep rdS;rw[List.getLast?_map];cases hl:out.getLast? with
 | none=>
  rw[if_neg (by simp),if_neg (by simp)]
  refine⟨by simp,ho.app fun b hb=>?_⟩
  simp only[List.mem_singleton]at hb;exact⟨x,hx,hb⟩
 | some d=>
  obtain⟨z,hz,rfl⟩:=ho d (List.mem_of_getLast? hl);have hiff:L z=otherB (L x)↔ix (L z)=ix (L x) ^^^ 1:=by
   rw[other_L hx,ix_L hz,ix_L hx];constructor
   ·intro h;have:=congrArg ix h
    rwa [ix_L hz,ix_L (xor16 hx)]at this
   ·intro h;rw[h]
  simp only[Option.map_some,Option.some.injEq]
  by_cases h:L z=otherB (L x)
  ·rw[if_pos h,if_pos (hiff.1 h)];exact⟨List.map_dropLast ..,fun b hb=>ho b ((List.dropLast_sublist out).mem hb)⟩
  ·rw[if_neg h,if_neg (fun k=>h (hiff.2 k))]
   refine⟨by simp,ho.app fun b hb=>?_⟩
   simp only[List.mem_singleton]at hb;exact⟨x,hx,hb⟩
theorem red_raw:∀ (l out:List UInt8),Good out→Good l→(l.foldl redStep out).map ix=act (out.map ix) (l.map ix)
 | [],out,_,_=>rfl
 | c :: l,out,ho,hl=>by
  obtain⟨h1,h2⟩:=red_step ho (hl c (by simp))
  have:=red_raw l (redStep out c) h2 fun b hb=>hl b (by simp[hb])
  rw[List.foldl_cons,this,h1];rfl
theorem good_word {k:Int}{s:ByteArray}(h:checkF k s=0):Good s.data.toList:=fun b hb=>by
 obtain⟨h1,h2,h3,h4⟩:=check_bad h;unfold hasBad at h4;rw[List.any_eq_false]at h4;have:=h4 b hb;rw[Bool.not_eq_true]at this;simp only[badF,Bool.or_eq_false_iff]at this;have t1:=of_decide_eq_false this.1;have t2:=of_decide_eq_false this.2.1;obtain⟨x,hx⟩:=L_of ⟨b.toNat,UInt8.toNat_lt b⟩ (by dsimp only;omega) (by dsimp only;omega)
 refine⟨x.val,x.isLt,?_⟩;dsimp only at hx;rw[← hx];simp
theorem word_raw {s:ByteArray}(h:Good s.data.toList):wordF s=rd (rawF s):=red_raw s.data.toList [] (fun b hb=>by simp at hb) h
theorem same_raw {s:ByteArray}(h:Good s.data.toList):Same (wordF s) (rawF s):=by rw[word_raw h];exact same_rd _
theorem raw_app (a b:ByteArray):rawF (a ++ b)=rawF a ++ rawF b:=by unfold rawF;rw[app_list,List.map_append]
theorem word_app {a b:ByteArray}(ha:Good a.data.toList)(hb:Good b.data.toList):Same (wordF (a ++ b)) (wordF a ++ wordF b):=by
 have h:Good (a ++ b).data.toList:=by rw[app_list];exact ha.app hb
 refine(same_raw h).trans ?_;rw[raw_app];exact((same_raw ha).app (same_raw hb)).symm
theorem raw_inv {s:ByteArray}(h:Good s.data.toList)(h8:checkF 8 s=0):rawF (InverseF s)=inv (rawF s):=by
 unfold InverseF;rw[if_pos h8];unfold rawF inv invF
 show((s.data.toList.map otherB).reverse.toArray).toList.map ix=_
 rw[List.toList_toArray,List.map_reverse,List.map_map,List.map_map]
 congr 1
 refine List.map_congr_left fun b hb=>?_
 obtain⟨x,hx,rfl⟩:=h b hb
 show ix (otherB (L x))=ix (L x) ^^^ 1
 rw[other_L hx,ix_L hx,ix_L (xor16 hx)]
theorem word_inv {s:ByteArray}(h:Good s.data.toList)(h8:checkF 8 s=0):Good (InverseF s).data.toList∧Same (wordF (InverseF s)) (inv (wordF s)):=by
 have hg:Good (InverseF s).data.toList:=by
  unfold InverseF;rw[if_pos h8];exact h.inv
 refine⟨hg,(same_raw hg).trans ?_⟩;rw[raw_inv h h8];exact(same_raw h).symm.inv
section
variable {m r:Nat} {rows':List (Option Row)} {q:List Nat} {R:List Row}
theorem Auto.getN (h:Auto m r rows' q R){j v x:Nat}(hj:q[j]? = some v)(hx:x<m):(∃ t i:Nat,To rows' v x t∧q[i]? = some t∧Fo.getN (R.map (·.map ofO)) j x=(i:Int))∨((∀ t,¬ To rows' v x t)∧Fo.getN (R.map (·.map ofO)) j x = -1):=by
 obtain⟨k1,k2⟩:=h.num.row j v hj;have hl:=h.len _ (List.mem_of_getElem? k1);have hxl:x<((rowOf rows' v).map (Option.map q.idxOf)).length:=by rw[hl];exact hx
 cases ho:((rowOf rows' v).map (Option.map q.idxOf))[x] with
 | some i=>
  have hx':((rowOf rows' v).map (Option.map q.idxOf))[x]? = some (some i):=by rw[List.getElem?_eq_getElem hxl,ho]
  obtain⟨t,h1,h2⟩:=(h.to j v x hj i).1 ⟨_,k1,hx'⟩;exact .inl ⟨t,i,h1,h2,next_get k1 hx'⟩
 | none=>
  refine .inr ⟨fun t ht=>?_,?_⟩
  ·obtain⟨i,hi⟩:=h.next hj ht;obtain⟨row,e1,e2⟩:=(h.to j v x hj i).2 ⟨t,ht,hi⟩;rw[k1]at e1;cases e1;rw[List.getElem?_eq_getElem hxl,ho]at e2;cases e2
  ·have e:(R.map (·.map ofO)).getD j []=((rowOf rows' v).map (Option.map q.idxOf)).map ofO:=by rw[List.getD_eq_getElem?_getD,List.getElem?_map,k1];rfl
   unfold Fo.getN;rw[e,List.getD_eq_getElem?_getD,List.getElem?_map,List.getElem?_eq_getElem hxl,ho];rfl
theorem Auto.leads (h:Auto m r rows' q R):∀ (l:List Nat)(j v:Nat),q[j]? = some v→(∀ x∈l,x<m)→∀ (i t:Nat),q[i]? = some t→(leadsF (R.map (·.map ofO)) l j=(i:Int)↔Run (To rows') v l t)
 | [],j,v,hj,_,i,t,hi=>by
  simp only[leadsF];constructor
  ·intro he;have:j=i:=by omega
   subst this;rw[hj]at hi;cases hi;exact .nil v
  ·intro hr;cases hr
   obtain⟨h1,h2⟩:=List.getElem?_eq_some_iff.1 hj;obtain⟨h3,h4⟩:=List.getElem?_eq_some_iff.1 hi;have:=(List.getElem_inj (h₀:=h1) (h₁:=h3) h.num.nd).1 (by rw[h2,h4])
   omega
 | x :: l,j,v,hj,hl,i,t,hi=>by
  have hx:=hl x (by simp)
  have hrest:∀ y∈l,y<m:=fun y hy=>hl y (by simp[hy])
  have hs:leadsF (R.map (·.map ofO)) (x :: l) j=if Fo.getN (R.map (·.map ofO)) j x<0 then Fo.getN (R.map (·.map ofO)) j x else leadsF (R.map (·.map ofO)) l (Fo.getN (R.map (·.map ofO)) j x).toNat:=rfl
  rw[hs];rcases h.getN hj hx with ⟨u,a,h1,h2,h3⟩|⟨h1,h3⟩
  ·rw[h3,if_neg (by omega),Int.toNat_natCast,Auto.leads h l a u h2 hrest i t hi]
   constructor
   ·exact fun hr=>.cons h1 hr
   ·intro hr;cases hr with
    | cons k1 k2=>
     have:=h1.unique k1;subst this;exact k2
  ·rw[h3,if_pos (by omega)]
   constructor
   ·intro he;omega
   ·intro hr;cases hr with
    | cons k1 k2=>exact absurd k1 (h1 _)
end
def wordB (T:Tree)(s:Nat)(x t:Int):ByteArray:=ReduceF (T.paths.getD s ⟨#[]⟩ ++ letS x ++ InverseF (T.paths.getD t.toNat ⟨#[]⟩))
theorem basE_iff {T:Tree}{s:Nat}{b:ByteArray}:∀ (l:List (Int × Int × Unit))(B:Bas),b∈(basE T s l B).basis↔b∈B.basis∨∃ x t u,(x,t,u)∈l∧x.toNat % 2=0∧((s:Int),x) ∉ T.keys∧b=wordB T s x t
 | [],B=>by simp[basE]
 | (x,t,u) :: l,B=>by
  simp only[basE];split
  ·rename_i hc
   rw[basE_iff l];simp only[List.mem_append,List.mem_cons,List.not_mem_nil,or_false];constructor
   ·rintro((h|h)|⟨x',t',u',h1,h2⟩)
    ·exact .inl h
    ·exact .inr ⟨x,t,u,.inl rfl,hc.1,hc.2,h⟩
    ·exact .inr ⟨x',t',u',.inr h1,h2⟩
   ·rintro(h|⟨x',t',u',h1|h1,h2,h3,h4⟩)
    ·exact .inl (.inl h)
    ·simp only[Prod.mk.injEq]at h1;obtain⟨rfl,rfl,_⟩:=h1;exact .inl (.inr h4)
    ·exact .inr ⟨x',t',u',h1,h2,h3,h4⟩
  ·rename_i hc
   rw[basE_iff l];simp only[List.mem_cons];constructor
   ·rintro(h|⟨x',t',u',h1,h2⟩)
    ·exact .inl h
    ·exact .inr ⟨x',t',u',.inr h1,h2⟩
   ·rintro(h|⟨x',t',u',h1|h1,h2,h3,h4⟩)
    ·exact .inl h
    ·simp only[Prod.mk.injEq]at h1;obtain⟨rfl,rfl,_⟩:=h1;exact absurd ⟨h2,h3⟩ hc
    ·exact .inr ⟨x',t',u',h1,h2,h3,h4⟩
theorem basR_iff {T:Tree}{b:ByteArray}:∀ (l:List (List Int))(s:Nat)(B:Bas),b∈(basR T s l B).basis↔b∈B.basis∨∃ i row,l[i]? = some row∧∃ x t u,(x,t,u)∈edgesFrom 0 row∧x.toNat % 2=0∧(((s+i:Nat):Int),x) ∉ T.keys∧b=wordB T (s+i) x t
 | [],s,B=>by simp[basR]
 | r :: l,s,B=>by
  simp only[basR];rw[basR_iff l (s+1),basE_iff];constructor
  ·rintro((h|h)|⟨i,row,h1,h2⟩)
   ·exact .inl h
   ·exact .inr ⟨0,r,rfl,h⟩
   ·refine .inr ⟨i+1,row,h1,?_⟩;rw[show s+(i+1)=s+1+i by omega];exact h2
  ·rintro(h|⟨i,row,h1,h2⟩)
   ·exact .inl (.inl h)
   ·cases i with
    | zero=>
     simp only[List.getElem?_cons_zero,Option.some.injEq]at h1;subst h1;exact .inl (.inr h2)
    | succ i=>
     refine .inr ⟨i,row,h1,?_⟩;rw[show s+1+i=s+(i+1) by omega];exact h2
def pathR' (T:Tree)(s:Nat):List Nat:=rawF (T.paths.getD s ⟨#[]⟩)
section
variable {k:Int} {a:Aut}
theorem path_good (hk:k≤8)(hc:a.check k=0){s:Nat}(hs:s<a.next.length):Good ((treeF a.next).paths.getD s ⟨#[]⟩).data.toList∧checkF 8 ((treeF a.next).paths.getD s ⟨#[]⟩)=0∧((treeF a.next).paths.getD s ⟨#[]⟩).size≤2000:=by
 obtain⟨h1,h2,h3⟩:=tree_ok hk hc;obtain⟨_,_,n1,n2,_⟩:=check_spec hc;have hm:=path_mem (T:=treeF a.next) (s:=s) (by rw[h1.len];exact hs)
 have hg:Good ((treeF a.next).paths.getD s ⟨#[]⟩).data.toList:=h2.good _ hm;have hz:=h1.small _ hm;have:((treeF a.next).paths.getD s ⟨#[]⟩).size≤2000:=by omega
 exact⟨hg,check_good hg (by omega),this⟩
theorem letS_good {x:Nat}(h:x<16):Good (letS (x:Int)).data.toList:=fun b hb=>by
 rw[letS_list]at hb;simp only[List.mem_singleton]at hb;exact⟨x,h,hb⟩
theorem letS_raw {x:Nat}(h:x<16):rawF (letS (x:Int))=[x]:=by
 unfold rawF;rw[letS_list,List.map_cons,ix_L h];rfl
theorem wordB_same (hk:k≤8)(hc:a.check k=0){s x t:Nat}(hs:s<a.next.length)(ht:t<a.next.length)(hx:x<16) :
  Same (wordF (wordB (treeF a.next) s (x:Int) (t:Int))) (pathR' (treeF a.next) s ++ [x] ++ inv (pathR' (treeF a.next) t)):=by
 obtain⟨g1,c1,z1⟩:=path_good hk hc hs;obtain⟨g2,c2,z2⟩:=path_good hk hc ht;obtain⟨g3,_⟩:=word_inv g2 c2;unfold wordB pathR';rw[Int.toNat_natCast];generalize hA:(treeF a.next).paths.getD s ⟨#[]⟩=A at *;generalize hB:(treeF a.next).paths.getD t ⟨#[]⟩=B at *;have hg:Good (A ++ letS (x:Int) ++ InverseF B).data.toList:=by
  rw[app_list,app_list];exact(g1.app (letS_good hx)).app g3
 have hinv:(InverseF B).size≤2000:=by
  unfold InverseF;rw[if_pos c2,size_list];unfold invF;simp;rw[size_list]at z2
  simpa using z2
 have hsz:(A ++ letS (x:Int) ++ InverseF B).size≤100000:=by
  have e1:(letS (x:Int)).size=1:=by rw[size_list,letS_list];rfl
  have e2:=size_list (InverseF B);have e3:=size_list A;have e4:=size_list (letS (x:Int));rw[size_list,app_list,app_list,List.length_append,List.length_append];omega
 have hck:=check_good hg hsz;have e:wordF (ReduceF (A ++ letS (x:Int) ++ InverseF B))=wordF (A ++ letS (x:Int) ++ InverseF B):=by
  unfold wordF;have:(ReduceF (A ++ letS (x:Int) ++ InverseF B)).data.toList=redF (A ++ letS (x:Int) ++ InverseF B).data.toList:=by
   unfold ReduceF;rw[if_pos hck]
  rw[this];have h2:redF (redF (A ++ letS (x:Int) ++ InverseF B).data.toList)=redF (A ++ letS (x:Int) ++ InverseF B).data.toList:=redF_red _;rw[h2]
 rw[e];refine(same_raw hg).trans ?_;rw[raw_app,raw_app,letS_raw hx,raw_inv g2 c2];exact Same.refl _
theorem tree_same (hk:k≤8)(hc:a.check k=0){s x t:Nat}(ht:getN a.next s x=(t:Int))(hkey:((s:Int),(x:Int))∈(treeF a.next).keys):Same (pathR' (treeF a.next) s ++ [x] ++ inv (pathR' (treeF a.next) t)) []:=by
 obtain⟨h1,h2,h3⟩:=tree_ok hk hc;obtain⟨u',y',t',e1,e2,e3,e4,e5,e6,e7,e8,e9⟩:=h2.keyw _ _ hkey;have e1:s=u':=by omega
 have e2:x=y':=by omega
 subst e1 e2;rw[ht]at e4;have e4:t=t':=by omega
 subst e4;obtain⟨_,_,n1,n2,_⟩:=check_spec hc;have hx:x<16:=by omega
 unfold pathR' rawF;rcases e9 with e9|e9
 ·rw[e9,List.map_append,List.map_cons,ix_L hx];exact same_inv _
 ·rw[e9,List.map_append,List.map_cons,ix_L (xor16 hx)];generalize ((treeF a.next).paths.getD t ⟨#[]⟩).data.toList.map ix=Q;have e:Q ++ [x ^^^ 1] ++ [x] ++ inv Q=Q ++ [x ^^^ 1,x] ++ inv Q:=by simp
  show Same (Q ++ [x ^^^ 1] ++ [x] ++ inv Q) []
  rw[e];have:=((Same.refl Q).app (same_pair' x)).app (Same.refl (inv Q));rw[List.append_nil]at this;exact this.trans (same_inv Q)
end
section
variable {k:Int} {a:Aut}
theorem getN_row (hc:a.check k=0){s x:Nat}(hs:s<a.next.length)(hx:x<2*k.toNat):∃ row,a.next[s]? = some row∧x<row.length∧getN a.next s x=row.getD x 0∧-1≤row.getD x 0∧row.getD x 0<(a.next.length:Int):=by
 obtain⟨_,_,n1,n2,_,_,hrows⟩:=check_spec hc;have hg:a.next[s]? = some a.next[s]:=List.getElem?_eq_getElem hs;obtain⟨h1,h2⟩:=hrows _ (List.getElem_mem hs);have hxl:x<a.next[s].length:=by omega
 refine⟨_,hg,hxl,?_,?_⟩
 ·unfold getN;rw[List.getD_eq_getElem?_getD (l:=a.next),hg];rfl
 ·rw[getD_get hxl];exact h2 _ (List.getElem_mem hxl)
theorem edge_bas (hk:k≤8)(hc:a.check k=0){s x t:Nat}(hs:s<a.next.length)(hx:x<2*k.toNat)(ht:getN a.next s x=(t:Int)) :
  t<a.next.length∧Mem ((basF a.next).basis.map wordF) (pathR' (treeF a.next) s ++ [x] ++ inv (pathR' (treeF a.next) t)):=by
 have even:∀ {s x t:Nat},s<a.next.length→x<2*k.toNat→getN a.next s x=(t:Int)→x % 2=0→((s:Int),(x:Int)) ∉ (treeF a.next).keys→Mem ((basF a.next).basis.map wordF) (pathR' (treeF a.next) s ++ [x] ++ inv (pathR' (treeF a.next) t)):=fun {s x t} hs hx ht h2 hno=>by
  obtain⟨row,g1,g2,g3,g4,g5⟩:=getN_row hc hs hx;rw[ht]at g3;have ht':t<a.next.length:=by omega
  have he:=edges_of row 0 x g2 (by omega)
  rw[Nat.zero_add,← g3]at he;have hb:wordB (treeF a.next) s (x:Int) (t:Int)∈(basF a.next).basis:=by
   unfold basF;rw[basR_iff];refine .inr ⟨s,row,g1,(x:Int),(t:Int),(),he,by simpa using h2,?_,?_⟩
   ·rw[Nat.zero_add];exact hno
   ·rw[Nat.zero_add]
  exact .same (.gen (List.mem_map_of_mem hb)) (wordB_same hk hc hs ht' (by omega))
 obtain⟨row,g1,g2,g3,g4,g5⟩:=getN_row hc hs hx;rw[ht]at g3;have ht':t<a.next.length:=by omega
 refine⟨ht',?_⟩
 by_cases hkey:((s:Int),(x:Int))∈(treeF a.next).keys
 ·exact .same .one (tree_same hk hc ht hkey).symm
 ·by_cases h2:x % 2=0
  ·exact even hs hx ht h2 hkey
  ·have hb:=back_of hc hs hx (by rw[ht];omega)
   rw[ht,Int.toNat_natCast]at hb;have hx1:x ^^^ 1<2*k.toNat:=xor_lt (by omega) hx
   have hno:((t:Int),((x ^^^ 1:Nat):Int)) ∉ (treeF a.next).keys:=fun hk'=>by
    obtain⟨_,hW,_⟩:=tree_ok hk hc;obtain⟨u',y',t',e1,e2,e3,e4,e5,e6,e7,e8,e9⟩:=hW.keyw _ _ hk';have e1:t=u':=by omega
    have e2:x ^^^ 1=y':=by omega
    subst e1 e2;rw[hb]at e4;have e4:s=t':=by omega
    subst e4;rw[xor_two]at e7;exact hkey e7
   have:=even ht' hx1 hb (by rw[xor1,if_neg h2];omega) hno
   have:=mem_back this
   rwa [xor_two]at this
theorem path_zero (hk:k≤8)(hc:a.check k=0):pathR' (treeF a.next) 0=[]:=by
 obtain⟨_,hW,_⟩:=tree_ok hk hc;unfold pathR' rawF;rw[hW.zero];rfl
end
section
variable {k:Int} {a:Aut}
def Dl (k:Int)(a:Aut)(s x t:Nat):Prop:=s<a.next.length∧x<2*k.toNat∧getN a.next s x=(t:Int)
theorem dl_aut (hk:k≤8)(hc:a.check k=0):Aut' (Dl k a) where
 det:=fun s x t t' h h'=>by have h1:=h.2.2;have h2:=h'.2.2;rw[h1]at h2;omega
 inv:=fun s x t ⟨h1,h2,h3⟩=>by
  have hb:=back_of hc h1 h2 (by rw[h3];omega)
  rw[h3,Int.toNat_natCast]at hb;exact⟨(edge_bas hk hc h1 h2 h3).1,xor_lt (by omega) h2,hb⟩
theorem leads_dl (hk:k≤8)(hc:a.check k=0){s t:Nat}{l:List Nat}(h:Run (Dl k a) s l t):leadsF a.next l s=(t:Int):=by
 induction h with
 | nil s=>rfl
 | @cons s x u t l h1 _ ih=>
  have hs':leadsF a.next (x :: l) s=if getN a.next s x<0 then getN a.next s x else leadsF a.next l (getN a.next s x).toNat:=rfl
  rw[hs',h1.2.2,if_neg (by omega),Int.toNat_natCast,ih]
theorem path_runs (hk:k≤8)(hc:a.check k=0):∀ (N v:Nat),v<a.next.length→((treeF a.next).paths.getD v ⟨#[]⟩).data.toList.length≤N→Run (Dl k a) 0 (pathR' (treeF a.next) v) v:=by
 obtain⟨hT,hW,hseen⟩:=tree_ok hk hc;intro N;induction N with
 | zero=>
  intro v hv hl
  by_cases h0:v=0
  ·subst h0;rw[path_zero hk hc];exact .nil 0
  ·obtain⟨s,x,_,e,_⟩:=hW.last v (by omega) (by omega)
   rw[e]at hl;simp at hl
 | succ N ih=>
  intro v hv hl
  by_cases h0:v=0
  ·subst h0;rw[path_zero hk hc];exact .nil 0
  ·obtain⟨s,x,hx,e,hkey⟩:=hW.last v (by omega) (by omega)
   obtain⟨u',y',t',e1,e2,e3,e4,e5,e6,e7,e8,e9⟩:=hW.keyw _ _ hkey;have e1:v=u':=by omega
   have e2:x ^^^ 1=y':=by omega
   subst e1 e2;rw[xor_two]at e7 e8 e9;rcases e9 with e9|e9
   ·exfalso
    have hr:=hW.red _ (path_mem (T:=treeF a.next) (s:=t') (by rw[hT.len];omega))
    rw[e9]at hr;have:=(RedL.inv hr).2;rw[e,List.getLast?_append,other_L (xor16 hx),xor_two]at this;exact this rfl
   ·have hr:=ih t' (by omega) (by rw[e9,List.length_append,List.length_singleton]at hl;omega)
    have hp:pathR' (treeF a.next) v=pathR' (treeF a.next) t' ++ [x]:=by
     unfold pathR' rawF;rw[e9,List.map_append,List.map_cons,ix_L hx];rfl
    rw[hp];have hxm:x<2*k.toNat:=by
     have:=xor_lt (k:=k.toNat) (by omega) e3
     rwa [xor_two]at this
    exact hr.app (.one ⟨by omega,hxm,e8⟩)
end
end Go.Proofs.YtffdjfkekdoeaaaDoor.Pl
end
section
namespace Go.Proofs.YtffdjfkekdoeaaaDoor.Pl
open Fo Rf Wd
def LetB (m:Nat)(l:List UInt8):Prop:=∀ b∈l,∃ x,x<m∧b=L x
theorem LetB.app {m:Nat}{a b:List UInt8}(h:LetB m a) (h':LetB m b):LetB m (a ++ b):=fun c hc=>(List.mem_append.1 hc).elim (h c) (h' c)
theorem LetB.good {m:Nat}(hm:m≤16){l:List UInt8}(h:LetB m l):Good l:=fun b hb=>by
 obtain⟨x,h1,h2⟩:=h b hb;exact⟨x,by omega,h2⟩
theorem L_127:∀ x:Fin 16,(L x.val).toNat≤127:=by decide
theorem bad_L {k:Int}(hk:k≤8){x:Nat}(hx:x<16):badF k (ofB (L x))=decide ((x:Int) ≥ 2*k):=by
 have h1:=L_idx ⟨x,hx⟩;have h2:=L_127 ⟨x,hx⟩;dsimp only at h1 h2;unfold badF;rw[h1];have e1:decide (ofB (L x)>127)=false:=by rw[decide_eq_false_iff_not];unfold ofB;omega
 have e2:decide ((x:Int)<0)=false:=by rw[decide_eq_false_iff_not];omega
 rw[e1,e2];rfl
theorem let_of {k:Int}{s:ByteArray}(h:checkF k s=0):LetB (2*k.toNat) s.data.toList:=fun b hb=>by
 obtain⟨x,hx,rfl⟩:=good_word h b hb;obtain⟨h1,h2,h3,h4⟩:=check_bad h;unfold hasBad at h4;rw[List.any_eq_false]at h4;have h5:badF k (ofB (L x))=false:=by
  have:=h4 _ hb;rw[Bool.not_eq_true]at this;exact this
 rw[bad_L h2 hx]at h5;have:=of_decide_eq_false h5;exact⟨x,by omega,rfl⟩
theorem check_of {k:Int}(hk:1≤k∧k≤8){s:ByteArray}(hs:s.size≤100000)(h:LetB (2*k.toNat) s.data.toList):checkF k s=0:=by
 unfold checkF;rw[if_neg (by omega),if_neg (by omega),if_neg]
 unfold hasBad;rw[Bool.not_eq_true,List.any_eq_false];intro b hb;obtain⟨x,hx,rfl⟩:=h b hb;have:=bad_L hk.2 (x:=x) (by omega)
 rw[Bool.not_eq_true]
 show badF k (ofB (L x))=false
 rw[this];simp;omega
theorem check_cat {k:Int}{a b:ByteArray}(ha:checkF k a=0)(hb:checkF k b=0)(hs:a.size+b.size≤100000):checkF k (a ++ b)=0:=by
 obtain⟨h1,h2,_⟩:=check_bad ha;refine check_of ⟨h1,h2⟩ ?_ (by rw[app_list];exact(let_of ha).app (let_of hb))
 rw[size_list,app_list,List.length_append,← size_list,← size_list];exact hs
theorem check_inv {k:Int}{s:ByteArray}(h:checkF k s=0):checkF k (InverseF s)=0∧(InverseF s).size=s.size:=by
 obtain⟨h1,h2,h3,_⟩:=check_bad h;have h8:=(check8 h).1;have hz:(InverseF s).size=s.size:=by
  unfold InverseF;rw[if_pos h8,size_list,size_list];unfold invF
  show((s.data.toList.map otherB).reverse.toArray).toList.length=_
  rw[List.toList_toArray,List.length_reverse,List.length_map]
 refine⟨check_of ⟨h1,h2⟩ (by omega) fun b hb=>?_,hz⟩
 unfold InverseF at hb;rw[if_pos h8]at hb;have hb:b∈(s.data.toList.map otherB).reverse:=by
  have:b∈((s.data.toList.map otherB).reverse.toArray).toList:=hb
  rwa [List.toList_toArray]at this
 obtain⟨c,hc,rfl⟩:=List.mem_map.1 (List.mem_reverse.1 hb);obtain⟨x,hx,rfl⟩:=let_of h c hc;exact⟨x ^^^ 1,xor_lt (by omega) hx,other_L (by omega)⟩
end Go.Proofs.YtffdjfkekdoeaaaDoor.Pl
namespace Go.Proofs.YtffdjfkekdoeaaaDoor.Pl
open Fo Rf Wd
theorem run_let {k:Int}{a:Aut}{s t:Nat}{l:List Nat}(h:Run (Dl k a) s l t):∀ x∈l,x<2*k.toNat:=by
 induction h with
 | nil _=>intro x hx;simp at hx
 | cons h1 _ ih=>
  intro x hx;rcases List.mem_cons.1 hx with rfl|hx
  ·exact h1.2.1
  ·exact ih x hx
theorem path_let {k:Int}{a:Aut}(hk:k≤8)(hc:a.check k=0){s:Nat}(hs:s<a.next.length):LetB (2*k.toNat) ((treeF a.next).paths.getD s ⟨#[]⟩).data.toList:=fun b hb=>by
 obtain⟨x,hx,rfl⟩:=(path_good hk hc hs).1 b hb;have:=run_let (path_runs hk hc _ s hs (Nat.le_refl _)) x (by
  unfold pathR' rawF;exact List.mem_map.2 ⟨_,hb,ix_L hx⟩)
 exact⟨x,this,rfl⟩
end Go.Proofs.YtffdjfkekdoeaaaDoor.Pl
end
section
namespace Go.Proofs.YtffdjfkekdoeaaaDoor.Pl
open Fo Rf Wd
def Lg (δ:Nat→Nat→Nat→Prop)(v:Nat)(l:List Nat):Prop:=∃ p,Run δ v p v∧Same p l
def Er (E:List Edg)(s x t:Nat):Prop:=(s,x,t)∈E
theorem Run.mono {δ ε:Nat→Nat→Nat→Prop}{f:Nat→Nat}(hf:∀ s x t,δ s x t→ε (f s) x (f t)){s t:Nat}{l:List Nat}(h:Run δ s l t):Run ε (f s) l (f t):=by
 induction h with
 | nil s=>exact .nil _
 | cons h1 _ ih=>exact .cons (hf _ _ _ h1) ih
theorem Run.map {δ ε:Nat→Nat→Nat→Prop}(hf:∀ s x t,δ s x t→ε s x t){s t:Nat}{l:List Nat}(h:Run δ s l t):Run ε s l t:=by
 induction h with
 | nil s=>exact .nil _
 | cons h1 _ ih=>exact .cons (hf _ _ _ h1) ih
theorem Run.rev {δ:Nat→Nat→Nat→Prop}(hb:∀ s x t,δ s x t→δ t (x ^^^ 1) s){s t:Nat}{l:List Nat}(h:Run δ s l t):Run δ t (inv l) s:=by
 induction h with
 | nil s=>exact .nil s
 | cons h1 _ ih=>
  rw[inv_cons];exact ih.app (.one (hb _ _ _ h1))
theorem lg_hom {δ ε:Nat→Nat→Nat→Prop}{f g:Nat→Nat}{v u:Nat}(hf:∀ s x t,δ s x t→ε (f s) x (f t))(hg:∀ s x t,ε s x t→δ (g s) x (g t))(hfv:f v=u)(hgu:g u=v)(l:List Nat):Lg δ v l↔Lg ε u l:=by
 constructor
 ·rintro⟨p,h1,h2⟩
  have:=h1.mono hf;rw[hfv]at this;exact⟨p,this,h2⟩
 ·rintro⟨p,h1,h2⟩
  have:=h1.mono hg;rw[hgu]at this;exact⟨p,this,h2⟩
theorem lg_iff {δ ε:Nat→Nat→Nat→Prop}(h:∀ s x t,δ s x t↔ε s x t)(v:Nat)(l:List Nat):Lg δ v l↔Lg ε v l:=
 lg_hom (f:=id) (g:=id) (fun s x t hd=>(h s x t).1 hd) (fun s x t hd=>(h s x t).2 hd) rfl rfl l
theorem lg_det {δ:Nat→Nat→Nat→Prop}(hA:Aut' δ){v:Nat}{l:List Nat}(hl:Rd l):Lg δ v l↔Run δ v l v:=by
 constructor
 ·rintro⟨p,h1,h2⟩
  have:=h1.rd hA;rw[h2.rd_eq,hl.self]at this;exact this
 ·intro h;exact⟨l,h,Same.refl l⟩
theorem same_mid {a b:List Nat}(h:Same b [])(c:List Nat):Same (a ++ b ++ c) (a ++ c):=by
 have:=((Same.refl a).app h).app (Same.refl c)
 rwa [List.append_nil]at this
theorem cg_path {E:List Edg}(hb:Both E){u v:Nat}(h:Cg E u v):∃ p,Run (Er E) u p v∧Same p []:=by
 induction h with
 | refl u=>exact⟨[],.nil u,Same.refl _⟩
 | symm _ ih=>
  obtain⟨p,h1,h2⟩:=ih;exact⟨inv p,h1.rev hb,h2.inv⟩
 | trans _ _ i1 i2=>
  obtain⟨p,h1,h2⟩:=i1;obtain⟨q,h3,h4⟩:=i2;exact⟨p ++ q,h1.app h3,h2.app h4⟩
 | @fold s s' x t t' h1 h2 _ ih=>
  obtain⟨p,h3,h4⟩:=ih;refine⟨[x ^^^ 1] ++ p ++ [x],((Run.one (hb _ _ _ h1)).app h3).app (.one h2),?_⟩;exact(same_mid h4 [x]).trans (same_pair' x)
theorem to_path {E:List Edg}{st:St}(h:Inv E st)(hb:Both E){s x t:Nat}(ht:To (RowsOf st) s x t):∃ p,Run (Er E) s p t∧Same p [x]:=by
 obtain⟨u,h1,h2,h3⟩:=(to_rows h).1 ht;obtain⟨s',e1,e2⟩:=h.snd.ent s x u h2;obtain⟨p,p1,p2⟩:=cg_path hb e2;obtain⟨q,q1,q2⟩:=cg_path hb (h.snd.par u t ⟨t,h3,h3.self⟩);refine⟨p ++ ([x] ++ q),p1.app ((Run.one e1).app q1),?_⟩;have:=p2.app ((Same.refl [x]).app q2)
 simpa using this
theorem run_path {E:List Edg}{st:St}(h:Inv E st)(hb:Both E){s t:Nat}{l:List Nat}(hr:Run (To (RowsOf st)) s l t):∃ p,Run (Er E) s p t∧Same p l:=by
 induction hr with
 | nil s=>exact⟨[],.nil s,Same.refl _⟩
 | cons h1 _ ih=>
  obtain⟨p,p1,p2⟩:=to_path h hb h1;obtain⟨q,q1,q2⟩:=ih;exact⟨p ++ q,p1.app q1,p2.app q2⟩
theorem cut_run {rows rows':List (Option Row)}{m r0:Nat}{o:Option (List Row)}(hA:Aut' (To rows))(hm:MadeOf m r0 rows rows' o){l:List Nat}(hl:Rd l):Run (To rows') r0 l r0↔Run (To rows) r0 l r0:=by
 have mono:∀ {s t:Nat} {l:List Nat},Run (To rows') s l t→Run (To rows) s l t:=fun hr=>by
  induction hr with
  | nil s=>exact .nil s
  | cons h1 _ ih=>exact .cons (hm.cut.sub _ _ _ h1) ih
 refine⟨mono,fun hr=>?_⟩
 let Oc:Nat→Nat→Nat→Prop:=fun s x t=>∃ a b,l=a ++ x :: b∧Run (To rows) r0 a s∧To rows s x t∧Run (To rows) t b r0
 have chain:∀ {a b:List Nat} {y x:Nat},l=a ++ y :: x :: b→x≠y ^^^ 1:=fun {a b y x} he=>by
  have:∀ (a l:List Nat),l=a ++ y :: x :: b→Rd l→x≠y ^^^ 1:=by
   intro a;induction a with
   | nil=>intro l he hl;subst he;exact hl.1
   | cons z a ih=>
    intro l he hl;subst he;cases a with
    | nil=>exact ih _ rfl hl.2
    | cons z' a=>exact ih _ rfl hl.2
  exact this a l he hl
 have hS:∀ s x t,(Oc s x t∨Oc t (x ^^^ 1) s)→To rows' s x t:=hm.cut.max (fun s x t=>Oc s x t∨Oc t (x ^^^ 1) s) ⟨fun s x t hh=>by rw[xor_two];exact hh.symm,fun s x t hh hne=>by
  rcases hh with ⟨a,b,e1,e2,e3,e4⟩|⟨a,b,e1,e2,e3,e4⟩
  ·rcases List.eq_nil_or_concat a with rfl|⟨a',y,rfl⟩
   ·cases e2;exact absurd rfl hne
   ·rw[List.concat_eq_append]at e1 e2;obtain⟨u,f1,f2⟩:=e2.split;have e5:l=a' ++ y :: x :: b:=by rw[e1];simp
    refine⟨y ^^^ 1,u,fun he=>chain e5 he.symm,.inr ?_⟩
    rw[xor_two];exact⟨a',x :: b,e5,f1,f2.of_one,.cons e3 e4⟩
  ·cases e4 with
   | nil=>exact absurd rfl hne
   | @cons _ y u _ b' f1 f2=>
    refine⟨y,u,fun he=>?_,.inl ⟨a ++ [x ^^^ 1],b',by rw[e1];simp,e2.app (.one e3),f1,f2⟩⟩
    have:=chain e1;rw[xor_two]at this;exact this he⟩ fun s x t hh=>by
  rcases hh with ⟨_,_,_,_,e3,_⟩|⟨_,_,_,_,e3,_⟩
  ·exact e3
  ·have:=hA.inv _ _ _ e3
   rwa [xor_two]at this
 have walk:∀ (b a:List Nat) (s:Nat),l=a ++ b→Run (To rows) r0 a s→Run (To rows) s b r0→Run (To rows') s b r0:=by
  intro b;induction b with
  | nil=>intro a s _ _ h2;cases h2;exact .nil _
  | cons x b ih=>
   intro a s he h1 h2;cases h2 with
   | @cons _ _ u _ _ f1 f2=>
    exact .cons (hS _ _ _ (.inl ⟨a,b,he,h1,f1,f2⟩)) (ih (a ++ [x]) u (by rw[he];simp) (h1.app (.one f1)) f2)
 exact walk l [] r0 rfl (.nil _) hr
theorem leads_run {k:Int}{a:Aut}(hk:k≤8)(hc:a.check k=0):∀ (l:List Nat)(s t:Nat),(∀ x∈l,x<2*k.toNat)→s<a.next.length→leadsF a.next l s=(t:Int)→Run (Dl k a) s l t
 | [],s,t,_,_,h=>by
  simp only[leadsF]at h;have:s=t:=by omega
  subst this;exact .nil s
 | x :: l,s,t,hx,hs,h=>by
  have h1:=hx x (by simp)
  have e:leadsF a.next (x :: l) s=if getN a.next s x<0 then getN a.next s x else leadsF a.next l (getN a.next s x).toNat:=rfl
  rw[e]at h;split at h
  ·omega
  ·rename_i hp
   obtain⟨u,hu⟩:=Int.eq_ofNat_of_zero_le (show 0≤getN a.next s x by omega)
   rw[hu,Int.toNat_natCast]at h;exact .cons ⟨hs,h1,hu⟩ (leads_run hk hc l u t (fun y hy=>hx y (by simp[hy])) (edge_bas hk hc hs h1 hu).1 h)
structure FoldedD (k:Nat)(δ:Nat→Nat→Nat→Prop)(v:Nat)(o:Option (List Row)):Prop where
 ok:∃ E st rows',(∀ s x t,(s,x,t)∈E↔δ s x t)∧Inv E st∧Both E∧st.m=2*k∧v<st.par.length∧MadeOf (2*k) (rt st.par v) (RowsOf st) rows' o
theorem root_at {E:List Edg}{st:St}(h:Inv E st){v:Nat}(hv:v<st.par.length):Root st.par v (rt st.par v)∧Live (RowsOf st) (rt st.par v):=by
 obtain⟨d,hf⟩:=h.ok.forest;obtain⟨p,hp⟩:=hf.root _ v (Nat.le_refl _) hv;rw[rt_spec hp];exact⟨hp,(live_rows h).2 hp.self⟩
theorem lang_all {E:List Edg}{st:St}(h:Inv E st)(hb:Both E){v:Nat}(hv:v<st.par.length){m:Nat} {rows':List (Option Row)}{o:Option (List Row)}(hm:MadeOf m (rt st.par v) (RowsOf st) rows' o){l:List Nat}(hl:Rd l) :
  Run (To rows') (rt st.par v) l (rt st.par v)↔Lg (Er E) v l:=by
 have hA:=rows_aut h hb;rw[cut_run hA hm hl];constructor
 ·intro hr;obtain⟨p,p1,p2⟩:=run_path h hb hr;obtain⟨hr1,_⟩:=root_at h hv;obtain⟨q,q1,q2⟩:=cg_path hb (h.snd.par v _ ⟨_,hr1,hr1.self⟩);refine⟨q ++ p ++ inv q,(q1.app p1).app (q1.rev hb),?_⟩;have:=(q2.app p2).app q2.inv;have e:inv ([]:List Nat)=[]:=rfl
  rwa [e,List.append_nil,List.nil_append]at this
 ·rintro⟨p,h1,h2⟩
  have:=(run_rows h h1).rd hA;rw[h2.rd_eq,hl.self]at this;exact this
theorem foldedD_same {k v v':Nat}{δ ε:Nat→Nat→Nat→Prop}{o o':Option (List Row)}(h:FoldedD k δ v o) (h':FoldedD k ε v' o')(hm:∀ l,Rd l→(Lg δ v l↔Lg ε v' l)):o=o':=by
 obtain⟨E,st,rows,e1,i1,i2,i3,i4,i5⟩:=h.ok;obtain⟨E',st',rows',e1',j1,j2,j3,j4,j5⟩:=h'.ok;have key:=pair_num i5 j5 (root_at i1 i4).2 (root_at j1 j4).2 fun p hp=>by
  rw[lang_all i1 i2 i4 i5 hp,lang_all j1 j2 j4 j5 hp,lg_iff (δ:=Er E) (ε:=δ) (fun s x t=>e1 s x t),lg_iff (δ:=Er E') (ε:=ε) (fun s x t=>e1' s x t)]
  exact hm p hp
 have uni:∀ {K K':Nat} {r r':List Row},numG (rowOf rows) K 0 [rt st.par v] []=some r→numG (rowOf rows') K' 0 [rt st'.par v'] []=some r'→r=r':=fun {K K' r r'} h1 h2=>by
  rw[key]at h2;have a1:=numG_fuel K (K+K') _ _ _ _ (by omega) h1
  have a2:=numG_fuel K' (K+K') _ _ _ _ (by omega) h2
  rw[a1]at a2;exact Option.some.inj a2
 cases ho:o with
 | some r=>
  obtain⟨⟨K,h1⟩,h2⟩:=i5.yes r ho;cases ho':o' with
  | some r'=>
   obtain⟨⟨K',h1'⟩,h2'⟩:=j5.yes r' ho';rw[uni h1 h1']
  | none=>
   obtain⟨r',⟨K',h1'⟩,h2'⟩:=j5.no ho';have:=uni h1 h1';subst this;omega
 | none=>
  obtain⟨r,⟨K,h1⟩,h2⟩:=i5.no ho;cases ho':o' with
  | some r'=>
   obtain⟨⟨K',h1'⟩,h2'⟩:=j5.yes r' ho';have:=uni h1 h1';subst this;omega
  | none=>rfl
theorem foldedD_auto {k v:Nat}(hk:1≤k∧k≤8){δ:Nat→Nat→Nat→Prop}{R:List Row}(h:FoldedD k δ v (some R)) :
  (autE k R).check (k:Int)=0∧∀ l,Rd l→(Run (Dl k (autE k R)) 0 l 0↔Lg δ v l):=by
 obtain⟨E,st,rows',e1,i1,i2,i3,i4,i5⟩:=h.ok;obtain⟨⟨K,h1⟩,h2⟩:=i5.yes _ rfl;have hr:=(root_at i1 i4).2;obtain⟨q,hA⟩:=auto_of i5 hr h1;have hck:=good hk i5 hA h2 h1;refine⟨hck,fun l hl=>?_⟩
 rw[← lg_iff (δ:=Er E) (fun s x t=>e1 s x t),← lang_all i1 i2 i4 i5 hl]
 have hx:∀ {s t:Nat} {l:List Nat},Run (To rows') s l t→∀ x∈l,x<2*k:=fun hr=>by
  induction hr with
  | nil _=>intro x hx;simp at hx
  | cons h1 _ ih=>
   intro x hx;rcases List.mem_cons.1 hx with rfl|hx
   ·exact h1.lt i5.wf
   ·exact ih x hx
 have hkk:(k:Int)≤8:=by omega
 constructor
 ·intro hrun;have hlt:=run_let (k:=(k:Int)) hrun;rw[Int.toNat_natCast]at hlt;have:=leads_dl (k:=(k:Int)) hkk hck hrun;exact(hA.leads l 0 _ hA.first hlt 0 _ hA.first).1 this
 ·intro hrun;have hlt:=hx hrun;have:=(hA.leads l 0 _ hA.first hlt 0 _ hA.first).2 hrun;exact leads_run (k:=(k:Int)) hkk hck l 0 0 (by rw[Int.toNat_natCast];exact hlt) (by obtain⟨_,_,n1,_⟩:=check_spec hck;exact n1) this
theorem states_ev:∀ (n:Nat)(E:List Edg)(st:St),Inv E st→st.par.length+n<big→∃ st',Inv E st'∧st'.m=st.m∧st'.par.length=st.par.length+n
 | 0,E,st,h,_=>⟨st,h,rfl,rfl⟩
 | n+1,E,st,h,hb=>by
  obtain⟨st1,_,h1,h2,h3⟩:=state_ev h (by omega)
  obtain⟨st2,h4,h5,h6⟩:=states_ev n E st1 h1 (by omega)
  exact⟨st2,h4,h5.trans h2,by omega⟩
theorem links_ev:∀ (es:List Ed)(E:List Edg)(st:St),Inv E st→Both E→Evn es→(∀ e∈es,e.1<st.par.length∧e.2.2<st.par.length∧e.2.1+1<st.m)→st.par.length*(st.m+1)+2+st.m<big →
  ∃ E' st',Inv E' st'∧Both E'∧st'.m=st.m∧st'.par.length=st.par.length∧∀ s x t,(s,x,t)∈E'↔(s,x,t)∈E∨Dir es s x t
 | [],E,st,h,hB,_,_,_=>⟨E,st,h,hB,rfl,rfl,fun s x t=>by simp[Dir]⟩
 | (s,x,t) :: l,E,st,h,hB,he,hl,hb=>by
  obtain⟨h1,h2,h3⟩:=hl (s,x,t) (by simp)
  have hev:x % 2=0:=he (s,x,t) (by simp)
  dsimp only at h1 h2 h3;have hx1:x ^^^ 1=x+1:=by rw[xor1,if_pos hev]
  obtain⟨st1,_,a1,a2,a3⟩:=link_ev h h1 h2 (by omega) (by omega:x ^^^ 1<st.m) hb
  obtain⟨E',st',b1,b2,b3,b4,b5⟩:=links_ev l _ st1 a1 (Both.app (Both.pair s x t) hB) (fun e hm=>he e (by simp[hm])) (fun e hm=>by rw[a2,a3];exact hl e (by simp[hm])) (by rw[a2,a3];exact hb)
  refine⟨E',st',b1,b2,by rw[b3,a2],by rw[b4,a3],fun a y c=>?_⟩
  rw[b5];have hd:Dir ((s,x,t) :: l) a y c↔((a,y,c)=(s,x,t)∨(a,y,c)=(t,x ^^^ 1,s))∨Dir l a y c:=by
   have:=dir_app (es:=[(s,x,t)]) (es':=l) (s:=a) (x:=y) (t:=c);rw[List.singleton_append]at this;rw[this];refine or_congr ?_ Iff.rfl;simp only[Dir,List.mem_singleton,Prod.mk.injEq];constructor
   ·rintro(⟨p,q⟩|⟨p,q⟩)
    ·exact .inl q
    ·exact .inr ⟨by omega,by omega,by omega⟩
   ·rintro(⟨rfl,rfl,rfl⟩|⟨rfl,rfl,rfl⟩)
    ·exact .inl ⟨hev,rfl,rfl,rfl⟩
    ·exact .inr ⟨by omega,rfl,by omega,rfl⟩
  rw[hd];simp only[List.mem_cons];constructor
  ·rintro((p|p|p)|p)
   ·exact .inr (.inl (.inl p))
   ·exact .inr (.inl (.inr p))
   ·exact .inl p
   ·exact .inr (.inr p)
  ·rintro(p|(p|p)|p)
   ·exact .inl (.inr (.inr p))
   ·exact .inl (.inl p)
   ·exact .inl (.inr (.inl p))
   ·exact .inr p
theorem edges_folded {k:Nat}(hk:1≤k∧k≤8){es:List Ed}(he:Evn es){B:Nat}(hB:InB B es)(h0:0<B)(h1:B≤100000)(hx:∀ e∈es,e.2.1<2*k):∃ o,FoldedD k (Dir es) 0 o:=by
 have hm0:(start0 (2*k)).m=2*k:=rfl;have hp0:(start0 (2*k)).par.length=1:=rfl;obtain⟨st1,a1,a2,a3⟩:=states_ev (B-1) [] (start0 (2*k)) (start_inv _) (by rw[hp0];unfold big;omega)
 rw[hm0]at a2;rw[hp0]at a3;have hpl:st1.par.length=B:=by omega
 have hmul:st1.par.length*(st1.m+1)≤100000*17:=by rw[hpl,a2];exact Nat.mul_le_mul h1 (by omega)
 obtain⟨E,st,b1,b2,b3,b4,b5⟩:=links_ev es [] st1 a1 Both.nil he (fun e hm=>by
  obtain⟨c1,c2⟩:=hB e hm;have c3:=hx e hm;have c4:=he e hm;rw[hpl,a2];exact⟨c1,c2,by omega⟩) (by rw[a2]at hmul ⊢;unfold big;omega)
 have hmul2:st.par.length*(st.m+1)≤100000*17:=by rw[b3,b4];exact hmul
 obtain⟨o,rows',_,c2⟩:=made_ev (s:=0) b1 b2 (fun x hx=>by rw[b3,a2]at hx ⊢;exact xor_lt (by omega) hx) (by omega) (by unfold big;omega)
 rw[b3,a2]at c2;exact⟨o,E,st,rows',fun s x t=>by rw[b5];simp,b1,b2,by rw[b3,a2],by omega,c2⟩
theorem numE_len {k:Nat}{es:List Ed}{B:Nat}(hes:∀ e∈es,e.1<B∧e.2.2<B):∀ (K i:Nat)(q:List Nat)(out res:List Row),q.Nodup→(∀ v∈q,v<B)→i≤q.length→out.length=i→numE k es K i q out=some res→res.length≤B
 | 0,_,_,_,_,_,_,_,_,h=>by simp[numE]at h
 | K+1,i,q,out,res,hn,hq,hi,ho,h=>by
  simp only[numE]at h;split at h
  ·cases h
   have:=nodup_len B q hn hq;omega
  ·rename_i v hv
   have hlt:=(List.getElem?_eq_some_iff.1 hv).1;obtain⟨h1,h2⟩:=bfsRow_ok (B:=B) (rowE k es v) q (fun t ht=>by
    unfold rowE at ht;obtain⟨x,_,hx⟩:=List.mem_map.1 ht;exact stepE_lt es v x t hes hx) hn hq
   have h3:=bfsRow_grow (rowE k es v) q;exact numE_len hes K (i+1) _ _ res h1 h2 (by omega) (by simp[ho]) h
theorem stall_of {k:Nat}{es:List Ed}{o:Option (List Row)}(h:FoldedD k (Dir es) 0 o)(he:Evn es){B:Nat}(hB:InB B es)(hu:Uq es) :
  ∃ K res,stallF k K es=some res∧((o=some res∧res.length≤2000)∨(o=none∧2000<res.length)):=by
 obtain⟨E,st,rows',e1,i1,i2,i3,i4,i5⟩:=h.ok;exact stall_ev i1 e1 he hB hu i4 i5
theorem graphR_iff {s:Nat}{row:List Int}{e:Ed}:∀ (n i:Nat),e∈graphR s row i n↔∃ j,i≤j∧j<i+n∧0≤row.getD (2*j) 0∧e=(s,2*j,(row.getD (2*j) 0).toNat)
 | 0,i=>by
  simp only[graphR,List.not_mem_nil,false_iff]
  rintro⟨j,h1,h2,_⟩;omega
 | n+1,i=>by
  simp only[graphR,List.mem_append,graphR_iff n (i+1)];constructor
  ·rintro(h|⟨j,h1,h2,h3,h4⟩)
   ·split at h
    ·rename_i hp
     simp only[List.mem_singleton]at h;exact⟨i,Nat.le_refl _,by omega,hp,h⟩
    ·simp at h
   ·exact⟨j,by omega,by omega,h3,h4⟩
  ·rintro⟨j,h1,h2,h3,h4⟩
   by_cases hj:j=i
   ·subst hj
    left;rw[if_pos h3];simp[h4]
   ·exact .inr ⟨j,by omega,by omega,h3,h4⟩
theorem graphL_iff {k:Nat}{e:Ed}:∀ (l:List (List Int))(s:Nat),e∈graphL k s l↔∃ (i:Nat)(row:List Int),l[i]? = some row∧∃ j,j<k∧0≤row.getD (2*j) 0∧e=(s+i,2*j,(row.getD (2*j) 0).toNat)
 | [],s=>by simp[graphL]
 | row :: l,s=>by
  simp only[graphL,List.mem_append,graphR_iff,graphL_iff l (s+1)];constructor
  ·rintro(⟨j,h1,h2,h3,h4⟩|⟨i,r,h1,j,h2,h3,h4⟩)
   ·exact⟨0,row,rfl,j,by omega,h3,h4⟩
   ·exact⟨i+1,r,h1,j,h2,h3,by rw[h4,show s+1+i=s+(i+1) by omega]⟩
  ·rintro⟨i,r,h1,j,h2,h3,h4⟩
   cases i with
   | zero=>
    simp only[List.getElem?_cons_zero,Option.some.injEq]at h1;subst h1;exact .inl ⟨j,by omega,by omega,h3,h4⟩
   | succ i=>exact .inr ⟨i,r,h1,j,h2,h3,by rw[h4,show s+(i+1)=s+1+i by omega]⟩
section
variable {k:Nat} {a:Aut}
theorem graph_even (k:Nat)(l:List (List Int)):Evn (graphL k 0 l):=fun e he=>by
 obtain⟨i,row,_,j,_,_,rfl⟩:=(graphL_iff l 0).1 he;dsimp only;omega
theorem graph_let {k:Nat}{l:List (List Int)}:∀ e∈graphL k 0 l,e.2.1<2*k:=fun e he=>by
 obtain⟨i,row,_,j,_,_,rfl⟩:=(graphL_iff l 0).1 he;dsimp only;omega
theorem graph_dl (hk:k≤8)(hc:a.check (k:Int)=0){s x t:Nat}:Dir (graphL k 0 a.next) s x t↔Dl (k:Int) a s x t:=by
 have hk':(k:Int)≤8:=by omega
 have hA:=dl_aut hk' hc;have ev:∀ {s x t:Nat},x % 2=0→((s,x,t)∈graphL k 0 a.next↔Dl (k:Int) a s x t):=fun {s x t} hx=>by
  rw[graphL_iff];constructor
  ·rintro⟨i,row,h1,j,h2,h3,h4⟩
   simp only[Prod.mk.injEq,Nat.zero_add]at h4;obtain⟨rfl,rfl,rfl⟩:=h4;refine⟨(List.getElem?_eq_some_iff.1 h1).1,by rw[Int.toNat_natCast];omega,?_⟩
   unfold getN;rw[List.getD_eq_getElem?_getD (l:=a.next),h1]
   show row.getD (2*j) 0=_
   omega
  ·rintro⟨h1,h2,h3⟩
   rw[Int.toNat_natCast]at h2;obtain⟨row,g1,g2,g3,g4,g5⟩:=getN_row (k:=(k:Int)) hc h1 (x:=x) (by rw[Int.toNat_natCast];exact h2)
   have he:2*(x / 2)=x:=by omega
   refine⟨s,row,g1,x / 2,by omega,by rw[he,← g3,h3];omega,?_⟩
   rw[he,← g3,h3,Nat.zero_add];rfl
 constructor
 ·rintro(⟨h1,h2⟩|⟨h1,h2⟩)
  ·exact(ev h1).1 h2
  ·have:=hA.inv _ _ _ ((ev (by omega)).1 h2)
   rwa [xor1,if_pos (by omega),show x-1+1=x by omega]at this
 ·intro h
  by_cases hx:x % 2=0
  ·exact .inl ⟨hx,(ev hx).2 h⟩
  ·have:=hA.inv _ _ _ h;rw[xor1,if_neg hx]at this;exact .inr ⟨by omega,(ev (by omega)).2 this⟩
theorem graph_nodup (k:Nat)(l:List (List Int)):(graphL k 0 l).Nodup:=by
 have hR:∀ (s:Nat) (row:List Int) (n i:Nat),(graphR s row i n).Nodup:=by
  intro s row n;induction n with
  | zero=>intro i;exact List.nodup_nil
  | succ n ih=>
   intro i;simp only[graphR];rw[List.nodup_append];refine⟨by split <;> simp,ih _,fun x hx y hy he=>?_⟩
   subst he;obtain⟨j,h1,h2,h3,h4⟩:=(graphR_iff n (i+1)).1 hy;split at hx
   ·simp only[List.mem_singleton]at hx;rw[hx]at h4;simp only[Prod.mk.injEq]at h4;omega
   ·simp at hx
 have hL:∀ (l:List (List Int)) (s:Nat),(graphL k s l).Nodup:=by
  intro l;induction l with
  | nil=>intro s;exact List.nodup_nil
  | cons row l ih=>
   intro s;simp only[graphL];rw[List.nodup_append];refine⟨hR _ _ _ _,ih _,fun x hx y hy he=>?_⟩
   subst he;obtain⟨j,h1,h2,h3,h4⟩:=(graphR_iff k 0).1 hx;obtain⟨i,r,_,j',_,_,h5⟩:=(graphL_iff l (s+1)).1 hy;rw[h4]at h5;simp only[Prod.mk.injEq]at h5;omega
 exact hL l 0
theorem deg_some1:∀ {l:Row},1≤degF l→∃ (i t:Nat),l[i]? = some (some t)
 | [],h=>by simp[degF]at h
 | some t :: l,_=>⟨0,t,rfl⟩
 | none :: l,h=>by
  obtain⟨i,t,hi⟩:=deg_some1 (l:=l) (by simpa[degF] using h)
  exact⟨i+1,t,hi⟩
theorem deg_other:∀ {l:Row}(x:Nat),2≤degF l→∃ (i t:Nat),i≠x∧l[i]? = some (some t)
 | [],x,h=>by simp[degF]at h
 | some t :: l,x,h=>by
  by_cases hx:x=0
  ·obtain⟨i,t',hi⟩:=deg_some1 (l:=l) (by simp[degF]at h ⊢;omega)
   exact⟨i+1,t',by omega,hi⟩
  ·exact⟨0,t,fun he=>hx he.symm,rfl⟩
 | none :: l,x,h=>by
  cases x with
  | zero=>
   obtain⟨i,t,hi⟩:=deg_some1 (l:=l) (by simp[degF]at h ⊢;omega)
   exact⟨i+1,t,by omega,hi⟩
  | succ x=>
   obtain⟨i,t,h1,hi⟩:=deg_other (l:=l) x (by simpa[degF] using h)
   exact⟨i+1,t,by omega,hi⟩
theorem two_of {k:Int}{a:Aut}(hk:k≤8)(hc:a.check k=0){s x t:Nat}(h:Dl k a s x t)(hs:s≠0):∃ x' t',x'≠x∧Dl k a s x' t':=by
 obtain⟨_,_,n1,n2,n3,hscan,hrows⟩:=check_spec hc;obtain⟨hl,_⟩:=(scanR_iff a.next 0 1 _).1 hscan;have hsl:=h.1;have hg:a.next[s]? = some a.next[s]:=List.getElem?_eq_getElem hsl;obtain⟨_,h2,_⟩:=hl s _ hg;obtain⟨x',t',hx,ht⟩:=deg_other x (h2 (by omega))
 rw[List.getElem?_map]at ht;obtain⟨hr1,hr2⟩:=hrows _ (List.getElem_mem h.1);cases hv:a.next[s][x']? with
 | none=>rw[hv]at ht;cases ht
 | some v=>
  rw[hv]at ht;simp only[Option.map_some,Option.some.injEq]at ht;have hlt:=(List.getElem?_eq_some_iff.1 hv).1;have hv0:=hr2 v (List.mem_of_getElem? hv);refine⟨x',t',hx,h.1,by omega,?_⟩
  unfold getN;rw[List.getD_eq_getElem?_getD (l:=a.next),hg]
  show a.next[s].getD x' 0=_
  rw[List.getD_eq_getElem?_getD,hv]
  show v=_
  unfold toO at ht;split at ht
  ·cases ht
  ·rename_i hp
   have:=Option.some.inj ht;omega
theorem num_of {es es':List Ed}{o:Option (List Row)}(h:FoldedD k (Dir es) 0 o)(hd:Det es)(hp:Pr es es'){K:Nat}{res:List Row}(hn:numE k es' K 0 [0] []=some res)(h2:res.length≤2000):o=some res:=by
 obtain⟨E,st,rows',e1,i1,i2,i3,i4,i5⟩:=h.ok;have h2':Two E st es es (fun v=>v):=⟨i1,e1,⟨fun e=>⟨fun h=>⟨e,h,rfl⟩,fun⟨e0,h,heq⟩=>heq ▸ h⟩,fun v=>.refl v,fun _=>rfl,fun _=>Nat.le_refl _⟩,hd⟩
 obtain⟨hr,_⟩:=root_at i1 i4;have h0:rt st.par 0=0:=(h2'.root hr).symm;rw[h0]at i5 hr;have:=h2'.num hr rfl i5 hp K;rw[hn]at this;cases ho:o with
 | some r=>
  obtain⟨⟨K',h1'⟩,_⟩:=i5.yes r ho;have a1:=numG_fuel K (K+K') _ _ _ _ (by omega) this.symm
  have a2:=numG_fuel K' (K+K') _ _ _ _ (by omega) h1'
  rw[a1]at a2;rw[Option.some.inj a2]
 | none=>
  obtain⟨r,⟨K',h1'⟩,h3⟩:=i5.no ho;have a1:=numG_fuel K (K+K') _ _ _ _ (by omega) this.symm
  have a2:=numG_fuel K' (K+K') _ _ _ _ (by omega) h1'
  rw[a1]at a2;have:=Option.some.inj a2;subst this;omega
theorem aut_ext {a b:Aut}(h:sameF a b=true):a=b:=by
 unfold sameF at h;obtain⟨h1,h2,h3,h4⟩:=of_decide_eq_true h;cases a;cases b;simp_all
theorem auto_self (hk:1≤k∧k≤8)(hc:a.check (k:Int)=0):∃ R,a=autE k R∧FoldedD k (Dl (k:Int) a) 0 (some R):=by
 have hk':(k:Int)≤8:=by omega
 have hI:=isM_check (k:=(k:Int)) (by omega) a
 rw[decide_eq_true hc]at hI;have hS:a=autE k (numR k a.next):=by
  unfold isM at hI;simp only[Bool.and_eq_true,Int.toNat_natCast]at hI;exact aut_ext hI.2.2.2.2.2.2.2
 obtain⟨_,_,n1,n2,n3,hscan,hrows⟩:=check_spec hc;have hlt:=graphL_lt (k:=k) (next:=a.next) (fun r hr t ht=>((hrows r hr).2 t ht).2) n1
 obtain⟨res,hres⟩:=numE_some (k:=k) hlt (a.next.length+1) 0 [0] [] (by simp) (by simp;omega) (by simp) (by omega)
 have hnR:numR k a.next=res:=by unfold numR;rw[hres];rfl
 rw[hnR]at hS;obtain⟨o,ho⟩:=edges_folded hk (graph_even k a.next) (B:=a.next.length) hlt n1 (by omega) graph_let
 have hA:=dl_aut hk' hc;have hdet:Det (graphL k 0 a.next):=fun s x t t' h h'=>hA.det _ _ _ _ ((graph_dl hk.2 hc).1 h) ((graph_dl hk.2 hc).1 h')
 have hpr:Pr (graphL k 0 a.next) (graphL k 0 a.next):=⟨List.Sublist.refl _,fun S _ hS s x t h=>hS s x t h,fun s x t h hs=>by
  obtain⟨x',t',h1,h2⟩:=two_of hk' hc ((graph_dl hk.2 hc).1 h) hs;exact⟨x',t',h1,(graph_dl hk.2 hc).2 h2⟩⟩
 have h2000:res.length≤2000:=by
  have:=numE_len hlt _ 0 [0] [] res (by simp) (by simp;omega) (by simp) rfl hres
  omega
 have:=num_of ho hdet hpr hres h2000;subst this;refine⟨res,hS,?_⟩;obtain⟨E,st,rows',e1,i⟩:=ho.ok;exact⟨E,st,rows',fun s x t=>(e1 s x t).trans (graph_dl hk.2 hc),i⟩
end
end Go.Proofs.YtffdjfkekdoeaaaDoor.Pl
end
section
namespace Go.Proofs.YtffdjfkekdoeaaaDoor
open Fw
noncomputable def cayleylaw21_copied.ann:Ann where
 loops:=fun | 3=>[(1,.sc .adr),(2,.sc .adr),(3,.sc .adr),(4,.sc (.int .i64))] | _=>[]
 joins:=fun | _=>none
noncomputable def cayleylaw21_copied.body:Code:=match Tryd.f42.body with | some c=>c | none=>.skip
noncomputable def fold_folding_graft.ann:Ann where
 loops:=fun | 3=>[(3,.sc .adr),(4,.sc .adr),(6,.sc .adr),(15,.sc (.int .i64)),(16,.sc (.int .i64))] | 7=>[(3,.sc .adr),(4,.sc .adr),(6,.sc .adr),(26,.sc (.int .i64)),(27,.sc (.int .i64))] | _=>[]
 joins:=fun | _=>none
noncomputable def fold_folding_graft.body:Code:=match Tryd.f68.body with | some c=>c | none=>.skip
def fold_folding_graft.sh (p0:Option Addr)(p1_0:Int)(p1_1:Int)(p1_2:Sl)(p1_3:Sl)(p2:Int)(R:Ending→World→Prop)(w:World):Prop:=
 New w (.cells #[(.pointer p0)] 76) fun b1 w2=>
 New w2 (.cells #[(.int .i64 p1_0),(.int .i64 p1_1),(.slice p1_2.a p1_2.n p1_2.c),(.slice p1_3.a p1_3.n p1_3.c)] 27) fun b3 w4=>
 New w4 (.cells #[(.int .i64 p2)] 3) fun b5 w6=>
 New w6 (.cells #[(.slice none 0 0)] 85) fun b7 w8=>
 Store1 w8 (Addr.mk b7 0 none) (.slice (some (Addr.mk b5 0 none)) 1 1) fun w9=>
 LoadT (.sc .sl) w9 ((Addr.mk b3 0 none).add 3) fun x10=>
 LoopT (σ:=Addr × Addr × Addr × Int × Int × Unit) ((Addr.mk b1 0 none),(Addr.mk b3 0 none),(Addr.mk b7 0 none),(IntKind.wrap .i64 (((x10.n:Nat):Int)-1)),0,()) w9 fun l11 g12 w13 I14=>
 Br (decide ((l11.2.2.2.2.1:Int)<l11.2.2.2.1))
 (∃ S15:World→Prop,S15 w13.drew ∧
 (LoadS S15 (.sc .sl) l11.2.2.1 fun x16=>
 LoadS S15 (.sc .ptr) l11.1 fun x17=>
 CallT Tryd.prog 66 #[(.pointer x17)] (.sc (.int .i64)) w13.drew (fun r18 w19=>
 S15 w19 ∧
 (New w19 (.cells #[(.int .i64 r18)] 3) fun b21 w22=>
 S15 w22 ∧
 (RunT Tryd.prog (.sc .sl) (Builtin.append_ #[85,85] 85 #[(.slice x16.a x16.n x16.c),(.slice (some (Addr.mk b21 0 none)) 1 1)]) w22 fun r23 w24=>
 S15 w24 ∧
 (Store1 w24 l11.2.2.1 (.slice r23.a r23.n r23.c) fun w25=>
 I14 (l11.1,l11.2.1,l11.2.2.1,l11.2.2.2.1,(IntKind.wrap .i64 (l11.2.2.2.2.1+1)),()) w25)))) (fun h20 w19=>R (.panicked h20) w19)))
 (LoadT (.sc .sl) w13 (l11.2.1.add 3) fun x26=>
 LoopD (σ:=Addr × Addr × Addr × Int × Int × Unit) (l11.1,l11.2.1,l11.2.2.1,((x26.n:Nat):Int),0,()) ([]) w13 fun l27 d31 g28 w29 I30=>
 Br (decide ((l27.2.2.2.2.1:Int)<l27.2.2.2.1))
 (New w29 (.cells #[(.int .i64 0)] 3) fun b32 w33=>
 Store1 w33 (Addr.mk b32 0 none) (.int .i64 l27.2.2.2.2.1) fun w34=>
 LoadT (.agg [.int .i64,.int .i64,.sl,.sl]) w34 l27.2.1 fun x35=>
 LoadT (.sc (.int .i64)) w34 (Addr.mk b32 0 none) fun x36=>
 CallT Tryd.prog 64 #[(.agg #[(.int .i64 x35.1),(.int .i64 x35.2.1),(.slice x35.2.2.1.a x35.2.2.1.n x35.2.2.1.c),(.slice x35.2.2.2.1.a x35.2.2.2.1.n x35.2.2.2.1.c)]),(.int .i64 x36)] (.sc (.clo 88 2)) w34 (fun r37 w38=>
 RangeF Tryd.prog 88 #[] #[(.pointer (some r37.1)),(.pointer (some r37.2.1))] [.sc (.int .i64),.sc (.int .i64)] w38 (fun x41 w42 Kc43 Kx44=>
 (2:Int)≠0 ∧
 Br (((Int.tmod x41.1 2):Int) == 0)
 (LoadT (.sc .ptr) w42.drew l27.1 fun x48=>
 LoadT (.sc .sl) w42.drew l27.2.2.1 fun x49=>
 LoadT (.sc (.int .i64)) w42.drew (Addr.mk b32 0 none) fun x50=>
 Idx x49.a x49.n 1 x50 fun a51=>
 LoadT (.sc (.int .i64)) w42.drew a51 fun x52=>
 LoadT (.sc .sl) w42.drew l27.2.2.1 fun x53=>
 Idx x53.a x53.n 1 x41.2.1 fun a54=>
 LoadT (.sc (.int .i64)) w42.drew a54 fun x55=>
 CallN Tryd.prog 67 #[(.pointer x48),(.int .i64 x52),(.int .i64 x41.1),(.int .i64 x55)] [] w42.drew (fun r56 w57=>
 Kc43 w57) (fun h58 w57=>False))
 (Kc43 w42))
 (fun j45 d46 w47=>match j45 with
 | none=>
 I30 (l27.1,l27.2.1,l27.2.2.1,l27.2.2.2.1,(IntKind.wrap .i64 (l27.2.2.2.2.1+1)),()) (Fw.mark d46 :: d31) w47
 | some (.exit i)=>
 False
 | some .ret=>
 RetM (Fw.mark d46 :: d31) w47 fun z59=>
 R (.returned (.tuple #[])) z59
 | some _=>False)) (fun h39 w38=>RetM (d31) w38 fun z40=>R (.panicked h39) z40))
 (RetM (d31) w29 fun z60=>
 R (.returned (.tuple #[])) z60))
theorem fold_folding_graft.calls (p0:Option Addr)(p1_0:Int)(p1_1:Int)(p1_2:Sl)(p1_3:Sl)(p2:Int){R:Ending→World→Prop}{w:World}(h:fold_folding_graft.sh p0 p1_0 p1_1 p1_2 p1_3 p2 R w):Calls Tryd.prog 68 #[(.pointer p0),(.agg #[(.int .i64 p1_0),(.int .i64 p1_1),(.slice p1_2.a p1_2.n p1_2.c),(.slice p1_3.a p1_3.n p1_3.c)]),(.int .i64 p2)] w R:=calls_of_wpc mixed Tryd.func68 (by kernel_rfl) (by kernel_rfl) ((show _=wpc Tryd.prog fold_folding_graft.ann fold_folding_graft.body (fnKs Tryd.prog Tryd.f68 R) [] (env0 #[(.pointer p0),(.agg #[(.int .i64 p1_0),(.int .i64 p1_1),(.slice p1_2.a p1_2.n p1_2.c),(.slice p1_3.a p1_3.n p1_3.c)]),(.int .i64 p2)]) w by kernel_rfl).mp h)
noncomputable def fold_Conjugate.ann:Ann where
 loops:=fun | _=>[]
 joins:=fun | 10=>some [(4,.sc .adr),(6,.sc .adr),(10,.sc .ptr),(11,.sc (.int .i64))] | _=>none
noncomputable def fold_Conjugate.body:Code:=match Tryd.f38.body with | some c=>c | none=>.skip
def fold_Conjugate.sh (p0:Int)(p1_0:Int)(p1_1:Int)(p1_2:Sl)(p1_3:Sl)(p2:ByteArray)(R:Ending→World→Prop)(w:World):Prop:=
 New w (.cells #[(.int .i64 p1_0),(.int .i64 p1_1),(.slice p1_2.a p1_2.n p1_2.c),(.slice p1_3.a p1_3.n p1_3.c)] 27) fun b1 w2=>
 New w2 (.cells #[(.int .i64 0),(.int .i64 0),(.slice none 0 0),(.slice none 0 0)] 27) fun b3 w4=>
 LoadT (.agg [.int .i64,.int .i64,.sl,.sl]) w4 (Addr.mk b1 0 none) fun x5=>
 New w4 (.cells #[(.int .i64 x5.1),(.int .i64 x5.2.1),(.slice x5.2.2.1.a x5.2.2.1.n x5.2.2.1.c),(.slice x5.2.2.2.1.a x5.2.2.2.1.n x5.2.2.2.1.c)] 27) fun b6 w7=>
 New w7 (.cells #[(.string p2)] 9) fun b8 w9=>
 CallT Tryd.prog 55 #[(.int .i64 p0),(.slice (some (Addr.mk b6 0 none)) 1 1),(.slice (some (Addr.mk b8 0 none)) 1 1)] (.sc (.int .i64)) w9 (fun r10 w11=>
 Br ((r10:Int) != 0)
 (StoreN w11 (Addr.mk b3 0 none) [(.int .i64 0),(.int .i64 0),(.slice none 0 0),(.slice none 0 0)] fun w13=>
 LoadT (.agg [.int .i64,.int .i64,.sl,.sl]) w13 (Addr.mk b3 0 none) fun x14=>
 R (.returned (.tuple #[(.agg #[(.int .i64 x14.1),(.int .i64 x14.2.1),(.slice x14.2.2.1.a x14.2.2.1.n x14.2.2.1.c),(.slice x14.2.2.2.1.a x14.2.2.2.1.n x14.2.2.2.1.c)]),(.int .i64 r10)])) w13)
 (CallT Tryd.prog 48 #[(.string p2)] (.sc .str) w11 (fun r15 w16=>
 CallT Tryd.prog 46 #[(.int .i64 p0)] (.sc .ptr) w16 (fun r18 w19=>
 Join (σ:=Addr × Addr × Option Addr × Int × Unit) (fun j23 g22 w30=>
 LoadT (.agg [.int .i64,.int .i64,.sl,.sl]) w30 j23.1 fun x31=>
 CallN Tryd.prog 68 #[(.pointer j23.2.2.1),(.agg #[(.int .i64 x31.1),(.int .i64 x31.2.1),(.slice x31.2.2.1.a x31.2.2.1.n x31.2.2.1.c),(.slice x31.2.2.2.1.a x31.2.2.2.1.n x31.2.2.2.1.c)]),(.int .i64 j23.2.2.2.1)] [] w30 (fun r32 w33=>
 CallN Tryd.prog 49 #[(.pointer j23.2.2.1),(.int .i64 0)] [.agg [.int .i64,.int .i64,.sl,.sl],.sc (.int .i64)] w33 (fun r35 w36=>
 StoreN w36 j23.2.1 [(.int .i64 r35.1.1),(.int .i64 r35.1.2.1),(.slice r35.1.2.2.1.a r35.1.2.2.1.n r35.1.2.2.1.c),(.slice r35.1.2.2.2.1.a r35.1.2.2.2.1.n r35.1.2.2.2.1.c)] fun w38=>
 LoadT (.agg [.int .i64,.int .i64,.sl,.sl]) w38 j23.2.1 fun x39=>
 R (.returned (.tuple #[(.agg #[(.int .i64 x39.1),(.int .i64 x39.2.1),(.slice x39.2.2.1.a x39.2.2.1.n x39.2.2.1.c),(.slice x39.2.2.2.1.a x39.2.2.2.1.n x39.2.2.2.1.c)]),(.int .i64 r35.2.1)])) w38) (fun h37 w36=>R (.panicked h37) w36)) (fun h34 w33=>R (.panicked h34) w33)) fun J21=>
 Br (!(r15.toList == (ByteArray.mk #[]).toList))
 (CallT Tryd.prog 66 #[(.pointer r18)] (.sc (.int .i64)) w19 (fun r24 w25=>
 CallN Tryd.prog 47 #[(.pointer r18),(.int .i64 0),(.string r15),(.int .i64 r24)] [] w25 (fun r27 w28=>
 J21 ((Addr.mk b1 0 none),(Addr.mk b3 0 none),r18,r24,()) w28) (fun h29 w28=>R (.panicked h29) w28)) (fun h26 w25=>R (.panicked h26) w25))
 (J21 ((Addr.mk b1 0 none),(Addr.mk b3 0 none),r18,0,()) w19)) (fun h20 w19=>R (.panicked h20) w19)) (fun h17 w16=>R (.panicked h17) w16))) (fun h12 w11=>R (.panicked h12) w11)
theorem fold_Conjugate.calls (p0:Int)(p1_0:Int)(p1_1:Int)(p1_2:Sl)(p1_3:Sl)(p2:ByteArray){R:Ending→World→Prop}{w:World}(h:fold_Conjugate.sh p0 p1_0 p1_1 p1_2 p1_3 p2 R w):Calls Tryd.prog 38 #[(.int .i64 p0),(.agg #[(.int .i64 p1_0),(.int .i64 p1_1),(.slice p1_2.a p1_2.n p1_2.c),(.slice p1_3.a p1_3.n p1_3.c)]),(.string p2)] w R:=calls_of_wpc mixed Tryd.func38 (by kernel_rfl) (by kernel_rfl) ((show _=wpc Tryd.prog fold_Conjugate.ann fold_Conjugate.body (fnKs Tryd.prog Tryd.f38 R) [] (env0 #[(.int .i64 p0),(.agg #[(.int .i64 p1_0),(.int .i64 p1_1),(.slice p1_2.a p1_2.n p1_2.c),(.slice p1_3.a p1_3.n p1_3.c)]),(.string p2)]) w by kernel_rfl).mp h)
end Go.Proofs.YtffdjfkekdoeaaaDoor
end
section
namespace Go.Proofs.YtffdjfkekdoeaaaDoor.Fo
open Fw Wd Rf Pl
theorem Turn.chg {B:Nat}{V V':World}(t:Turn B V V'):Chg (fun k=>∃ r,V.heap[k]? = some (.loop r)) V V':=
 ⟨t.os,t.tape,t.output,t.size,fun k hk hs=>by
  have h:V.heap[k]? = some V.heap[k]:=Array.getElem?_eq_getElem hk;rw[h];exact t.keep k _ h fun r hr=>hs ⟨r,by rw[h,hr]⟩⟩
theorem Rep.foot_cells {w:World}{fb:Nat}{st:St}{M:Mem}(h:Fo.Rep w fb st M){k:Nat}(hk:M.foot fb k):∃ cur e,w.heap[k]? = some (.cells cur e (0,0))∧e≠76∧e≠27:=by
 rcases hk with rfl|hk|hk|hk|hk
 ·exact⟨_,_,h.head,by decide,by decide⟩
 ·obtain⟨c,hc⟩:=h.par.elem hk;exact⟨_,_,hc,by decide,by decide⟩
 ·obtain⟨c,hc⟩:=h.next.elem hk;exact⟨_,_,hc,by decide,by decide⟩
 ·obtain⟨c,hc⟩:=h.todo.elem hk;exact⟨_,_,hc,by decide,by decide⟩
 ·obtain⟨c,hc⟩:=h.rowElem hk;exact⟨_,_,hc,by decide,by decide⟩
theorem Rep.turn {B:Nat}{w w':World}{fb:Nat}{st:St}{M:Mem}(h:Fo.Rep w fb st M)(t:Turn B w w'):Fo.Rep w' fb st M:=
 h.chg (Turn.chg t) fun k hk ⟨r,hr⟩=>by obtain⟨c,e,hc,_⟩:=Rep.foot_cells h hk;rw[hc]at hr;cases hr
theorem Rep.keepL {w w':World}{fb:Nat}{st:St}{M:Mem}(h:Fo.Rep w fb st M)(hc:Chg (M.foot fb) w w'):KeepL w w':=
 KeepL.of' hc fun k hk=>by obtain⟨c,e,hc,_⟩:=Rep.foot_cells h hk;exact⟨_,hc,rfl⟩
theorem own_lit {w:World}{b n:Nat}{e:TypeId}{t:Ty}{cs:Array Value}{xs:List t.den}(h:w.heap[b]? = some (.cells cs e (0,0)))(hz:0<t.sz)(hc:cs.toList=xs.flatMap t.cells)(hn:n=xs.length)(hm:n≤maxLen):OwnT w e t ⟨some ⟨b,0,none⟩,n,n⟩ xs:=by
 have hl:cs.size=n*t.sz:=by
  have:=congrArg List.length hc;rw[flat_length]at this;rw[hn,← this];simp
 refine⟨⟨by rw[flat_length,← hn],.inr ⟨b,n,cs,rfl,Nat.zero_le _,h,Nat.le_refl _,hm,hl,?_⟩⟩,hn⟩
 rw[← hc,← hl];exact List.take_of_length_le (by simp)
def atN (start n0 s:Nat):Nat:=if s=0 then start else n0+(s-1)
def atL (start n0 j:Nat):List Int:=(List.range j).map fun s=>((atN start n0 s:Nat):Int)
theorem atL_succ (start n0 j:Nat):atL start n0 (j+1)=atL start n0 j ++ [((atN start n0 j:Nat):Int)]:=by
 unfold atL;rw[List.range_succ,List.map_append];rfl
theorem atL_get {start n0 j s:Nat}(h:s<j):(atL start n0 j)[s]? = some ((atN start n0 s:Nat):Int):=by
 unfold atL;rw[List.getElem?_map,List.getElem?_range h];rfl
theorem atL_len (start n0 j:Nat):(atL start n0 j).length=j:=by unfold atL;simp
def evR (f:Nat→Nat)(s:Nat)(l:List (Int × Int × Unit)):List Ed:=l.flatMap fun e=>if e.1.toNat % 2=0 then [(f s,e.1.toNat,f e.2.1.toNat)] else []
def grE (f:Nat→Nat)(next:List (List Int))(s:Nat):List Ed:=(List.range s).flatMap fun i=>evR f i (edgesFrom 0 (next.getD i []))
theorem evR_mem {f:Nat→Nat}{s:Nat}{l:List (Int × Int × Unit)}{e:Ed}:e∈evR f s l↔∃ x t u,(x,t,u)∈l∧x.toNat % 2=0∧e=(f s,x.toNat,f t.toNat):=by
 unfold evR;rw[List.mem_flatMap];constructor
 ·rintro⟨⟨x,t,u⟩,h1,h2⟩
  split at h2
  ·rename_i hp
   simp only[List.mem_singleton]at h2;exact⟨x,t,u,h1,hp,h2⟩
  ·simp at h2
 ·rintro⟨x,t,u,h1,h2,h3⟩
  exact⟨_,h1,by rw[if_pos h2];simp[h3]⟩
theorem grE_dir {k:Nat}(hk:k≤8){a:Aut}(hc:a.check (k:Int)=0)(f:Nat→Nat){u y v:Nat}:Dir (grE f a.next a.next.length) u y v↔∃ s x t,Dl (k:Int) a s x t∧u=f s∧y=x∧v=f t:=by
 have hA:=dl_aut (k:=(k:Int)) (by omega) hc
 obtain⟨_,_,n1,n2,_,_,hrows⟩:=check_spec hc;have ev:∀ {u y v:Nat},(u,y,v)∈grE f a.next a.next.length↔∃ s x t,Dl (k:Int) a s x t∧x % 2=0∧u=f s∧y=x∧v=f t:=fun {u y v}=>by
  unfold grE;rw[List.mem_flatMap];constructor
  ·rintro⟨s,hs,he⟩
   obtain⟨x,t,un,h1,h2,h3⟩:=evR_mem.1 he;have hs:=List.mem_range.1 hs;have hg:a.next.getD s []=a.next[s]:=getD_get hs;rw[hg]at h1;obtain⟨i,g1,g2,g3⟩:=Pl.edges_mem _ 0 _ h1;dsimp only at g1 g2 g3;have hlt:=(List.getElem?_eq_some_iff.1 g1).1;obtain⟨r1,r2⟩:=hrows _ (List.getElem_mem hs);simp only[Prod.mk.injEq]at h3;subst g2;rw[Nat.zero_add]at *;refine⟨s,i,t.toNat,⟨hs,by rw[Int.toNat_natCast];omega,?_⟩,by simpa using h2,h3.1,by simpa using h3.2.1,h3.2.2⟩
   unfold getN;rw[hg,List.getD_eq_getElem?_getD,g1]
   show t=_
   omega
  ·rintro⟨s,x,t,⟨h1,h2,h3⟩,h4,rfl,rfl,rfl⟩
   refine⟨s,List.mem_range.2 h1,evR_mem.2 ⟨(y:Int),(t:Int),(),?_,by simpa using h4,by simp⟩⟩
   obtain⟨row,g1,g2,g3,g4,g5⟩:=getN_row (k:=(k:Int)) hc h1 h2;have hg:a.next.getD s []=row:=by rw[List.getD_eq_getElem?_getD,g1];rfl
   rw[hg];have he:=edges_of row 0 y g2 (by rw[← g3,h3];omega)
   rw[Nat.zero_add,← g3,h3]at he;exact he
 constructor
 ·rintro(⟨h1,h2⟩|⟨h1,h2⟩)
  ·obtain⟨s,x,t,g1,g2,g3⟩:=ev.1 h2;exact⟨s,x,t,g1,g3⟩
  ·obtain⟨s,x,t,g1,g2,g3,g4,g5⟩:=ev.1 h2;have:=hA.inv _ _ _ g1;rw[Pl.xor1,if_pos g2]at this;exact⟨t,x+1,s,this,g5,by omega,g3⟩
 ·rintro⟨s,x,t,h1,rfl,rfl,rfl⟩
  by_cases hx:y % 2=0
  ·exact .inl ⟨hx,ev.2 ⟨s,y,t,h1,hx,rfl,rfl,rfl⟩⟩
  ·have:=hA.inv _ _ _ h1;rw[Pl.xor1,if_neg hx]at this;exact .inr ⟨by omega,ev.2 ⟨t,y-1,s,this,by omega,rfl,rfl,rfl⟩⟩
structure Gf (w0 w W:World)(rs:List Nat)(b1 b3 b7 fb:Nat)(M:Mem)(av:Array Value)(st1:St)(M1:Mem)(sat:Sl) (at':List Int):Prop where
 chg0:Chg Nil w0 W
 chg:Chg (M.foot fb) w W
 mks:Marks W rs
 mB:∀ r∈rs,w.heap.size≤r
 bB:w.heap.size≤b1∧w.heap.size≤b3∧w.heap.size≤b7
 c1:W.heap[b1]? = some (.cells #[.pointer (some (at0 fb))] 76 (0,0))
 c3:W.heap[b3]? = some (.cells av 27 (0,0))
 c7:W.heap[b7]? = some (.cells #[sat.v] 85 (0,0))
 rep:Fo.Rep W fb st1 M1
 foot:∀ k,M1.foot fb k→M.foot fb k∨w.heap.size≤k
 own:OwnT W 3 tI sat at'
 lo:∀ k,sat.own k→w.heap.size≤k
 ap:∀ k,M1.foot fb k→k≠b7∧¬ sat.own k
section
variable {w0 w W W':World} {rs:List Nat} {b1 b3 b7 fb:Nat} {M M1:Mem} {av:Array Value} {st1 st2:St} {sat:Sl} {at':List Int}
theorem Gf.cells (h:Gf w0 w W rs b1 b3 b7 fb M av st1 M1 sat at'):(∀ k,M1.foot fb k→k≠b1∧k≠b3)∧¬ sat.own b1∧¬ sat.own b3∧¬ sat.own b7:=by
 refine⟨fun k hk=>?_,fun ho=>?_,fun ho=>?_,fun ho=>?_⟩
 ·obtain⟨c,e,hc,n1,n2⟩:=Rep.foot_cells h.rep hk;exact⟨ne_of_elem hc h.c1 n1,ne_of_elem hc h.c3 n2⟩
 ·obtain⟨c,hc⟩:=h.own.elem ho;have:=h.c1;rw[hc]at this;cases this
 ·obtain⟨c,hc⟩:=h.own.elem ho;have:=h.c3;rw[hc]at this;cases this
 ·obtain⟨c,hc⟩:=h.own.elem ho;have:=h.c7;rw[hc]at this;cases this
theorem Gf.nil (h:Gf w0 w W rs b1 b3 b7 fb M av st1 M1 sat at')(hc:Chg Nil W W'):Gf w0 w W' rs b1 b3 b7 fb M av st1 M1 sat at':=
 { chg0:=h.chg0.then hc,chg:=h.chg.then hc.nil,mks:=h.mks.chg hc (fun _ _ h=>h),mB:=h.mB,bB:=h.bB,c1:=hc.heap h.c1 (fun h=>h),c3:=hc.heap h.c3 (fun h=>h),c7:=hc.heap h.c7 (fun h=>h)
   rep:=h.rep.nil hc,foot:=h.foot,own:=h.own.chg hc (fun _ _ h=>h),lo:=h.lo,ap:=h.ap }
theorem Gf.turn {B:Nat}(h:Gf w0 w W rs b1 b3 b7 fb M av st1 M1 sat at')(t:Turn B W W')(hB:w.heap.size≤B)(hw:Chg Nil w0 w):Gf w0 w W' rs b1 b3 b7 fb M av st1 M1 sat at':=by
 have hle:=hw.size;have c1:Chg (M.foot fb) w W':=⟨t.os.trans h.chg.os,t.tape.trans h.chg.tape,t.output.trans h.chg.output,Nat.le_trans h.chg.size t.size,fun k hk hs=>by
  rw[← h.chg.block k hk hs];exact t.old k (by omega) (Nat.lt_of_lt_of_le hk h.chg.size)⟩
 exact { chg0:=h.chg0.turn t (by omega),chg:=c1,mks:=h.mks.turn t,mB:=h.mB,bB:=h.bB,c1:=t.cells h.c1,c3:=t.cells h.c3,c7:=t.cells h.c7
         rep:=Rep.turn h.rep t,foot:=h.foot,own:=OwnT.turn h.own t,lo:=h.lo,ap:=h.ap }
theorem Gf.step (h:Gf w0 w W rs b1 b3 b7 fb M av st1 M1 sat at')(hw:Chg Nil w0 w)(hf0:∀ k,M.foot fb k→w0.heap.size≤k)(k:Fo.Step fb M1 W W' st2):∃ M2,Gf w0 w W' rs b1 b3 b7 fb M av st2 M2 sat at':=by
 obtain⟨⟨M2,hr2,hf2⟩,hc2⟩:=k;obtain⟨d1,d2,d3,d4⟩:=h.cells;have hle:=h.chg.size;have hlt:=h.own.lt
 refine⟨M2,{ chg0:=h.chg0.trans hc2 (fun _ _ h=>h) (fun i hi hk=>?_),chg:=h.chg.trans hc2 (fun _ _ h=>h) (fun i hi hk=>?_),mks:=h.mks.chg hc2 (fun r hr hk=>?_),mB:=h.mB,bB:=h.bB
             c1:=hc2.heap h.c1 (fun hk=>(d1 _ hk).1 rfl),c3:=hc2.heap h.c3 (fun hk=>(d1 _ hk).2 rfl),c7:=hc2.heap h.c7 (fun hk=>(h.ap _ hk).1 rfl)
             rep:=hr2,foot:=fun k hk=>?_,own:=h.own.chg hc2 (fun a ha hk=>(h.ap _ hk).2 ⟨a,ha,rfl⟩),lo:=h.lo,ap:=fun k hk=>?_ }⟩
 ·rcases h.foot i hk with h1|h1
  ·have:=hf0 i h1;omega
  ·have:=hw.size;omega
 ·rcases h.foot i hk with h1|h1
  ·exact h1
  ·omega
 ·obtain⟨c,e,hc,_⟩:=Rep.foot_cells h.rep hk;have:=h.mks.2 r hr;rw[hc]at this;cases this
 ·rcases hf2 k hk with h1|h1
  ·exact h.foot k h1
  ·exact .inr (by omega)
 ·rcases hf2 k hk with h1|h1
  ·exact h.ap k h1
  ·have l7:=lt_of_heap h.c7;refine⟨by omega,fun⟨a,ha,he⟩=>?_⟩
   have:=hlt a ha;omega
theorem Gf.mark (h:Gf w0 w W rs b1 b3 b7 fb M av st1 M1 sat at'){d:Nat}(hd:W.heap[d]? = some (.deferred (some [])))(hB:w.heap.size≤d)(hn:d ∉ rs):Gf w0 w W (d :: rs) b1 b3 b7 fb M av st1 M1 sat at':=
 { h with mks:=h.mks.cons hd hn,mB:=fun r hr=>by rcases List.mem_cons.1 hr with rfl | hr;exact hB;exact h.mB r hr }
end
theorem graft_ret {w0 w:World}{fb:Nat}{st:St}{M:Mem}(h:Fo.Rep w fb st M)(hw:Chg Nil w0 w)(hf0:∀ k,M.foot fb k→w0.heap.size≤k){E:List Edg}(hI:Pl.Inv E st)(hB:Both E){k:Nat}(hk:1≤k∧k≤8)(hm:st.m=2*k)
  {x:Int × Int × Sl × Sl × Unit} {a:Aut} (ha:AutIn w0 x a) (hc:a.check (k:Int)=0) {start:Nat} (hst:start<st.par.length) (hsz:st.par.length≤1000000) :
  RetN Tryd.prog 68 #[.pointer (some (at0 fb)),.agg #[.int .i64 x.1,.int .i64 x.2.1,x.2.2.1.v,x.2.2.2.1.v],.int .i64 (start:Int)] [] w fun _ w'=>
   ∃ E' st',Fo.Step fb M w w' st'∧Pl.Inv E' st'∧Both E'∧st'.m=st.m∧st'.par.length=st.par.length+(a.next.length-1) ∧
    ∀ u y v,(u,y,v)∈E'↔(u,y,v)∈E∨∃ s x t,Dl (k:Int) a s x t∧u=atN start st.par.length s∧y=x∧v=atN start st.par.length t:=by
 obtain⟨x1,x2,sa,sn,_⟩:=x;obtain⟨_,_,hn1,hn2,hla,_,hrows⟩:=check_spec hc;refine fold_folding_graft.calls _ x1 x2 sa sn (start:Int) ?_;unfold fold_folding_graft.sh;refine New.mk fun b1 w1 hb1 hh1 hs1 hc1=>?_
 refine New.mk fun b3 w2 hb3 hh3 hs3 hc3=>?_
 refine New.mk fun b5 w3 hb5 hh5 hs5 hc5=>?_
 refine New.mk fun b7 w4 hb7 hh7 hs7 hc7=>?_
 refine Store1.at0' hh7 (by show 0<1;decide) rfl fun w5 hh7' hc7' hsz7=>?_
 have hnn:sn.n=a.next.length:=by obtain⟨_,_,_,sls,h4,h5,_⟩:=ha.rd;rw[h4.len,h5]
 generalize hav:(#[.int .i64 x1,.int .i64 x2,.slice sa.a sa.n sa.c,.slice sn.a sn.n sn.c]:Array Value)=av at *;have e7:∀ j,j<b7→¬ (j=b7):=fun j hj he=>by omega
 have l1:=lt_of_heap hh1;have l3:=lt_of_heap hh3;have l5:=lt_of_heap hh5;have hN5:Chg Nil w w5:=(((hc1.then hc3).then hc5).then hc7).trans hc7' (fun _ _ h=>h) fun i hi he=>by have he:i=b7:=he;omega
 have hown:OwnT w5 3 tI ⟨some ⟨b5,0,none⟩,1,1⟩ (atL start st.par.length 1):=by
  have h4:OwnT w4 3 tI ⟨some ⟨b5,0,none⟩,1,1⟩ (atL start st.par.length 1):=by
   exact own_lit (t:=tI) (hc7.heap hh5 fun h=>h) (by decide) rfl rfl (by decide)
  exact h4.chg hc7' fun ad had he=>by cases had;exact e7 b5 (by omega) he
 have hG0:Gf w0 w w5 [] b1 b3 b7 fb M av st M ⟨some ⟨b5,0,none⟩,1,1⟩ (atL start st.par.length 1):=by
  have hlt:=Fo.Rep.lt h
  exact { chg0:=hw.then hN5,chg:=hN5.nil,mks:=⟨List.nodup_nil,fun r hr=>by simp at hr⟩,mB:=by simp,bB:=by omega
          c1:=hc7'.heap (hc7.heap (hc5.heap (hc3.heap hh1 fun h=>h) fun h=>h) fun h=>h) (e7 _ (by omega))
          c3:=hc7'.heap (hc7.heap (hc5.heap hh3 fun h=>h) fun h=>h) (e7 _ (by omega)),c7:=hh7',rep:=h.nil hN5,foot:=fun _ h=>.inl h,own:=hown
          lo:=fun j hj=>by obtain⟨ad,had,he⟩:=hj;cases had;dsimp only at he;omega
          ap:=fun j hj=>by have:=hlt j hj;exact⟨by omega,fun⟨ad,had,he⟩=>by cases had;dsimp only at he;omega⟩ }
 clear hown hh7' hh7 hh5 hh3 hh1 hc7' e7;refine LoadT.sc (s:=.sl) (x:=sn) (by rw[cellOf hG0.c3,← hav];rfl) ?_
 have hw1:IntKind.wrap .i64 (((sn.n:Nat):Int)-1)=((a.next.length-1:Nat):Int):=by rw[hnn,wrap64 (by omega) (by omega)];omega
 rw[hw1]
 -- the states
 refine LoopT.mk (fun y W=>∃ (j:Nat) (st1:St) (M1:Mem) (sat:Sl),j≤a.next.length-1∧y=(at0 b1,at0 b3,at0 b7,((a.next.length-1:Nat):Int),(j:Int),())∧Gf w0 w W [] b1 b3 b7 fb M av st1 M1 sat (atL start st.par.length (j+1)) ∧
   Pl.Inv E st1∧st1.m=st.m∧st1.par.length=st.par.length+j) (fun y _=>a.next.length-1-y.2.2.2.2.1.toNat) ⟨0,st,M,_,Nat.zero_le _,rfl,hG0,hI,rfl,rfl⟩ ?_
 clear hG0
 rintro y g W ⟨j,st1,M1,sat,hj,rfl,hG,hI1,hm1,hp1⟩
 dsimp only;refine Br.dec (fun hlt=>?_) (fun hge=>?_)
 ·have hlt':j<a.next.length-1:=by omega
  have hGd:=hG.nil (Chg.drew W);obtain⟨st2,hs2,hI2,hm2,hp2⟩:=state_ev hI1 (by unfold big;omega)
  have hSl:∀ U:World,(U.heap[b7]? = some (.cells #[sat.v] 85 (0,0))∧U.heap[b1]? = some (.cells #[.pointer (some (at0 fb))] 76 (0,0)))→U.cell? (at0 b7)=some (.slice sat.a sat.n sat.c)∧U.cell? (at0 b1)=some (.pointer (some (at0 fb))):=fun U hU=>⟨by rw[cellOf0 hU.1];rfl,by rw[cellOf0 hU.2];rfl⟩
  refine⟨fun U:World=>U.heap[b7]? = some (.cells #[sat.v] 85 (0,0))∧U.heap[b1]? = some (.cells #[.pointer (some (at0 fb))] 76 (0,0)),⟨hGd.c7,hGd.c1⟩,?_⟩
  refine LoadS.sc (s:=.sl) (x:=sat) (fun U hU=>(hSl U hU).1) ?_
  refine LoadS.sc (s:=.ptr) (x:=some (at0 fb)) (fun U hU=>(hSl U hU).2) ?_
  refine Ret.call (state_ret hGd.rep hs2) ?_
  rintro _ W1 ⟨rfl,hst1⟩
  obtain⟨M2,hG1⟩:=hGd.step hw hf0 hst1;refine⟨⟨hG1.c7,hG1.c1⟩,?_⟩;refine New.mk fun b21 W2 hb21 hn21 _ hc21=>?_
  have hG2:=hG1.nil hc21;refine⟨⟨hG2.c7,hG2.c1⟩,?_⟩;have hle2:=hG2.chg.size;have hsl:(atL start st.par.length (j+1)).length=j+1:=atL_len _ _ _;refine OwnT.append (t:=tI) (m:=1) ok85 rfl (by decide) hG2.own [((st1.par.length:Nat):Int)] rfl (by decide) (fun i v hv=>by rw[cellOf hn21];simpa[Ty.cells] using hv) (by rw[hsl];omega) (by rw[hsl];simp only[maxLen];omega) fun sat' W3 ho3 hc3' hown3=>?_
  obtain⟨d1,d2,d3,d4⟩:=hG2.cells;have hb7:W3.heap[b7]? = some (.cells #[sat.v] 85 (0,0)):=hc3'.heap hG2.c7 d4;have hb1':W3.heap[b1]? = some (.cells #[.pointer (some (at0 fb))] 76 (0,0)):=hc3'.heap hG2.c1 d2;refine⟨⟨hb7,hb1'⟩,?_⟩;refine Store1.at0' hb7 (by show 0<1;decide) rfl fun W4 hb7' hc4 _=>?_
  have hle:=hG2.chg.size;have hlt7:=lt_of_heap hG2.c7;have hol:=hG2.own.lt;have hn7:∀ i,sat'.own i→i≠b7:=fun i hi he=>by
   rcases hown3 i hi with h1|h1
   ·exact d4 (he ▸ h1)
   ·omega
  have hfo:∀ i,M2.foot fb i→i≠b7∧¬ sat'.own i:=fun i hi=>⟨(hG2.ap i hi).1,fun ho=>by
   rcases hown3 i ho with h1|h1
   ·exact(hG2.ap i hi).2 h1
   ·have:=Fo.Rep.lt hG2.rep i hi;omega⟩
  have hat:atL start st.par.length (j+1) ++ [((st1.par.length:Nat):Int)]=atL start st.par.length (j+1+1):=by
   rw[atL_succ start st.par.length (j+1)]
   congr 2
   unfold atN;rw[if_neg (by omega),hp1];simp
  have hG4:Gf w0 w W4 [] b1 b3 b7 fb M av st2 M2 sat' (atL start st.par.length (j+1+1)):=by
   have ho4:OwnT W4 3 tI sat' (atL start st.par.length (j+1+1)):=by rw[← hat];exact ho3.chg hc4 fun ad had he=>hn7 _ ⟨ad,had,rfl⟩ he
   have hw2:=hw.size
   exact { chg0:=(hG2.chg0.trans hc3' (fun _ _ h=>h) fun i hi ho=>by have:=hG2.lo i ho;omega).trans hc4 (fun _ _ h=>h) fun i hi he=>by have he:i=b7:=he;have:=hG2.bB.2.2;omega
           chg:=(hG2.chg.trans hc3' (fun _ _ h=>h) fun i hi ho=>by have:=hG2.lo i ho;omega).trans hc4 (fun _ _ h=>h) fun i hi he=>by have he:i=b7:=he;have:=hG2.bB.2.2;omega
           mks:=⟨List.nodup_nil,fun r hr=>by simp at hr⟩,mB:=by simp,bB:=hG2.bB
           c1:=hc4.heap hb1' fun he=>by have he:b1=b7:=he;have:=hG2.c1;rw[he,hG2.c7]at this;cases this
           c3:=hc4.heap (hc3'.heap hG2.c3 d3) fun he=>by have he:b3=b7:=he;have:=hG2.c3;rw[he,hG2.c7]at this;cases this
           c7:=hb7',rep:=(hG2.rep.chg hc3' fun i hi ho=>(hG2.ap i hi).2 ho).chg hc4 fun i hi he=>(hG2.ap i hi).1 he
           foot:=hG2.foot,own:=ho4
           lo:=fun i hi=>by
            rcases hown3 i hi with h1|h1
            ·exact hG2.lo i h1
            ·omega
           ap:=hfo }
  rw[wrap64 (x:=(j:Int)+1) (by omega) (by omega)]
  refine⟨⟨j+1,st2,M2,sat',hlt',rfl,hG4,hI2,by rw[hm2,hm1],by omega⟩,?_⟩
  show a.next.length-1-(j+1)<a.next.length-1-j
  omega
 have hjl:j=a.next.length-1:=by have:¬ (j:Int)<((a.next.length-1:Nat):Int):=hge;omega
 subst hjl;have hn0:a.next.length-1+1=a.next.length:=by omega
 rw[hn0]at hG;refine LoadT.sc (s:=.sl) (x:=sn) (by rw[cellOf hG.c3,← hav];rfl) ?_
 -- the transitions
 have hbase:st1.par.length≤1002000:=by omega
 refine⟨fun y ds V=>∃ (s:Nat) (rs:List Nat) (st2:St) (M2:Mem) (E2:List Edg),s≤a.next.length∧y=(at0 b1,at0 b3,at0 b7,((sn.n:Nat):Int),(s:Int),())∧ds=marksOf rs∧Gf w0 w V rs b1 b3 b7 fb M av st2 M2 sat (atL start st.par.length a.next.length) ∧
   Pl.Inv E2 st2∧Both E2∧st2.m=st.m∧st2.par.length=st1.par.length∧∀ u y v,(u,y,v)∈E2↔(u,y,v)∈E∨Dir (grE (atN start st.par.length) a.next s) u y v,fun y _=>a.next.length-y.2.2.2.2.1.toNat,
  ⟨0,[],st1,M1,E,Nat.zero_le _,rfl,rfl,hG,hI1,hB,hm1,rfl,fun u y v=>by simp[grE,Dir]⟩,?_⟩
 clear hG hI1
 rintro y ds g2 V ⟨s,rs,st2,M2,E2,hs,rfl,rfl,hG,hI2,hB2,hm2,hp2,hE2⟩
 dsimp only;refine Br.dec (fun hlt=>?_) (fun hge=>?_)
 ·have hlt':s<a.next.length:=by omega
  have hrow':a.next[s]? = some a.next[s]:=List.getElem?_eq_getElem hlt';generalize hR:a.next[s]=row at hrow';have hgetS:a.next.getD s []=row:=by rw[List.getD_eq_getElem?_getD,hrow'];rfl
  obtain⟨hrlen,hrval⟩:=hrows row (List.mem_of_getElem? hrow');refine New.mk fun b32 V1 hb32 hh32 hs32 hc32=>?_
  refine Store1.at0' hh32 (by show 0<1;decide) rfl fun V2 hh32' hc32' hsz32=>?_
  have hN2:Chg Nil V V2:=hc32.trans hc32' (fun _ _ h=>h) fun i hi he=>by have he:i=b32:=he;omega
  have hG2:=hG.nil hN2;refine LoadT.mk (.agg [.int .i64,.int .i64,.sl,.sl]) (x:=(x1,x2,sa,sn,())) (fun j v hv=>by rw[show at0 b3=Addr.mk b3 0 none from rfl,cellOf hG2.c3,← hav];simpa[Ty.cells] using hv) ?_
  refine LoadT.sc (s:=.int .i64) (x:=(s:Int)) (by rw[cellOf0 hh32'];rfl) ?_
  refine Ret.call (edges_ret (v0:=x1) (v1:=x2) (sa:=sa) (sn:=sn) (s:Int)) ?_
  rintro _ V3 ⟨q1,q3,rfl,hq1,hq3,hc23,hB1,hB3⟩
  have hq1:V3.heap[q1]? = some (.cells av 27 (0,0)):=by rw[← hav];exact hq1
  have hG3:=hG2.nil hc23;have hh32'':=hc23.heap hh32' fun h=>h
  obtain⟨_,_,_,sls,hrn0,hsl,hrws0,_⟩:=ha.rd;have hrn0:RdT w0 (.sc .sl) sn sls:=hrn0;obtain⟨rsl,hrsl⟩:∃ rsl,sls[s]? = some rsl:=⟨_,List.getElem?_eq_getElem (by rw[hsl];exact hlt')⟩
  have hrr:=hrws0 s rsl row hrsl hrow';have hsz3:w.heap.size≤V3.heap.size:=hG3.chg.size;have lv3:=Fo.Rep.lt hG3.rep
  -- these cells no folding touches
  have hap3:∀ i,M2.foot fb i→i≠b32∧i≠q1∧i≠q3:=fun i hi=>by
   have:=Fo.Rep.lt hG.rep i hi;have:=hN2.size;have:=hc32.size;omega
  refine⟨edgesFrom 0 row,_,fun i U=>∃ (st3:St) (M3:Mem) (E3:List Edg),Gf w0 w U rs b1 b3 b7 fb M av st3 M3 sat (atL start st.par.length a.next.length)∧U.heap[b32]? = some (.cells #[.int .i64 (s:Int)] 3 (0,0))∧U.heap[q1]? = some (.cells av 27 (0,0))∧U.heap[q3]? = some (.cells #[.int .i64 (s:Int)] 3 (0,0)) ∧
    (∀ i,M3.foot fb i→i≠b32∧i≠q1∧i≠q3)∧Pl.Inv E3 st3∧Both E3∧st3.m=st.m∧st3.par.length=st1.par.length∧∀ u y v,(u,y,v)∈E3↔(u,y,v)∈E∨Dir (grE (atN start st.par.length) a.next s ++ evR (atN start st.par.length) s ((edgesFrom 0 row).take i)) u y v,
   fun c U=>False,edges_gives (q0:=at0 q1) (q1:=at0 q3) (sn:=sn) (rsl:=rsl) (sls:=sls) (s:=s) (row:=row) (by omega),?_,?_,?_,?_,?_,?_,?_⟩
  ·rintro i U ⟨st3,M3,E3,v1,v2,v3,v4,_⟩
   exact⟨by rw[cellOf v3,← hav];rfl,by rw[cellOf0 v4];rfl,hrn0.chg v1.chg0 (fun _ _ h=>h),hrsl,hrr.chg v1.chg0 (fun _ _ h=>h)⟩
  ·rintro i U U' ⟨st3,M3,E3,v1,v2,v3,v4,v5⟩ ht
   exact⟨st3,M3,E3,v1.turn ht hsz3 hw,ht.cells v2,ht.cells v3,ht.cells v4,v5⟩
  ·rintro c U U' hf ht
   exact hf
  ·exact⟨st2,M2,E2,hG3,hh32'',hq1,hq3,hap3,hI2,hB2,hm2,hp2,fun u y v=>by rw[hE2];simp[evR]⟩
  ·rintro i ⟨ex,et,eu⟩ U hx ⟨st3,M3,E3,hU,u32,uq1,uq3,hap,hI3,hB3',hm3,hp3,hE3⟩
   obtain⟨e1,e2,e3,e4⟩:=Fo.edges_mem row 0 ex et eu (List.mem_of_getElem? hx);have e6:=hrval et e2;obtain⟨nt,rfl⟩:=Int.eq_ofNat_of_zero_le e1;obtain⟨nx,rfl⟩:=Int.eq_ofNat_of_zero_le e3;have htake:(edgesFrom 0 row).take (i+1)=(edgesFrom 0 row).take i ++ [((nx:Int),(nt:Int),eu)]:=by rw[List.take_add_one,hx];rfl
   have hev:evR (atN start st.par.length) s ((edgesFrom 0 row).take (i+1))=evR (atN start st.par.length) s ((edgesFrom 0 row).take i) ++ (if nx % 2=0 then [(atN start st.par.length s,nx,atN start st.par.length nt)] else []):=by
    rw[htake];unfold evR;rw[List.flatMap_append];simp
   have hmod:Int.tmod (nx:Int) 2=((nx % 2:Nat):Int):=by
    rw[Int.tmod_eq_emod_of_nonneg (by omega)];omega
   refine⟨by decide,?_⟩
   dsimp only;rw[hmod];refine Br.mk (fun heven=>?_) (fun hodd=>?_)
   ·have heven:nx % 2=0:=by have:((nx % 2:Nat):Int)=0:=by simpa using heven
                            omega
    have hUd:=hU.nil (Chg.drew U);have ud32:U.drew.heap[b32]? = some (.cells #[.int .i64 (s:Int)] 3 (0,0)):=u32;refine LoadT.sc (s:=.ptr) (x:=some (at0 fb)) (by rw[show at0 b1=Addr.mk b1 0 none from rfl,cellOf0 hUd.c1];rfl) ?_
    refine LoadT.sc (s:=.sl) (x:=sat) (by rw[show at0 b7=Addr.mk b7 0 none from rfl,cellOf0 hUd.c7];rfl) ?_
    refine LoadT.sc (s:=.int .i64) (x:=(s:Int)) (by rw[cellOf0 ud32];rfl) ?_
    refine hUd.own.rd.get (t:=tI) s rfl (atL_get hlt') ?_;refine LoadT.sc (s:=.sl) (x:=sat) (by rw[show at0 b7=Addr.mk b7 0 none from rfl,cellOf0 hUd.c7];rfl) ?_
    refine hUd.own.rd.get (t:=tI) nt rfl (atL_get (by omega)) ?_
    have hxm:nx<st3.m:=by rw[hm3,hm];omega
    have hxm1:nx ^^^ 1<st3.m:=by rw[hm3,hm];exact Pl.xor_lt hk.2 (by omega)
    have hatlt:∀ q,q<a.next.length→atN start st.par.length q<st3.par.length:=fun q hq=>by
     unfold atN;split <;> omega
    have hmul:st3.par.length*(st3.m+1)≤1002000*17:=Nat.mul_le_mul (by omega) (by omega)
    obtain⟨st4,⟨K,hl4⟩,hI4,hm4,hp4⟩:=link_ev hI3 (hatlt s hlt') (hatlt nt (by omega)) hxm hxm1 (by unfold big;omega)
    refine RetN.call (link_ret hUd.rep (hl4 K (Nat.le_refl _))) fun _ U1 hs4=>?_
    have hst4:=hs4.step;obtain⟨M4,hU1⟩:=hUd.step hw hf0 hst4;have hkeep:KeepL U U1:=by
     have k1:=Rep.keepL hUd.rep hst4.chg;intro q o hq ho;exact k1 q o hq ho
    obtain⟨⟨M5,hr5,hf5⟩,hc5'⟩:=hst4;have hap5:∀ i,M5.foot fb i→i≠b32∧i≠q1∧i≠q3:=fun i hi=>by
     rcases hf5 i hi with h1|h1
     ·exact hap i h1
     ·have:=lt_of_heap ud32;have:=lt_of_heap (show U.drew.heap[q1]? = _ from uq1)
      have:=lt_of_heap (show U.drew.heap[q3]? = _ from uq3)
      omega
    have hns:∀ {q o},U.heap[q]? = some o→(q=b32∨q=q1∨q=q3)→U1.heap[q]? = some o:=fun {q o} hq hor=>hc5'.heap (w:=U.drew) hq fun hfo=>by
     obtain⟨n1,n2,n3⟩:=hap q hfo;rcases hor with h|h|h
     ·exact n1 h
     ·exact n2 h
     ·exact n3 h
    have hU5:Gf w0 w U1 rs b1 b3 b7 fb M av st4 M5 sat (atL start st.par.length a.next.length):=by
     obtain⟨d1,d2,d3,d4⟩:=hUd.cells;have hl7:=lt_of_heap hUd.c7;have hol:=hUd.own.lt;have hsz:=hUd.chg.size
     exact { chg0:=hU1.chg0,chg:=hU1.chg,mks:=hU1.mks,mB:=hU1.mB,bB:=hU1.bB,c1:=hU1.c1,c3:=hU1.c3,c7:=hU1.c7,rep:=hr5
             foot:=fun i hi=>by
              rcases hf5 i hi with h1|h1
              ·exact hUd.foot i h1
              ·exact .inr (by omega)
             own:=hU1.own,lo:=hU1.lo
             ap:=fun i hi=>by
              rcases hf5 i hi with h1|h1
              ·exact hUd.ap i h1
              ·exact⟨by omega,fun⟨ad,had,he⟩=>by have:=hol ad had;omega⟩ }
    refine⟨hkeep,st4,M5,_,hU5,hns u32 (.inl rfl),hns uq1 (.inr (.inl rfl)),hns uq3 (.inr (.inr rfl)),hap5,hI4,Both.app (Both.pair _ _ _) hB3',by rw[hm4,hm3],by rw[hp4,hp3],fun u y v=>?_⟩
    rw[hev,if_pos heven,← List.append_assoc];have hdd:=dir_app (es:=grE (atN start st.par.length) a.next s ++ evR (atN start st.par.length) s ((edgesFrom 0 row).take i)) (es':=[(atN start st.par.length s,nx,atN start st.par.length nt)]) (s:=u) (x:=y) (t:=v);rw[hdd];have hone:Dir [(atN start st.par.length s,nx,atN start st.par.length nt)] u y v↔((u,y,v)=(atN start st.par.length s,nx,atN start st.par.length nt)∨(u,y,v)=(atN start st.par.length nt,nx ^^^ 1,atN start st.par.length s)):=by
     have hx1:nx ^^^ 1=nx+1:=by rw[Pl.xor1,if_pos heven]
     simp only[Dir,List.mem_singleton,Prod.mk.injEq];constructor
     ·rintro(⟨p,q⟩|⟨p,q⟩)
      ·exact .inl q
      ·exact .inr ⟨by omega,by omega,by omega⟩
     ·rintro(⟨p1,p2,p3⟩|⟨p1,p2,p3⟩)
      ·exact .inl ⟨by omega,p1,p2,p3⟩
      ·exact .inr ⟨by omega,p3,by omega,p1⟩
    rw[hone];simp only[List.mem_cons,hE3];constructor
    ·rintro(p|p|p|p)
     ·exact .inr (.inr (.inl p))
     ·exact .inr (.inr (.inr p))
     ·exact .inl p
     ·exact .inr (.inl p)
    ·rintro(p|p|p|p)
     ·exact .inr (.inr (.inl p))
     ·exact .inr (.inr (.inr p))
     ·exact .inl p
     ·exact .inr (.inl p)
   ·have hodd:¬ nx % 2=0:=fun he=>by rw[he]at hodd;simp at hodd
    refine⟨fun q o hq _=>hq,st3,M3,E3,hU,u32,uq1,uq3,hap,hI3,hB3',hm3,hp3,fun u y v=>?_⟩
    rw[hev,if_neg hodd,List.append_nil];exact hE3 u y v
  ·rintro d U hd hlo ⟨st3,M3,E3,hU,u32,uq1,uq3,hap,hI3,hB3',hm3,hp3,hE3⟩
   have hnr:d ∉ rs:=fun hr=>by have:=lt_of_heap (hG3.mks.2 d hr);omega
   rw[wrap64 (x:=(s:Int)+1) (by omega) (by omega)]
   refine⟨⟨s+1,d :: rs,st3,M3,E3,hlt',rfl,rfl,hU.mark hd (by omega) hnr,hI3,hB3',hm3,hp3,fun u y v=>?_⟩,?_⟩
   ·rw[hE3,List.take_length];have:grE (atN start st.par.length) a.next (s+1)=grE (atN start st.par.length) a.next s ++ evR (atN start st.par.length) s (edgesFrom 0 row):=by
     unfold grE;rw[List.range_succ,List.flatMap_append,List.flatMap_cons,List.flatMap_nil,List.append_nil,hgetS]
    rw[this]
   ·show a.next.length-(s+1)<a.next.length-s
    omega
  ·rintro c d U hd hlo hf
   exact hf.elim
 ·have hsn:s=a.next.length:=by omega
  subst hsn;refine retM_marks rs V hG.mks fun V' hc'=>⟨(),rfl,E2,st2,?_,hI2,hB2,hm2,by rw[hp2,hp1],fun u y v=>?_⟩
  ·have hcr:Chg (M.foot fb) w V':=hG.chg.trans hc' (fun _ _ h=>h) fun i hi hr=>by have:=hG.mB i hr;omega
   refine⟨⟨M2,hG.rep.chg hc' fun i hi hr=>?_,hG.foot⟩,hcr⟩
   obtain⟨c,e,hcc,_⟩:=Rep.foot_cells hG.rep hi;have:=hG.mks.2 i hr;rw[hcc]at this;cases this
  ·rw[hE2,grE_dir hk.2 hc]
theorem foldedD_len {k v:Nat}(hk:k≤8){δ:Nat→Nat→Nat→Prop}{R:List Row}(h:FoldedD k δ v (some R)):R.length≤2000∧∀ r∈R,r.length≤16:=by
 obtain⟨E,st,rows',_,i1,i2,i3,i4,i5⟩:=h.ok;obtain⟨⟨K,h1⟩,h2⟩:=i5.yes _ rfl;refine⟨h2,fun r hr=>?_⟩
 have:=numG_rows (m:=2*k) (fun v=>?_) K 0 _ [] _ (by simp) h1 r hr
 ·omega
 ·unfold rowOf;split
  ·rename_i row hrow
   exact Nat.le_of_eq (i5.wf.len _ _ hrow)
  ·simp
def Fresh (B:Nat)(W:World)(x:tA.den)(a:Aut):Prop:=∀ (W':World)(S:Nat→Prop),Chg S W W'→(∀ k,S k→k<B)→AutIn W' x a
theorem made_lang {w0 w:World}{fb:Nat}{st:St}{M:Mem}(h:Fo.Rep w fb st M)(hw:Chg Nil w0 w)(hf0:∀ k,M.foot fb k→w0.heap.size≤k){E:List Edg}(hI:Pl.Inv E st)(hB:Both E){k:Nat}(hk:1≤k∧k≤8)(hm:st.m=2*k)
  {v:Nat} (hv:v<st.par.length) (hsz:st.par.length≤10000000) :
  RetN Tryd.prog 49 #[.pointer (some (at0 fb)),.int .i64 (v:Int)] [tA,tI] w fun y w'=>∃ o,FoldedD k (Er E) v o∧Chg Nil w0 w'∧Chg (M.foot fb) w w'∧Fresh w.heap.size w' y.1 (autR (resOf (2*k) o)).1∧y.2.1=(autR (resOf (2*k) o)).2:=by
 have hmul:st.par.length*(st.m+1)≤10000000*17:=Nat.mul_le_mul hsz (by omega)
 obtain⟨o,rows',⟨K,b1⟩,b2⟩:=made_ev (s:=v) hI hB (fun x hx=>by rw[hm]at hx ⊢;exact Pl.xor_lt hk.2 hx) hv (by unfold big;omega)
 rw[hm]at b2;have hF:FoldedD k (Er E) v o:=⟨E,st,rows',fun _ _ _=>Iff.rfl,hI,hB,hm,hv,b2⟩
 refine Calls.mono (made_ret h (by rw[hI.ok.len];unfold big;omega) (by omega) (b1 K (Nat.le_refl _))) ?_
 rintro e w' ⟨hc,he⟩
 have hc0:Chg Nil w0 w':=hw.trans hc (fun _ _ h=>h) fun i hi hk=>by have:=hf0 i hk;omega
 cases o with
 | none=>
  have he:e=_:=he;subst he;exact⟨((0,0,⟨none,0,0⟩,⟨none,0,0⟩,()),2,()),rfl,none,hF,hc0,hc,fun W' _ _ _=>autIn_zero W',rfl⟩
 | some R=>
  obtain⟨sa,sn,rfl,hA⟩:=he;obtain⟨h1,h2⟩:=foldedD_len hk.2 hF;rw[hm];exact⟨((((2*k:Nat):Int),0,sa,sn,()),0,()),rfl,some R,hF,hc0,hc,fun W' S hS hlt=>autIn_of (hA.chg hS fun q hq hs=>by have:=hlt q hs;omega) h1 h2,rfl⟩
theorem exam_two {k:Int}{a b:Aut}(hk:1≤k∧k≤8):examF k [a,b] []=0↔a.check k=0∧b.check k=0:=by
 unfold examF;rw[if_neg (by simpa using hk)]
 by_cases h1:a.check k=0
 ·by_cases h2:b.check k=0
  ·simp[h1,h2]
  ·simp[h1,h2]
 ·simp[h1]
theorem exam_rank {k:Int}{l:List Aut}{ws:List ByteArray}(h:examF k l ws=0):1≤k∧k≤8:=by
 unfold examF at h;split at h
 ·cases h
 ·rename_i hk
  exact Classical.byContradiction fun hh=>hk hh
theorem stall_rows {k K:Nat}{es:List Ed}{res:List Row}(h:stallF k K es=some res):∀ r∈res,r.length=2*k:=by
 unfold stallF at h;split at h
 ·cases h
 split at h
 ·cases h
 exact numE_rows _ _ _ _ res (by simp) h
abbrev tL:Ty:=.sc .sl
end Go.Proofs.YtffdjfkekdoeaaaDoor.Fo
end
section
namespace Go.Proofs.YtffdjfkekdoeaaaDoor
open Fw
noncomputable def fold_cored.ann:Ann where
 loops:=fun | 3=>[(1,.sc .adr),(2,.sc .adr),(3,.sc .adr),(18,.sc (.int .i64)),(19,.sc (.int .i64))] | 7=>[(1,.sc .adr),(2,.sc .adr),(3,.sc .adr)] | _=>[]
 joins:=fun | _=>none
noncomputable def fold_cored.body:Code:=match Tryd.f73.body with | some c=>c | none=>.skip
def fold_cored.sh (p0_0:Int)(p0_1:Int)(p0_2:Sl)(p0_3:Sl)(R:Ending→World→Prop)(w:World):Prop:=
 New w (.cells #[(.int .i64 p0_0),(.int .i64 p0_1),(.slice p0_2.a p0_2.n p0_2.c),(.slice p0_3.a p0_3.n p0_3.c)] 27) fun b1 w2=>
 New w2 (.cells #[(.slice none 0 0),(.int .i64 0),(.int .i64 0),(.string (ByteArray.mk #[]))] 115) fun b3 w4=>
 ∃ S5:World→Prop,S5 w4.drew ∧
 (LoadS S5 (.sc .sl) ((Addr.mk b1 0 none).add 3) fun x6=>
 LoadS S5 (.sc .sl) ((Addr.mk b1 0 none).add 3) fun x7=>
 (RunT Tryd.prog (.sc .sl) (Instr.makeSlice 24 (.int .i64 ((x6.n:Nat):Int)) (.int .i64 ((x6.n:Nat):Int))) w4.drew fun r8 w9=>
  S5 w9 ∧
  (New w9 (.cells #[(.slice none 0 0),(.int .i64 0),(.int .i64 0),(.string (ByteArray.mk #[]))] 115) fun b10 w11=>
   S5 w11 ∧
   (StoreN w11 (Addr.mk b10 0 none) [(.slice r8.a r8.n r8.c),(.int .i64 ((x7.n:Nat):Int)),(.int .i64 0),(.string (ByteArray.mk #[]))] fun w12=>
    LoadT (.sc .sl) w12 ((Addr.mk b10 0 none).add 0) fun x13=>
    LoopT (σ:=Addr × Addr × Addr × Int × Int × Unit) ((Addr.mk b1 0 none),(Addr.mk b3 0 none),(Addr.mk b10 0 none),((x13.n:Nat):Int),0,()) w12 fun l14 g15 w16 I17=>
     Br (decide ((l14.2.2.2.2.1:Int)<l14.2.2.2.1))
      (LoadT (.sc .sl) w16 (l14.2.2.1.add 0) fun x18=>
      Idx x18.a x18.n 1 l14.2.2.2.2.1 fun a19=>
      Store1 w16 a19 (.bool true) fun w20=>
      I17 (l14.1,l14.2.1,l14.2.2.1,l14.2.2.2.1,(IntKind.wrap .i64 (l14.2.2.2.2.1+1)),()) w20)
      (LoopD (σ:=Addr × Addr × Addr × Unit) (l14.1,l14.2.1,l14.2.2.1,()) ([]) w16 fun l21 d25 g22 w23 I24=>
       New w23 (.cells #[(.slice none 0 0)] 85) fun b26 w27=>
       LoadT (.agg [.int .i64,.int .i64,.sl,.sl]) w27 l21.1 fun x28=>
       LoadT (.sc (.int .i64)) w27 (l21.2.2.1.add 2) fun x29=>
       CallT Tryd.prog 64 #[(.agg #[(.int .i64 x28.1),(.int .i64 x28.2.1),(.slice x28.2.2.1.a x28.2.2.1.n x28.2.2.1.c),(.slice x28.2.2.2.1.a x28.2.2.2.1.n x28.2.2.2.1.c)]),(.int .i64 x29)] (.sc (.clo 88 2)) w27 (fun r30 w31=>
        RangeF Tryd.prog 88 #[] #[(.pointer (some r30.1)),(.pointer (some r30.2.1))] [.sc (.int .i64),.sc (.int .i64)] w31 (fun x34 w35 Kc36 Kx37=>
         LoadT (.sc .sl) w35 (l21.2.2.1.add 0) fun x41=>
          Idx x41.a x41.n 1 x34.2.1 fun a42=>
          LoadT (.sc .bool) w35 a42 fun x43=>
          Br x43
           (LoadT (.sc .sl) w35 (Addr.mk b26 0 none) fun x44=>
           New w35 (.cells #[(.int .i64 x34.1)] 3) fun b45 w46=>
           RunT Tryd.prog (.sc .sl) (Builtin.append_ #[85,85] 85 #[(.slice x44.a x44.n x44.c),(.slice (some (Addr.mk b45 0 none)) 1 1)]) w46 fun r47 w48=>
           Store1 w48 (Addr.mk b26 0 none) (.slice r47.a r47.n r47.c) fun w49=>
           Kc36 w49)
           (Kc36 w35))
         (fun j38 d39 w40=>match j38 with
         | none=>
           LoadT (.sc .sl) w40 (Addr.mk b26 0 none) fun x50=>
           Br ((((x50.n:Nat):Int):Int) != 1)
            (LoadT (.agg [.sl,.int .i64,.int .i64,.str]) w40 l21.2.2.1 fun x51=>
            StoreN w40 l21.2.1 [(.slice x51.1.a x51.1.n x51.1.c),(.int .i64 x51.2.1),(.int .i64 x51.2.2.1),(.string x51.2.2.2.1)] fun w52=>
            RetM (Fw.mark d39 :: d25) w52 fun z53=>
            LoadT (.agg [.sl,.int .i64,.int .i64,.str]) z53 l21.2.1 fun x54=>
            R (.returned (.agg #[(.slice x54.1.a x54.1.n x54.1.c),(.int .i64 x54.2.1),(.int .i64 x54.2.2.1),(.string x54.2.2.2.1)])) z53)
            (LoadT (.sc .sl) w40 (l21.2.2.1.add 0) fun x55=>
            LoadT (.sc (.int .i64)) w40 (l21.2.2.1.add 2) fun x56=>
            Idx x55.a x55.n 1 x56 fun a57=>
            Store1 w40 a57 (.bool false) fun w58=>
            LoadT (.sc (.int .i64)) w58 (l21.2.2.1.add 1) fun x59=>
            Store1 w58 (l21.2.2.1.add 1) (.int .i64 (IntKind.wrap .i64 (x59-1))) fun w60=>
            LoadT (.sc .sl) w60.drew (l21.1.add 3) fun x61=>
            LoadT (.sc (.int .i64)) w60.drew (l21.2.2.1.add 2) fun x62=>
            Idx x61.a x61.n 1 x62 fun a63=>
            LoadT (.sc .sl) w60.drew a63 fun x64=>
            LoadT (.sc .sl) w60.drew (Addr.mk b26 0 none) fun x65=>
            Idx x65.a x65.n 1 0 fun a66=>
            LoadT (.sc (.int .i64)) w60.drew a66 fun x67=>
            Idx x64.a x64.n 1 x67 fun a68=>
            LoadT (.sc (.int .i64)) w60.drew a68 fun x69=>
            Store1 w60.drew (l21.2.2.1.add 2) (.int .i64 x69) fun w70=>
            ∃ S71:World→Prop,S71 w70.drew ∧
            (LoadS S71 (.sc .str) (l21.2.2.1.add 3) fun x72=>
            LoadS S71 (.sc .sl) (Addr.mk b26 0 none) fun x73=>
            Idx x73.a x73.n 1 0 fun a74=>
            LoadS S71 (.sc (.int .i64)) a74 fun x75=>
            CallT Tryd.prog 86 #[(.int .i64 x75)] (.sc (.int .u8)) w70.drew (fun r76 w77=>
              S71 w77 ∧
              (New w77 (.cells #[(.int .u8 r76)] 5) fun b80 w81=>
               S71 w81 ∧
               (RunT Tryd.prog (.sc .str) (convert 87 9 (.slice (some (Addr.mk b80 0 none)) 1 1)) w81 fun r82 w83=>
                S71 w83 ∧
                ((((x72.size+r82.size:Nat):Int)≤9223372036854775807) ∧
                Store1 w83 (l21.2.2.1.add 3) (.string (x72 ++ r82)) fun w84=>
                 I24 (l21.1,l21.2.1,l21.2.2.1,()) (Fw.mark d39 :: d25) w84)))) (fun h78 w77=>RetM (Fw.mark d39 :: d25) w77 fun z79=>R (.panicked h78) z79)))
         | some (.exit i)=>
          False
         | some .ret=>
           RetM (Fw.mark d39 :: d25) w40 fun z85=>
           LoadT (.agg [.sl,.int .i64,.int .i64,.str]) z85 l21.2.1 fun x86=>
           R (.returned (.agg #[(.slice x86.1.a x86.1.n x86.1.c),(.int .i64 x86.2.1),(.int .i64 x86.2.2.1),(.string x86.2.2.2.1)])) z85
         | some _=>False)) (fun h32 w31=>RetM (d25) w31 fun z33=>R (.panicked h32) z33))))) ∧
 (New w4.drew (.cells #[(.slice none 0 0),(.int .i64 0),(.int .i64 0),(.string (ByteArray.mk #[]))] 115) fun b87 w88=>
  S5 w88 ∧
  (RunT Tryd.prog (.sc .sl) (Instr.makeSlice 24 (.int .i64 ((x6.n:Nat):Int)) (.int .i64 ((x6.n:Nat):Int))) w88 fun r89 w90=>
   S5 w90 ∧
   (StoreN w90 (Addr.mk b87 0 none) [(.slice r89.a r89.n r89.c),(.int .i64 ((x7.n:Nat):Int)),(.int .i64 0),(.string (ByteArray.mk #[]))] fun w91=>
    LoadT (.sc .sl) w91 ((Addr.mk b87 0 none).add 0) fun x92=>
    LoopT (σ:=Addr × Addr × Addr × Int × Int × Unit) ((Addr.mk b1 0 none),(Addr.mk b3 0 none),(Addr.mk b87 0 none),((x92.n:Nat):Int),0,()) w91 fun l93 g94 w95 I96=>
     Br (decide ((l93.2.2.2.2.1:Int)<l93.2.2.2.1))
      (LoadT (.sc .sl) w95 (l93.2.2.1.add 0) fun x97=>
      Idx x97.a x97.n 1 l93.2.2.2.2.1 fun a98=>
      Store1 w95 a98 (.bool true) fun w99=>
      I96 (l93.1,l93.2.1,l93.2.2.1,l93.2.2.2.1,(IntKind.wrap .i64 (l93.2.2.2.2.1+1)),()) w99)
      (LoopD (σ:=Addr × Addr × Addr × Unit) (l93.1,l93.2.1,l93.2.2.1,()) ([]) w95 fun l100 d104 g101 w102 I103=>
       New w102 (.cells #[(.slice none 0 0)] 85) fun b105 w106=>
       LoadT (.agg [.int .i64,.int .i64,.sl,.sl]) w106 l100.1 fun x107=>
       LoadT (.sc (.int .i64)) w106 (l100.2.2.1.add 2) fun x108=>
       CallT Tryd.prog 64 #[(.agg #[(.int .i64 x107.1),(.int .i64 x107.2.1),(.slice x107.2.2.1.a x107.2.2.1.n x107.2.2.1.c),(.slice x107.2.2.2.1.a x107.2.2.2.1.n x107.2.2.2.1.c)]),(.int .i64 x108)] (.sc (.clo 88 2)) w106 (fun r109 w110=>
        RangeF Tryd.prog 88 #[] #[(.pointer (some r109.1)),(.pointer (some r109.2.1))] [.sc (.int .i64),.sc (.int .i64)] w110 (fun x113 w114 Kc115 Kx116=>
         LoadT (.sc .sl) w114 (l100.2.2.1.add 0) fun x120=>
          Idx x120.a x120.n 1 x113.2.1 fun a121=>
          LoadT (.sc .bool) w114 a121 fun x122=>
          Br x122
           (LoadT (.sc .sl) w114 (Addr.mk b105 0 none) fun x123=>
           New w114 (.cells #[(.int .i64 x113.1)] 3) fun b124 w125=>
           RunT Tryd.prog (.sc .sl) (Builtin.append_ #[85,85] 85 #[(.slice x123.a x123.n x123.c),(.slice (some (Addr.mk b124 0 none)) 1 1)]) w125 fun r126 w127=>
           Store1 w127 (Addr.mk b105 0 none) (.slice r126.a r126.n r126.c) fun w128=>
           Kc115 w128)
           (Kc115 w114))
         (fun j117 d118 w119=>match j117 with
         | none=>
           LoadT (.sc .sl) w119 (Addr.mk b105 0 none) fun x129=>
           Br ((((x129.n:Nat):Int):Int) != 1)
            (LoadT (.agg [.sl,.int .i64,.int .i64,.str]) w119 l100.2.2.1 fun x130=>
            StoreN w119 l100.2.1 [(.slice x130.1.a x130.1.n x130.1.c),(.int .i64 x130.2.1),(.int .i64 x130.2.2.1),(.string x130.2.2.2.1)] fun w131=>
            RetM (Fw.mark d118 :: d104) w131 fun z132=>
            LoadT (.agg [.sl,.int .i64,.int .i64,.str]) z132 l100.2.1 fun x133=>
            R (.returned (.agg #[(.slice x133.1.a x133.1.n x133.1.c),(.int .i64 x133.2.1),(.int .i64 x133.2.2.1),(.string x133.2.2.2.1)])) z132)
            (LoadT (.sc .sl) w119 (l100.2.2.1.add 0) fun x134=>
            LoadT (.sc (.int .i64)) w119 (l100.2.2.1.add 2) fun x135=>
            Idx x134.a x134.n 1 x135 fun a136=>
            Store1 w119 a136 (.bool false) fun w137=>
            LoadT (.sc (.int .i64)) w137 (l100.2.2.1.add 1) fun x138=>
            Store1 w137 (l100.2.2.1.add 1) (.int .i64 (IntKind.wrap .i64 (x138-1))) fun w139=>
            LoadT (.sc .sl) w139.drew (l100.1.add 3) fun x140=>
            LoadT (.sc (.int .i64)) w139.drew (l100.2.2.1.add 2) fun x141=>
            Idx x140.a x140.n 1 x141 fun a142=>
            LoadT (.sc .sl) w139.drew a142 fun x143=>
            LoadT (.sc .sl) w139.drew (Addr.mk b105 0 none) fun x144=>
            Idx x144.a x144.n 1 0 fun a145=>
            LoadT (.sc (.int .i64)) w139.drew a145 fun x146=>
            Idx x143.a x143.n 1 x146 fun a147=>
            LoadT (.sc (.int .i64)) w139.drew a147 fun x148=>
            Store1 w139.drew (l100.2.2.1.add 2) (.int .i64 x148) fun w149=>
            ∃ S150:World→Prop,S150 w149.drew ∧
            (LoadS S150 (.sc .str) (l100.2.2.1.add 3) fun x151=>
            LoadS S150 (.sc .sl) (Addr.mk b105 0 none) fun x152=>
            Idx x152.a x152.n 1 0 fun a153=>
            LoadS S150 (.sc (.int .i64)) a153 fun x154=>
            CallT Tryd.prog 86 #[(.int .i64 x154)] (.sc (.int .u8)) w149.drew (fun r155 w156=>
              S150 w156 ∧
              (New w156 (.cells #[(.int .u8 r155)] 5) fun b159 w160=>
               S150 w160 ∧
               (RunT Tryd.prog (.sc .str) (convert 87 9 (.slice (some (Addr.mk b159 0 none)) 1 1)) w160 fun r161 w162=>
                S150 w162 ∧
                ((((x151.size+r161.size:Nat):Int)≤9223372036854775807) ∧
                Store1 w162 (l100.2.2.1.add 3) (.string (x151 ++ r161)) fun w163=>
                 I103 (l100.1,l100.2.1,l100.2.2.1,()) (Fw.mark d118 :: d104) w163)))) (fun h157 w156=>RetM (Fw.mark d118 :: d104) w156 fun z158=>R (.panicked h157) z158)))
         | some (.exit i)=>
          False
         | some .ret=>
           RetM (Fw.mark d118 :: d104) w119 fun z164=>
           LoadT (.agg [.sl,.int .i64,.int .i64,.str]) z164 l100.2.1 fun x165=>
           R (.returned (.agg #[(.slice x165.1.a x165.1.n x165.1.c),(.int .i64 x165.2.1),(.int .i64 x165.2.2.1),(.string x165.2.2.2.1)])) z164
         | some _=>False)) (fun h111 w110=>RetM (d104) w110 fun z112=>R (.panicked h111) z112))))))
theorem fold_cored.calls (p0_0:Int)(p0_1:Int)(p0_2:Sl)(p0_3:Sl){R:Ending→World→Prop}{w:World}(h:fold_cored.sh p0_0 p0_1 p0_2 p0_3 R w):Calls Tryd.prog 73 #[(.agg #[(.int .i64 p0_0),(.int .i64 p0_1),(.slice p0_2.a p0_2.n p0_2.c),(.slice p0_3.a p0_3.n p0_3.c)])] w R:=calls_of_wpc mixed Tryd.func73 (by kernel_rfl) (by kernel_rfl) ((show _=wpc Tryd.prog fold_cored.ann fold_cored.body (fnKs Tryd.prog Tryd.f73 R) [] (env0 #[(.agg #[(.int .i64 p0_0),(.int .i64 p0_1),(.slice p0_2.a p0_2.n p0_2.c),(.slice p0_3.a p0_3.n p0_3.c)])]) w by kernel_rfl).mp h)
end Go.Proofs.YtffdjfkekdoeaaaDoor
end
section
namespace Go.Proofs.YtffdjfkekdoeaaaDoor.Fo
open Fw Wd Rf Pl
structure Co where
 inn:List Bool
 size:Int
 base:Nat
 stem:ByteArray
def letE (inn:List Bool)(es:List (Int × Int × Unit)):List Int:=(es.filter fun e=>inn.getD e.2.1.toNat false).map (·.1)
def coreF:Nat→List (List Int)→Co→Option Co
 | 0,_,_=>none
 | n+1,nx,c=>
  match letE c.inn (edgesFrom 0 (nx.getD c.base [])) with
  | [x]=>coreF n nx ⟨c.inn.set c.base false,c.size-1,((nx.getD c.base []).getD x.toNat 0).toNat,c.stem ++ letS x⟩
  | _=>some c
def core0 (nx:List (List Int)):Co:=⟨List.replicate nx.length true,nx.length,0,⟨#[]⟩⟩
abbrev tC:Ty:=.agg [.sl,.int .i64,.int .i64,.str]
structure CoIn (w:World)(y:Sl × Int × Int × ByteArray × Unit)(c:Co):Prop where
 inn:OwnT w 4 (.sc .bool) y.1 c.inn
 size:y.2.1=c.size
 base:y.2.2.1=(c.base:Int)
 stem:y.2.2.2.1=c.stem
theorem CoIn.nil {w w':World}{y:Sl × Int × Int × ByteArray × Unit}{c:Co}(h:CoIn w y c)(hc:Chg Nil w w'):CoIn w' y c:=⟨h.inn.chg hc fun _ _ h=>h,h.size,h.base,h.stem⟩
structure Cw (w W:World)(rs:List Nat)(b1 b3 b10:Nat)(av cv:Array Value)(ri:Sl)(c:Co):Prop where
 chg:Chg Nil w W
 mks:Marks W rs
 mB:∀ r∈rs,w.heap.size≤r
 c1:W.heap[b1]? = some (.cells av 27 (0,0))
 c3:W.heap[b3]? = some (.cells cv 115 (0,0))
 c10:W.heap[b10]? = some (.cells #[ri.v,.int .i64 c.size,.int .i64 (c.base:Int),.string c.stem] 115 (0,0))
 own:OwnT W 4 (.sc .bool) ri c.inn
 lo:∀ k,ri.own k→w.heap.size≤k
theorem Cw.nil {w W W':World}{rs:List Nat}{b1 b3 b10:Nat}{av cv:Array Value}{ri:Sl}{c:Co}(h:Cw w W rs b1 b3 b10 av cv ri c)(hc:Chg Nil W W'):Cw w W' rs b1 b3 b10 av cv ri c:=
 ⟨h.chg.then hc,h.mks.chg hc fun _ _ h=>h,h.mB,hc.heap h.c1 fun h=>h,hc.heap h.c3 fun h=>h,hc.heap h.c10 fun h=>h,h.own.chg hc fun _ _ h=>h,h.lo⟩
theorem Cw.turn {B:Nat}{w W W':World}{rs:List Nat}{b1 b3 b10:Nat}{av cv:Array Value}{ri:Sl}{c:Co}(h:Cw w W rs b1 b3 b10 av cv ri c)(t:Turn B W W')(hB:w.heap.size≤B):Cw w W' rs b1 b3 b10 av cv ri c:=
 ⟨h.chg.turn t hB,h.mks.turn t,h.mB,t.cells h.c1,t.cells h.c3,t.cells h.c10,OwnT.turn h.own t,h.lo⟩
theorem Cw.side {w W W':World}{rs:List Nat}{b1 b3 b10 b:Nat}{av cv vv:Array Value}{ri:Sl}{c:Co}(h:Cw w W rs b1 b3 b10 av cv ri c){S:Nat→Prop}(hc:Chg S W W')
  (hS:∀ k,S k→w.heap.size≤k∧∃ cs e f,W.heap[k]? = some (.cells cs e f)∧e≠27∧e≠115∧e≠4):Cw w W' rs b1 b3 b10 av cv ri c:=by
 have ne:∀ {k:Nat} {cs:Array Value} {e:TypeId} {f:Nat × Nat},W.heap[k]? = some (.cells cs e f)→(e=27∨e=115∨e=4)→¬ S k:=fun hk he hs=>by
  obtain⟨_,cs',e',f',hk',h1,h2,h3⟩:=hS _ hs;rw[hk']at hk;cases hk;rcases he with rfl|rfl|rfl
  ·exact h1 rfl
  ·exact h2 rfl
  ·exact h3 rfl
 refine⟨h.chg.trans hc (fun _ _ h=>h) fun i hi hs=>?_,h.mks.chg hc fun r hr hs=>?_,h.mB,hc.heap h.c1 (ne h.c1 (.inl rfl)),hc.heap h.c3 (ne h.c3 (.inr (.inl rfl))),hc.heap h.c10 (ne h.c10 (.inr (.inl rfl))),h.own.chg hc fun ad had hs=>?_,h.lo⟩
 ·have:=(hS i hs).1;omega
 ·obtain⟨_,cs',e',f',hk',_⟩:=hS _ hs;have:=h.mks.2 r hr;rw[hk']at this;cases this
 ·obtain⟨cur,hcur⟩:=h.own.elem ⟨ad,had,rfl⟩;exact ne hcur (.inr (.inr rfl)) hs
def coTail (b1 b3 b10:Nat)(R:Ending→World→Prop)(w12:World):Prop:=
 LoadT (.sc .sl) w12 ((Addr.mk b10 0 none).add 0) fun x13=>
 LoopT (σ:=Addr × Addr × Addr × Int × Int × Unit) ((Addr.mk b1 0 none),(Addr.mk b3 0 none),(Addr.mk b10 0 none),((x13.n:Nat):Int),0,()) w12 fun l14 g15 w16 I17=>
  Br (decide ((l14.2.2.2.2.1:Int)<l14.2.2.2.1))
   (LoadT (.sc .sl) w16 (l14.2.2.1.add 0) fun x18=>
   Idx x18.a x18.n 1 l14.2.2.2.2.1 fun a19=>
   Store1 w16 a19 (.bool true) fun w20=>
   I17 (l14.1,l14.2.1,l14.2.2.1,l14.2.2.2.1,(IntKind.wrap .i64 (l14.2.2.2.2.1+1)),()) w20)
   (LoopD (σ:=Addr × Addr × Addr × Unit) (l14.1,l14.2.1,l14.2.2.1,()) ([]) w16 fun l21 d25 g22 w23 I24=>
    New w23 (.cells #[(.slice none 0 0)] 85) fun b26 w27=>
    LoadT (.agg [.int .i64,.int .i64,.sl,.sl]) w27 l21.1 fun x28=>
    LoadT (.sc (.int .i64)) w27 (l21.2.2.1.add 2) fun x29=>
    CallT Tryd.prog 64 #[(.agg #[(.int .i64 x28.1),(.int .i64 x28.2.1),(.slice x28.2.2.1.a x28.2.2.1.n x28.2.2.1.c),(.slice x28.2.2.2.1.a x28.2.2.2.1.n x28.2.2.2.1.c)]),(.int .i64 x29)] (.sc (.clo 88 2)) w27 (fun r30 w31=>
     RangeF Tryd.prog 88 #[] #[(.pointer (some r30.1)),(.pointer (some r30.2.1))] [.sc (.int .i64),.sc (.int .i64)] w31 (fun x34 w35 Kc36 Kx37=>
      LoadT (.sc .sl) w35 (l21.2.2.1.add 0) fun x41=>
       Idx x41.a x41.n 1 x34.2.1 fun a42=>
       LoadT (.sc .bool) w35 a42 fun x43=>
       Br x43
        (LoadT (.sc .sl) w35 (Addr.mk b26 0 none) fun x44=>
        New w35 (.cells #[(.int .i64 x34.1)] 3) fun b45 w46=>
        RunT Tryd.prog (.sc .sl) (Builtin.append_ #[85,85] 85 #[(.slice x44.a x44.n x44.c),(.slice (some (Addr.mk b45 0 none)) 1 1)]) w46 fun r47 w48=>
        Store1 w48 (Addr.mk b26 0 none) (.slice r47.a r47.n r47.c) fun w49=>
        Kc36 w49)
        (Kc36 w35))
      (fun j38 d39 w40=>match j38 with
      | none=>
        LoadT (.sc .sl) w40 (Addr.mk b26 0 none) fun x50=>
        Br ((((x50.n:Nat):Int):Int) != 1)
         (LoadT (.agg [.sl,.int .i64,.int .i64,.str]) w40 l21.2.2.1 fun x51=>
         StoreN w40 l21.2.1 [(.slice x51.1.a x51.1.n x51.1.c),(.int .i64 x51.2.1),(.int .i64 x51.2.2.1),(.string x51.2.2.2.1)] fun w52=>
         RetM (Fw.mark d39 :: d25) w52 fun z53=>
         LoadT (.agg [.sl,.int .i64,.int .i64,.str]) z53 l21.2.1 fun x54=>
         R (.returned (.agg #[(.slice x54.1.a x54.1.n x54.1.c),(.int .i64 x54.2.1),(.int .i64 x54.2.2.1),(.string x54.2.2.2.1)])) z53)
         (LoadT (.sc .sl) w40 (l21.2.2.1.add 0) fun x55=>
         LoadT (.sc (.int .i64)) w40 (l21.2.2.1.add 2) fun x56=>
         Idx x55.a x55.n 1 x56 fun a57=>
         Store1 w40 a57 (.bool false) fun w58=>
         LoadT (.sc (.int .i64)) w58 (l21.2.2.1.add 1) fun x59=>
         Store1 w58 (l21.2.2.1.add 1) (.int .i64 (IntKind.wrap .i64 (x59-1))) fun w60=>
         LoadT (.sc .sl) w60.drew (l21.1.add 3) fun x61=>
         LoadT (.sc (.int .i64)) w60.drew (l21.2.2.1.add 2) fun x62=>
         Idx x61.a x61.n 1 x62 fun a63=>
         LoadT (.sc .sl) w60.drew a63 fun x64=>
         LoadT (.sc .sl) w60.drew (Addr.mk b26 0 none) fun x65=>
         Idx x65.a x65.n 1 0 fun a66=>
         LoadT (.sc (.int .i64)) w60.drew a66 fun x67=>
         Idx x64.a x64.n 1 x67 fun a68=>
         LoadT (.sc (.int .i64)) w60.drew a68 fun x69=>
         Store1 w60.drew (l21.2.2.1.add 2) (.int .i64 x69) fun w70=>
         ∃ S71:World→Prop,S71 w70.drew ∧
         (LoadS S71 (.sc .str) (l21.2.2.1.add 3) fun x72=>
         LoadS S71 (.sc .sl) (Addr.mk b26 0 none) fun x73=>
         Idx x73.a x73.n 1 0 fun a74=>
         LoadS S71 (.sc (.int .i64)) a74 fun x75=>
         CallT Tryd.prog 86 #[(.int .i64 x75)] (.sc (.int .u8)) w70.drew (fun r76 w77=>
           S71 w77 ∧
           (New w77 (.cells #[(.int .u8 r76)] 5) fun b80 w81=>
            S71 w81 ∧
            (RunT Tryd.prog (.sc .str) (convert 87 9 (.slice (some (Addr.mk b80 0 none)) 1 1)) w81 fun r82 w83=>
             S71 w83 ∧
             ((((x72.size+r82.size:Nat):Int)≤9223372036854775807) ∧
             Store1 w83 (l21.2.2.1.add 3) (.string (x72 ++ r82)) fun w84=>
              I24 (l21.1,l21.2.1,l21.2.2.1,()) (Fw.mark d39 :: d25) w84)))) (fun h78 w77=>RetM (Fw.mark d39 :: d25) w77 fun z79=>R (.panicked h78) z79)))
      | some (.exit i)=>
       False
      | some .ret=>
        RetM (Fw.mark d39 :: d25) w40 fun z85=>
        LoadT (.agg [.sl,.int .i64,.int .i64,.str]) z85 l21.2.1 fun x86=>
        R (.returned (.agg #[(.slice x86.1.a x86.1.n x86.1.c),(.int .i64 x86.2.1),(.int .i64 x86.2.2.1),(.string x86.2.2.2.1)])) z85
      | some _=>False)) (fun h32 w31=>RetM (d25) w31 fun z33=>R (.panicked h32) z33))
theorem letE_snoc (inn:List Bool)(l:List (Int × Int × Unit))(e:Int × Int × Unit):letE inn (l ++ [e])=letE inn l ++ (if inn.getD e.2.1.toNat false=true then [e.1] else []):=by
 unfold letE;rw[List.filter_append,List.map_append]
 congr 1
 by_cases h:inn.getD e.2.1.toNat false=true
 ·rw[if_pos h,List.filter_cons,if_pos h];rfl
 ·rw[if_neg h,List.filter_cons,if_neg h];rfl
theorem letE_mem {inn:List Bool}{l:List (Int × Int × Unit)}{x:Int}(h:x∈letE inn l):∃ t,(x,t,())∈l∧inn.getD t.toNat false=true:=by
 unfold letE at h;obtain⟨⟨x',t,u⟩,h1,rfl⟩:=List.mem_map.1 h;obtain⟨h1,h2⟩:=List.mem_filter.1 h1;exact⟨t,h1,h2⟩
theorem coTail_ok {w:World}(hl:Laid w){x1 x2:Int}{sa sn:Sl}{a:Aut}(ha:AutIn w (x1,x2,sa,sn,()) a){k:Int}(hc:a.check k=0)(hk:1≤k∧k≤8){N:Nat}(hN:N≤1000000){co:Co}(hf:coreF N a.next (core0 a.next)=some co)
  {b1 b3 b10:Nat} {ri:Sl} {cv:Array Value} (hcv:cv.size=4) {W:World} {inn0:List Bool} (hi0:inn0.length=a.next.length) (n3:b3≠b10) (l3:w.heap.size≤b3) (l10:w.heap.size≤b10)
  (h0:Cw w W [] b1 b3 b10 #[.int .i64 x1,.int .i64 x2,sa.v,sn.v] cv ri ⟨inn0,a.next.length,0,⟨#[]⟩⟩)
  {R:Ending→World→Prop} (hR:∀ (y:Sl × Int × Int × ByteArray × Unit) (W':World),CoIn W' y co→Chg Nil w W'→R (.returned (.agg #[.slice y.1.a y.1.n y.1.c,.int .i64 y.2.1,.int .i64 y.2.2.1,.string y.2.2.2.1])) W'):coTail b1 b3 b10 R W:=by
 obtain⟨_,_,hn1,hn2,_,_,hrows⟩:=check_spec hc;obtain⟨_,_,_,sls,hsn,hsl,hrd,_⟩:=ha.rd;have hsn:RdT w tL sn sls:=hsn;unfold coTail;have hrn:ri.n=a.next.length:=by rw[h0.own.len,hi0]
 refine LoadT.sc (s:=.sl) (x:=ri) (by rw[cellOf h0.c10];rfl) ?_
 refine LoopT.mk (fun y V=>∃ (i:Nat) (inn:List Bool),i≤a.next.length∧y=(at0 b1,at0 b3,at0 b10,((ri.n:Nat):Int),(i:Int),())∧inn.length=a.next.length∧(∀ j,j<i→inn[j]? = some true)∧Cw w V [] b1 b3 b10 #[.int .i64 x1,.int .i64 x2,sa.v,sn.v] cv ri ⟨inn,a.next.length,0,⟨#[]⟩⟩)
  (fun y _=>a.next.length-y.2.2.2.2.1.toNat) ⟨0,inn0,Nat.zero_le _,rfl,hi0,fun j hj=>by omega,h0⟩ ?_
 rintro y g V ⟨i,inn,hi,rfl,hil,hall,hV⟩
 dsimp only;refine Br.dec (fun hlt=>?_) (fun hge=>?_)
 ·have hlt':i<a.next.length:=by omega
  refine LoadT.sc (s:=.sl) (x:=ri) (by rw[show at0 b10=Addr.mk b10 0 none from rfl,cellOf hV.c10];rfl) ?_
  refine hV.own.idx (t:=.sc .bool) i rfl (by show i<inn.length;omega) fun g2 hg2=>?_
  refine hV.own.store (s:=.bool) hg2 i (by show i<inn.length;omega) (x:=true) fun V2 ho2 hc2 hz2=>?_
  have hg10:W.heap.size=W.heap.size:=rfl;obtain⟨cur,hcur⟩:=hV.own.elem ⟨_,hg2,rfl⟩;have hcur:V.heap[g2]? = some (.cells cur 4 (0,0)):=hcur;refine⟨⟨i+1,inn.set i true,by omega,by rw[wrap64 (by omega) (by omega)];rfl,by simp[hil],fun j hj=>?_,?_⟩,?_⟩
  ·by_cases he:j=i
   ·subst he;rw[List.getElem?_set_self (by omega)]
   ·rw[List.getElem?_set_ne (by omega)];exact hall j (by omega)
  ·refine⟨hV.chg.trans hc2 (fun _ _ h=>h) fun q hq he=>?_,⟨List.nodup_nil,fun r hr=>by simp at hr⟩,by simp,hc2.heap hV.c1 fun he=>ne_of_elem hV.c1 hcur (by decide) he,hc2.heap hV.c3 fun he=>ne_of_elem hV.c3 hcur (by decide) he,hc2.heap hV.c10 fun he=>ne_of_elem hV.c10 hcur (by decide) he,ho2,hV.lo⟩
   have he:q=g2:=he;have:=hV.lo g2 ⟨_,hg2,rfl⟩;omega
  ·show a.next.length-(IntKind.wrap .i64 ((i:Int)+1)).toNat<a.next.length-((i:Int)).toNat
   rw[wrap64 (by omega) (by omega)];omega
 have hie:i=a.next.length:=by omega
 subst hie;have hinn:inn=List.replicate a.next.length true:=by
  refine List.ext_getElem? fun j=>?_
  by_cases hj:j<a.next.length
  ·rw[hall j hj,List.getElem?_replicate,if_pos hj]
  ·rw[List.getElem?_eq_none (by omega),List.getElem?_eq_none (by simp;omega)]
 subst hinn;clear h0 hall hge
 -- the rounds
 refine⟨fun y ds U=>∃ (rs:List Nat) (f:Nat) (c:Co),y=(at0 b1,at0 b3,at0 b10,())∧ds=marksOf rs∧Cw w U rs b1 b3 b10 #[.int .i64 x1,.int .i64 x2,sa.v,sn.v] cv ri c∧coreF f a.next c=some co∧f+c.stem.size=N∧c.inn.length=a.next.length∧c.base<a.next.length∧c.size+c.stem.size=a.next.length,
  fun y U=>N-(match U.cell? (y.2.2.1.add 3) with | some (.string s)=>s.size | _=>0),⟨[],N,core0 a.next,rfl,rfl,hV,hf,rfl,by simp[core0],by show 0<_;omega,by show((a.next.length:Int))+((0:Nat):Int)=_;simp⟩,?_⟩
 clear hV g V
 rintro y ds g V ⟨rs,f,c,rfl,rfl,hV,hcf,hfs,hil,hbl,hsz⟩
 dsimp only;cases f with
 | zero=>simp[coreF]at hcf
 | succ f=>
 refine New.mk fun b26 w2 hb26 hn26 hz26 hc26=>?_
 have hV2:=hV.nil hc26;obtain⟨row,hrow⟩:∃ r,a.next[c.base]? = some r:=⟨_,List.getElem?_eq_getElem hbl⟩;have hgd:a.next.getD c.base []=row:=by rw[List.getD_eq_getElem?_getD,hrow];rfl
 obtain⟨hrl,hrv⟩:=hrows row (List.mem_of_getElem? hrow);obtain⟨s0,hs0⟩:∃ r,sls[c.base]? = some r:=⟨_,List.getElem?_eq_getElem (by omega)⟩
 have hrr:=hrd c.base s0 row hs0 hrow;refine LoadT.mk tA (x:=(x1,x2,sa,sn,())) (fun j v hv=>by rw[show at0 b1=Addr.mk b1 0 none from rfl,cellOf hV2.c1];simpa[Ty.cells] using hv) ?_
 refine LoadT.sc (s:=.int .i64) (x:=(c.base:Int)) (by rw[show at0 b10=Addr.mk b10 0 none from rfl,cellOf hV2.c10];rfl) ?_
 refine Ret.call (edges_ret (v0:=x1) (v1:=x2) (sa:=sa) (sn:=sn) (c.base:Int)) ?_
 rintro _ w3 ⟨q1,q3,rfl,hq1,hq3,hc3,hB1,hB3⟩
 have hV3:=hV2.nil hc3;have z3:=hV3.chg.size;have zV:=hV.chg.size;have z23:=hc3.size;simp only[coreF]at hcf;rw[hgd]at hcf;have hes:∀ (i:Nat) (e:Int × Int × Unit),(edgesFrom 0 row)[i]? = some e→0≤e.2.1∧e.2.1<(a.next.length:Int)∧0≤e.1∧e.1<2*k:=fun i ⟨x,t,u⟩ hi=>by
  obtain⟨e1,e2,e3,e4⟩:=Fo.edges_mem row 0 x t u (List.mem_of_getElem? hi);have:=hrv t e2;dsimp only;omega
 refine⟨edgesFrom 0 row,_,fun i U=>∃ sl:Sl,Cw w U rs b1 b3 b10 #[.int .i64 x1,.int .i64 x2,sa.v,sn.v] cv ri c∧U.heap[b26]? = some (.cells #[sl.v] 85 (0,0))∧U.heap[q1]? = some (.cells #[.int .i64 x1,.int .i64 x2,sa.v,sn.v] 27 (0,0))∧U.heap[q3]? = some (.cells #[.int .i64 (c.base:Int)] 3 (0,0)) ∧
   OwnT U 3 tI sl (letE c.inn ((edgesFrom 0 row).take i))∧(∀ q,sl.own q→w.heap.size≤q)∧¬ sl.own q3,fun _ _=>False,
  edges_gives (q0:=at0 q1) (q1:=at0 q3) (sn:=sn) (rsl:=s0) (sls:=sls) (s:=c.base) (row:=row) (by omega),?_,?_,?_,?_,?_,?_,?_⟩
 ·rintro i U ⟨sl,u1,u2,u3,u4,u5,u6,u7⟩
  exact⟨by rw[cellOf u3];rfl,by rw[cellOf0 u4];rfl,hsn.chg u1.chg (fun _ _ h=>h),hs0,hrr.chg u1.chg (fun _ _ h=>h)⟩
 ·rintro i U U' ⟨sl,u1,u2,u3,u4,u5,u6,u7⟩ ht
  exact⟨sl,u1.turn ht z3,ht.cells u2,ht.cells u3,ht.cells u4,OwnT.turn u5 ht,u6,u7⟩
 ·rintro c' U U' h;exact h.elim
 ·exact⟨⟨none,0,0⟩,hV3,hc3.heap hn26 fun h=>h,hq1,hq3,OwnT.nil _ _ _,(fun q ⟨_,h,_⟩=>by cases h),fun⟨_,h,_⟩=>by cases h⟩
 ·rintro i ⟨x,t,un⟩ U hx ⟨sl,u1,u2,u3,u4,u5,u6,u7⟩
  obtain⟨e1,e2,e3,e4⟩:=hes i _ hx;obtain⟨nt,rfl⟩:=Int.eq_ofNat_of_zero_le e1;dsimp only at e1 e2 e3 e4;have htk:(edgesFrom 0 row).take (i+1)=(edgesFrom 0 row).take i ++ [(x,(nt:Int),un)]:=by rw[List.take_add_one,hx];rfl
  refine LoadT.sc (s:=.sl) (x:=ri) (by rw[show at0 b10=Addr.mk b10 0 none from rfl,cellOf u1.c10];rfl) ?_
  obtain⟨bv,hbv⟩:∃ q,c.inn[nt]? = some q:=⟨_,List.getElem?_eq_getElem (by omega)⟩
  refine u1.own.rd.get (t:=.sc .bool) nt rfl hbv ?_;have hbd:c.inn.getD ((nt:Int)).toNat false=bv:=by rw[Int.toNat_natCast,List.getD_eq_getElem?_getD,hbv];rfl
  have lenb:(letE c.inn ((edgesFrom 0 row).take i)).length≤1000:=by
   unfold letE;rw[List.length_map];refine Nat.le_trans (List.length_filter_le _ _) ?_;have:=edges_len row 0;rw[List.length_take];omega
  refine Br.mk (fun hb=>?_) (fun hb=>?_)
  ·refine LoadT.sc (s:=.sl) (x:=sl) (by rw[cellOf0 u2];rfl) ?_
   refine New.mk fun b45 V4 hb45 hn45 hz45 hc45=>?_
   have u5':=u5.chg hc45 fun _ _ h=>h
   refine OwnT.append (t:=tI) (m:=1) ok85 rfl (by decide) u5' [x] rfl (by decide) (fun j v hv=>by rw[cellOf hn45];simpa[Ty.cells] using hv) (by omega) (by simp only[maxLen];omega) fun sl' V5 ho5 hc5 hown5=>?_
   have hh26:=hc45.heap u2 fun h=>h
   have n26:¬ sl.own b26:=fun h=>by
    obtain⟨cur,hcur⟩:=u5'.elem h;exact ne_of_elem hcur hh26 (by decide) rfl
   have h26:=hc5.heap hh26 n26;refine Store1.at0' h26 (by show 0<1;decide) rfl fun V6 hh6 hc6 _=>?_
   have k4:KeepL U V4:=KeepL.of_chg (S:=Nil) hc45 fun q hq=>hq.elim
   have sm:∀ q,sl.own q→∃ cs e f,V4.heap[q]? = some (.cells cs e f)∧e=3:=fun q hq=>by obtain⟨cur,hcur⟩:=u5'.elem hq;exact⟨_,_,_,hcur,rfl⟩
   have k5:KeepL V4 V5:=KeepL.of_chg hc5 fun q hq=>by obtain⟨cs,e,f,h,_⟩:=sm q hq;exact⟨_,_,_,h⟩
   have k6:KeepL V5 V6:=KeepL.of_chg hc6 fun q hq=>by have hq:q=b26:=hq;subst hq;exact⟨_,_,_,h26⟩
   have u14:=u1.nil hc45;have u15:=Cw.side (b:=0) (vv:=#[]) u14 hc5 fun q hq=>⟨u6 q hq,by obtain⟨cs,e,f,h,he⟩:=sm q hq;subst he;exact⟨cs,3,f,h,by decide,by decide,by decide⟩⟩
   have u16:=Cw.side (b:=0) (vv:=#[]) u15 hc6 fun q hq=>by
    have hq:q=b26:=hq;subst hq;exact⟨by omega,_,_,_,h26,by decide,by decide,by decide⟩
   have hzU:=u1.chg.size;have lq3:=lt_of_heap u4;have n3':¬ sl'.own q3:=fun h=>by
    rcases hown5 q3 h with h1|h1
    ·exact u7 h1
    ·have:=hc45.size;omega
   refine⟨fun q o hq ho=>k6 q o (k5 q o (k4 q o hq ho) ho) ho,sl',u16,hh6,?_,?_,?_,fun q hq=>?_,n3'⟩
   ·have hh:=hc45.heap u3 fun h=>h
    have h5:=hc5.heap hh fun h=>by
     obtain⟨cs,e,f,h1,he⟩:=sm q1 h;rw[hh]at h1;cases h1;cases he
    exact hc6.heap h5 fun h=>by have h:q1=b26:=h;exact ne_of_elem h5 h26 (by decide) h
   ·have h5:=hc5.heap (hc45.heap u4 fun h=>h) u7
    exact hc6.heap h5 fun h=>by have h:q3=b26:=h;exact ne_of_elem h5 h26 (by decide) h
   ·rw[htk,letE_snoc,if_pos (by show c.inn.getD ((nt:Int)).toNat false=true;rw[hbd];exact hb)]
    refine ho5.chg hc6 fun ad had he=>?_
    obtain⟨cur,hcur⟩:=ho5.elem ⟨ad,had,rfl⟩;exact ne_of_elem hcur h26 (by decide) he
   ·rcases hown5 q hq with h1|h1
    ·exact u6 q h1
    ·have:=hc45.size;omega
  ·refine⟨fun q o hq ho=>hq,sl,u1,u2,u3,u4,?_,u6,u7⟩
   rw[htk,letE_snoc,if_neg (by show ¬ c.inn.getD ((nt:Int)).toNat false=true;rw[hbd,hb];simp),List.append_nil]
   exact u5
 ·rintro d U hdm hdB ⟨sl,u1,u2,u3,u4,u5,u6,u7⟩
  rw[List.take_of_length_le (Nat.le_refl _)]at u5;have hdn:d ∉ rs:=fun hmem=>by have:=lt_of_heap (hV3.mks.2 d hmem);omega
  have hsln:sl.n=(letE c.inn (edgesFrom 0 row)).length:=u5.len;dsimp only;refine LoadT.sc (s:=.sl) (x:=sl) (by rw[cellOf0 u2];rfl) ?_
  refine Br.mk (fun hne=>?_) (fun heq=>?_)
  ·have hne:(letE c.inn (edgesFrom 0 row)).length≠1:=by
    intro he;rw[hsln,he]at hne;simp at hne
   have hco:c=co:=by
    revert hcf
    cases hls:letE c.inn (edgesFrom 0 row) with
    | nil=>intro h;simpa using h
    | cons x l=>cases l with
     | nil=>rw[hls]at hne;simp at hne
     | cons y l=>intro h;simpa using h
   subst hco;refine LoadT.mk tC (x:=(ri,c.size,(c.base:Int),c.stem,())) (fun j v hv=>by rw[show at0 b10=Addr.mk b10 0 none from rfl,cellOf u1.c10];simpa[Ty.cells] using hv) ?_
   refine StoreN.whole (vs:=[ri.v,.int .i64 c.size,.int .i64 (c.base:Int),.string c.stem]) u1.c3 (by rw[hcv];rfl) fun w5 h5 hc5 _=>?_
   have hm5:Marks w5 (d :: rs):=(u1.mks.cons hdm hdn).chg hc5 fun r hr he=>by
    have he:r=b3:=he;have:=(u1.mks.cons hdm hdn).2 r hr;rw[he,u1.c3]at this;cases this
   refine retM_marks (d :: rs) w5 hm5 fun z hz=>?_
   have nz:∀ {q:Nat} {cs:Array Value} {e:TypeId} {fr:Nat × Nat},w5.heap[q]? = some (.cells cs e fr)→¬ q∈d :: rs:=fun hq hm=>by
    have:=hm5.2 _ hm;rw[hq]at this;cases this
   refine LoadT.mk tC (x:=(ri,c.size,(c.base:Int),c.stem,())) (fun j v hv=>by rw[show at0 b3=Addr.mk b3 0 none from rfl,cellOf (hz.heap h5 (nz h5))];simpa[Ty.cells] using hv) ?_
   have own5:=u1.own.chg hc5 fun ad had he=>by
    obtain⟨cur,hcur⟩:=u1.own.elem ⟨ad,had,rfl⟩;exact ne_of_elem hcur u1.c3 (by decide) he
   refine hR (ri,c.size,(c.base:Int),c.stem,()) z ⟨own5.chg hz fun ad had he=>by
    obtain⟨cur,hcur⟩:=own5.elem ⟨ad,had,rfl⟩;exact nz hcur he,rfl,rfl,rfl⟩ ((u1.chg.trans hc5 (fun _ _ h=>h) fun q hq he=>by have he:q=b3:=he;omega).trans hz (fun _ _ h=>h) fun q hq hm=>?_)
   rcases List.mem_cons.1 hm with he|he
   ·omega
   ·have:=u1.mB q he;omega
  ·have hlen:(letE c.inn (edgesFrom 0 row)).length=1:=by
    rw[hsln]at heq;have:((letE c.inn (edgesFrom 0 row)).length:Int)=1:=by simpa using heq
    omega
   obtain⟨x,hls⟩:=List.length_eq_one_iff.1 hlen;rw[hls]at hcf u5;dsimp only at hcf;obtain⟨t,hxt,hit⟩:=letE_mem (inn:=c.inn) (l:=edgesFrom 0 row) (x:=x) (by rw[hls];exact List.mem_singleton.2 rfl)
   obtain⟨i,hri,hxi,ht0⟩:=Pl.edges_mem row 0 _ hxt;dsimp only at hri hxi ht0;rw[Nat.zero_add]at hxi;subst hxi;obtain⟨nt,rfl⟩:=Int.eq_ofNat_of_zero_le ht0;obtain⟨_,htn⟩:=hrv _ (List.mem_of_getElem? hri);have hgt:row.getD ((i:Nat):Int).toNat 0=((nt:Nat):Int):=by rw[Int.toNat_natCast,List.getD_eq_getElem?_getD,hri];rfl
   rw[hgt,Int.toNat_natCast]at hcf;have e10:at0 b10=Addr.mk b10 0 none:=rfl;refine LoadT.sc (s:=.sl) (x:=ri) (by rw[e10,cellOf u1.c10];rfl) ?_
   refine LoadT.sc (s:=.int .i64) (x:=(c.base:Int)) (by rw[e10,cellOf u1.c10];rfl) ?_
   refine u1.own.idx (t:=.sc .bool) c.base rfl (by show c.base<c.inn.length;omega) fun g2 hg2=>?_
   refine u1.own.store (s:=.bool) hg2 c.base (by show c.base<c.inn.length;omega) (x:=false) fun U2 ho2 hcU2 hz2=>?_
   obtain⟨cur,hcur⟩:=u1.own.elem ⟨_,hg2,rfl⟩;have hcur:U.heap[g2]? = some (.cells cur 4 (0,0)):=hcur;have keep2:∀ {q:Nat} {cs:Array Value} {e:TypeId} {fr:Nat × Nat},U.heap[q]? = some (.cells cs e fr)→e≠4→U2.heap[q]? = some (.cells cs e fr):=fun hq he=>hcU2.heap hq fun h=>ne_of_elem hq hcur he h
   have c10':=keep2 u1.c10 (by decide)
   refine LoadT.sc (s:=.int .i64) (x:=c.size) (by rw[e10,cellOf c10'];rfl) ?_
   rw[wrap64 (by omega) (by omega),e10]
   refine Store1.at c10' 1 (by show 1<4;decide) rfl fun U3 c10'' hcU3 hz3'=>?_
   have hd3:Chg Nil U3 U3.drew:=Chg.drew U3;have keep3:∀ {q:Nat} {cs:Array Value} {e:TypeId} {fr:Nat × Nat},U.heap[q]? = some (.cells cs e fr)→e≠4→q≠b10→U3.heap[q]? = some (.cells cs e fr):=fun hq he hne=>hcU3.heap (keep2 hq he) fun h=>hne h
   have l10g:g2≠b10:=fun h=>ne_of_elem hcur u1.c10 (by decide) h
   have lg2:=u1.lo g2 ⟨_,hg2,rfl⟩;have hN3:Chg Nil w U3:=(u1.chg.trans hcU2 (fun _ _ h=>h) fun q hq he=>by have he:q=g2:=he;omega).trans hcU3 (fun _ _ h=>h) fun q hq he=>by have he:q=b10:=he;omega
   have n1:b1≠b10:=fun h=>ne_of_elem u1.c1 u1.c10 (by decide) h
   have n26:b26≠b10:=fun h=>ne_of_elem u2 u1.c10 (by decide) h
   have s3:Chg (fun q=>q=g2∨q=b10) U U3:=hcU2.trans hcU3 (fun _ _ h=>.inl h) fun _ _ h=>.inr h
   have osl:∀ {e:TypeId} {t:Ty} {s:Sl} {xs:List t.den},OwnT U e t s xs→e≠4→e≠115→OwnT U3 e t s xs:=fun {e t s xs} h h1 h2=>h.chg s3 fun ad had he=>by
    obtain⟨cu,hcu⟩:=h.elem ⟨ad,had,rfl⟩;rcases he with he|he
    ·exact ne_of_elem hcu hcur h1 he
    ·exact ne_of_elem hcu u1.c10 h2 he
   have u5':=osl u5 (by decide) (by decide)
   have ho3:=ho2.chg hcU3 fun ad had he=>by
    rw[hg2]at had;cases had;exact l10g he
   refine LoadT.sc (s:=.sl) (x:=sn) (by rw[show at0 b1=Addr.mk b1 0 none from rfl,cellOf (w:=U3.drew) (keep3 u1.c1 (by decide) n1)];rfl) ?_
   refine LoadT.sc (s:=.int .i64) (x:=(c.base:Int)) (by rw[cellOf (w:=U3.drew) c10''];rfl) ?_
   refine(hsn.chg (hN3.then hd3) fun _ _ h=>h).get (t:=tL) c.base rfl hs0 ?_
   refine LoadT.sc (s:=.sl) (x:=sl) (by rw[cellOf0 (w:=U3.drew) (keep3 u2 (by decide) n26)];rfl) ?_
   refine(u5'.rd.chg hd3 fun _ _ h=>h).get (t:=tI) 0 rfl (x:=(i:Int)) rfl ?_
   refine(hrr.chg (hN3.then hd3) fun _ _ h=>h).get (t:=tI) i rfl hri ?_
   refine Store1.at (w:=U3.drew) c10'' 2 (by show 2<4;decide) rfl fun U4 d10 hcU4 hz4=>?_
   have keep4:∀ {q:Nat} {cs:Array Value} {e:TypeId} {fr:Nat × Nat},U.heap[q]? = some (.cells cs e fr)→e≠4→q≠b10→U4.heap[q]? = some (.cells cs e fr):=fun hq he hne=>hcU4.heap (keep3 hq he hne) fun h=>hne h
   have hN4:Chg Nil w U4:=(hN3.then hd3).trans hcU4 (fun _ _ h=>h) fun q hq he=>by have he:q=b10:=he;omega
   have u54:=(u5'.chg hd3 fun _ _ h=>h).chg hcU4 fun ad had he=>by
    obtain⟨cu,hcu⟩:=(u5'.chg hd3 fun _ _ h=>h).elem ⟨ad,had,rfl⟩
    exact ne_of_elem (w:=U3.drew) hcu c10'' (by decide) he
   have ho4:=(ho3.chg hd3 fun _ _ h=>h).chg hcU4 fun ad had he=>by
    rw[hg2]at had;cases had;exact l10g he
   have hd4:Chg Nil U4 U4.drew:=Chg.drew U4;refine⟨fun X=>Chg Nil U4 X,hd4,?_⟩
   refine LoadS.sc (s:=.str) (x:=c.stem) (fun X hX=>by rw[cellOf (hX.heap d10 fun h=>h)];rfl) ?_
   refine LoadS.sc (s:=.sl) (x:=sl) (fun X hX=>by rw[cellOf0 (hX.heap (keep4 u2 (by decide) n26) fun h=>h)];rfl) ?_
   refine u54.rd.idx (t:=tI) 0 rfl (x:=(i:Int)) rfl fun ad had=>?_
   have had0:=had 0 _ rfl;rw[add0]at had0;refine LoadS.sc (s:=.int .i64) (x:=(i:Int)) (fun X hX=>hX.cell had0 fun h=>h) ?_
   refine Ret.call (letter_ret (hl.nil (hN4.then hd4)) (i:Int)) ?_
   rintro _ U5 ⟨rfl,hcU5⟩
   have s5:=hd4.then hcU5
   refine⟨s5,?_⟩;refine New.mk fun b80 U6 hb80 hn80 _ hc80=>?_
   have s6:=s5.then hc80
   refine⟨s6,?_⟩;refine letter_string hn80 ?_;refine⟨s6,?_⟩;have hss:(c.stem ++ letS (i:Int)).size=c.stem.size+1:=by rw[ByteArray.size_append];rfl
   have hsl1:(letS (i:Int)).size=1:=rfl;refine⟨by rw[hsl1];omega,?_⟩
   have d16:=s6.heap d10 fun h=>h
   refine Store1.at d16 3 (by show 3<4;decide) rfl fun U7 f10 hcU7 _=>?_
   have keep7:∀ {q:Nat} {cs:Array Value} {e:TypeId} {fr:Nat × Nat},U.heap[q]? = some (.cells cs e fr)→e≠4→q≠b10→U7.heap[q]? = some (.cells cs e fr):=fun hq he hne=>hcU7.heap (s6.heap (keep4 hq he hne) fun h=>h) fun h=>hne h
   have hall:Chg (fun q=>q=g2∨q=b10) U U7:=(((s3.then hd3.nil).trans hcU4 (fun _ _ h=>h) fun _ _ h=>.inr h).then s6.nil).trans hcU7 (fun _ _ h=>h) fun _ _ h=>.inr h
   have nm:∀ r∈d :: rs,¬ (r=g2∨r=b10):=fun r hr he=>by
    have h1:=(u1.mks.cons hdm hdn).2 r hr;rcases he with he|he
    ·rw[he,hcur]at h1;cases h1
    ·rw[he,u1.c10]at h1;cases h1
   refine⟨⟨d :: rs,f,⟨c.inn.set c.base false,c.size-1,nt,c.stem ++ letS (i:Int)⟩,rfl,rfl,⟨?_,(u1.mks.cons hdm hdn).chg hall nm,fun r hr=>?_,keep7 u1.c1 (by decide) n1,keep7 u1.c3 (by decide) n3,f10,?_,u1.lo⟩,hcf,by show f+(c.stem ++ letS (i:Int)).size=N;rw[hss];omega,by simp[hil],by show nt<_;omega,by show c.size-1+((c.stem ++ letS (i:Int)).size:Int)=_;rw[hss];omega⟩,?_⟩
   ·exact u1.chg.trans hall (fun _ _ h=>h) fun q hq he=>by rcases he with he | he <;> omega
   ·rcases List.mem_cons.1 hr with he|he
    ·omega
    ·exact u1.mB r he
   ·refine(ho4.chg s6 fun _ _ h=>h).chg hcU7 fun ad had he=>?_
    rw[hg2]at had;cases had;exact l10g he
   ·have m1:U7.cell? ((at0 b10).add 3)=some (.string (c.stem ++ letS (i:Int))):=by rw[e10,cellOf f10];rfl
    have m0:V.cell? ((at0 b10).add 3)=some (.string c.stem):=by rw[e10,cellOf hV.c10];rfl
    show N-(match U7.cell? ((at0 b10).add 3) with | some (.string s)=>s.size | _=>0)<N-(match V.cell? ((at0 b10).add 3) with | some (.string s)=>s.size | _=>0)
    rw[m1,m0]
    show N-(c.stem ++ letS (i:Int)).size<N-c.stem.size
    rw[hss];omega
 ·rintro c' d U _ _ h;exact h.elim
theorem cored_ret {w:World}(hl:Laid w){x:Int × Int × Sl × Sl × Unit}{a:Aut}(ha:AutIn w x a){k:Int}(hc:a.check k=0)(hk:1≤k∧k≤8){N:Nat}(hN:N≤1000000){co:Co}(hf:coreF N a.next (core0 a.next)=some co) :
  Ret Tryd.prog 73 #[.agg #[.int .i64 x.1,.int .i64 x.2.1,x.2.2.1.v,x.2.2.2.1.v]] tC w fun y w'=>CoIn w' y co∧Chg Nil w w':=by
 obtain⟨x1,x2,sa,sn,_⟩:=x;obtain⟨_,_,hn1,hn2,_,_,hrows⟩:=check_spec hc;have hnn:sn.n=a.next.length:=by obtain⟨_,_,_,sls,h4,h5,_⟩:=ha.rd;rw[h4.len,h5]
 refine fold_cored.calls x1 x2 sa sn ?_;unfold fold_cored.sh;refine New.mk fun b1 w1 hb1 hh1 hs1 hc1=>?_
 refine New.mk fun b3 w2 hb3 hh3 hs3 hc3=>?_
 have h12:=hc3.heap hh1 fun h=>h
 have hc02:=hc1.then hc3
 have hd:Chg Nil w2 w2.drew:=Chg.drew w2;have z1:=hc1.size;have z2:=hc3.size;have hzd:w2.drew.heap.size=w2.heap.size:=rfl;have cl:∀ {W:World},Chg Nil w2 W→W.heap[b1]? = some _:=fun hW=>hW.heap h12 fun h=>h
 refine⟨fun W=>Chg Nil w2 W,hd,?_⟩
 refine LoadS.sc (s:=.sl) (x:=sn) (fun W hW=>by rw[cellOf (cl hW)];rfl) ?_
 refine LoadS.sc (s:=.sl) (x:=sn) (fun W hW=>by rw[cellOf (cl hW)];rfl) ?_
 have fin:∀ {W:World} {b10:Nat} {r:Sl} {inn:List Bool},Chg Nil w2 W→W.heap[b10]? = some (.cells #[r.v,.int .i64 ((sn.n:Nat):Int),.int .i64 0,.string ⟨#[]⟩] 115 (0,0))→w2.heap.size≤b10→OwnT W 4 (.sc .bool) r inn→inn.length=a.next.length→(∀ k,r.own k→w2.heap.size≤k) →
   coTail b1 b3 b10 (fun e w'=>∃ y,e = .returned (tC.val y)∧CoIn w' y co∧Chg Nil w w') W:=fun {W b10 r inn} hW h10 hb hr hi hrb=>
  coTail_ok (w:=w) hl ha hc hk hN hf (ri:=r) (inn0:=inn) (by rfl) hi (by omega) (by omega) (by omega)
   ⟨hc02.then hW,⟨List.nodup_nil,fun r hr=>by simp at hr⟩,by simp,cl hW,hW.heap hh3 fun h=>h,by rw[h10,hnn];rfl,hr,fun q hq=>by have:=hrb q hq;omega⟩ fun y W' h1 h2=>⟨y,rfl,h1,h2⟩
 have keep:∀ {W W':World} {b:Nat} {e:TypeId} {t:Ty} {s:Sl} {xs:List t.den} {c:Array Value},OwnT W e t s xs→e≠115→W.heap[b]? = some (.cells c 115 (0,0))→Chg (· = b) W W'→OwnT W' e t s xs:=fun {W W' b e t s xs c} h he hb hc=>
  h.chg hc fun ad had hq=>by
   obtain⟨cur,hcur⟩:=h.elem ⟨ad,had,rfl⟩;exact ne_of_elem hcur hb he hq
 have ch:∀ {W W':World} {b:Nat},Chg Nil w2 W→Chg (· = b) W W'→w2.heap.size≤b→Chg Nil w2 W':=fun hW hc hb=>hW.trans hc (fun _ _ h=>h) fun q hq hk=>by have hk:q=_:=hk;omega
 have z4:zeroIs Tryd.prog 4 (Sc.bool.val false):=(by kernel_rfl:(Tryd.prog.info? 4).bind (·.zero)=some (.bool false))
 refine⟨?_,?_⟩
 ·refine makeSlice_own (s:=.bool) ok24 z4 rfl a.next.length (by rw[hnn]) (by omega) (by simp only[maxLen];omega) fun g w3 ho3 hc3' hg=>?_
  have d3:=hd.then hc3'
  refine⟨d3,?_⟩;refine New.mk fun b10 w4 hb10 hn10 hz10 hc10=>?_
  have d4:=d3.then hc10
  refine⟨d4,?_⟩;have zz:=d3.size;refine StoreN.whole (vs:=[.slice (some ⟨g,0,none⟩) a.next.length a.next.length,.int .i64 ((sn.n:Nat):Int),.int .i64 0,.string ⟨#[]⟩]) hn10 rfl fun w5 hh5 hc5 _=>?_
  exact fin (r:=⟨some ⟨g,0,none⟩,a.next.length,a.next.length⟩) (ch d4 hc5 (by omega)) hh5 (by omega) (keep (ho3.chg hc10 fun _ _ h=>h) (by decide) hn10 hc5) (by simp) fun q ⟨ad,h1,h2⟩=>by cases h1;dsimp only at h2;omega
 ·refine New.mk fun b10 w3 hb10 hn10 hz10 hc10=>?_
  have d3:=hd.then hc10
  refine⟨d3,?_⟩;refine makeSlice_own (s:=.bool) ok24 z4 rfl a.next.length (by rw[hnn]) (by omega) (by simp only[maxLen];omega) fun g w4 ho4 hc4' hg=>?_
  have d4:=d3.then hc4'
  refine⟨d4,?_⟩;have zz:=d3.size;have h10:=hc4'.heap hn10 fun h=>h
  refine StoreN.whole (vs:=[.slice (some ⟨g,0,none⟩) a.next.length a.next.length,.int .i64 ((sn.n:Nat):Int),.int .i64 0,.string ⟨#[]⟩]) h10 rfl fun w5 hh5 hc5 _=>?_
  exact fin (r:=⟨some ⟨g,0,none⟩,a.next.length,a.next.length⟩) (ch d4 hc5 (by omega)) hh5 (by omega) (keep ho4 (by decide) h10 hc5) (by simp) fun q ⟨ad,h1,h2⟩=>by cases h1;dsimp only at h2;omega
theorem under140:Tryd.prog.underlying 140=some (.map 3 4):=by kernel_rfl
theorem zero4' (w:World):(zeroValue 4).run Tryd.prog w = .ok (.bool false) w:=by
 have z:(Tryd.prog.info? 4).bind (·.zero)=some (.bool false):=by kernel_rfl
 obtain⟨i,hi,hz⟩:=Option.bind_eq_some_iff.1 z;simp[zeroValue,typeInfo,hi,hz]
def MapI (w:World)(mb:Nat)(l:List (Int × Value)):Prop:=∃ es clock,w.heap[mb]? = some (.map es clock)∧ents es.toList l
theorem MapI.chg {w w':World}{mb:Nat}{l:List (Int × Value)}{S:Nat→Prop}(h:MapI w mb l)(hc:Chg S w w')(hs:¬ S mb):MapI w' mb l:=by
 obtain⟨es,c,h1,h2⟩:=h;exact⟨es,c,hc.heap h1 hs,h2⟩
theorem updateI_new {w:World}{mb:Nat}{l:List (Int × Value)}{ty e:TypeId}(hty:Tryd.prog.underlying ty=some (.map 3 e))(h:MapI w mb l){t:Int}(hn:∀ p∈l,p.1≠t)(v:Value) :
  ∃ w',(Instr.mapUpdate ty (.map (some mb)) (.int .i64 t) v).run Tryd.prog w = .ok () w'∧MapI w' mb (l ++ [(t,v)])∧Chg (· = mb) w w':=by
 obtain⟨es,c,h1,h2⟩:=h;have hf:=findNow_none .i64 t es.toList l 0 h2 hn;refine⟨w.putObj mb (.map (es.push { key:=.int .i64 t,val:=v,born:=c }) (c+1)),?_,⟨_,_,heap_putObj h1,?_⟩,Chg.putObj w _ rfl⟩
 ·simp[Instr.mapUpdate,run_underlying hty,getObj,setObj,Sem.run_bind,Sem.run,h1,Result.andThen,checkKey_int Tryd.prog w _ 9999 3 .i64 .i64 _ under3,Instr.findKey,run_underlying under3,hf,World.putObj]
 ·unfold ents at *;rw[Array.toList_push,List.map_append,h2,List.map_append];rfl
theorem lookupI {w:World}{mb:Nat}{l:List (Int × Value)}{ty e:TypeId}(hty:Tryd.prog.underlying ty=some (.map 3 e))(h:MapI w mb l)(t:Int){z:Value}(hz:(zeroValue e).run Tryd.prog w = .ok z w)(ok:Bool) :
  (Instr.lookup ty (.map (some mb)) (.int .i64 t) ok).run Tryd.prog w = .ok (match l.find? (fun p=>p.1 == t) with
   | some p=>if ok then .tuple #[p.2,.bool true] else p.2
   | none=>if ok then .tuple #[z,.bool false] else z) w:=by
 obtain⟨es,c,h1,h2⟩:=h;cases hl:l.find? (fun p=>p.1 == t) with
 | none=>
  have hf:=findNow_none .i64 t es.toList l 0 h2 (fun p hp he=>by
   have:=List.find?_eq_none.1 hl p hp;simp[he]at this)
  cases ok <;> simp[Instr.lookup,run_underlying hty,getObj,Sem.run_bind,Sem.run,h1,Result.andThen,checkKey_int Tryd.prog w _ 9999 3 .i64 .i64 _ under3,Instr.findKey,run_underlying under3,hf,hz]
 | some p=>
  obtain⟨hp,j,hj,hget,hno⟩:=List.find?_eq_some_iff_getElem.1 hl;have hp:p.1=t:=by simpa using hp
  have hf:=findNow_some .i64 t es.toList l 0 j p.2 h2 (by rw[List.getElem?_eq_getElem hj,hget,← hp]) (fun j' p' hj' hp' he=>by
   have hlt:=(List.getElem?_eq_some_iff.1 hp').1;have h3:=hno j' hj';rw[(List.getElem?_eq_some_iff.1 hp').2]at h3;simp[he]at h3)
  cases ok <;> simp[Instr.lookup,run_underlying hty,getObj,Sem.run_bind,Sem.run,h1,Result.andThen,checkKey_int Tryd.prog w _ 9999 3 .i64 .i64 _ under3,Instr.findKey,run_underlying under3,hf]
end Go.Proofs.YtffdjfkekdoeaaaDoor.Fo
end
section
namespace Go.Proofs.YtffdjfkekdoeaaaDoor
open Fw
noncomputable def fold_alike.ann:Ann where
 loops:=fun | 5=>[(5,.sc .adr),(6,.sc .adr),(7,.sc .adr),(8,.sc .adr),(11,.sc .map),(12,.sc .map),(13,.sc .sl),(14,.sc (.int .i64))] | 9=>[(5,.sc .adr),(6,.sc .adr),(7,.sc .adr),(8,.sc .adr),(11,.sc .map),(12,.sc .map),(13,.sc .sl),(14,.sc (.int .i64)),(15,.sc (.int .i64)),(48,.sc (.int .i64)),(49,.sc (.int .i64))] | _=>[]
 joins:=fun | 13=>some [(5,.sc .adr),(6,.sc .adr),(7,.sc .adr),(8,.sc .adr),(11,.sc .map),(12,.sc .map),(13,.sc .sl),(14,.sc (.int .i64)),(15,.sc (.int .i64)),(17,.sc (.int .i64)),(18,.sc (.int .i64)),(19,.sc .bool),(48,.sc (.int .i64)),(49,.sc (.int .i64))] | 15=>some [(5,.sc .adr),(6,.sc .adr),(7,.sc .adr),(8,.sc .adr),(11,.sc .map),(12,.sc .map),(13,.sc .sl),(14,.sc (.int .i64)),(15,.sc (.int .i64)),(17,.sc (.int .i64)),(18,.sc (.int .i64)),(19,.sc .bool),(48,.sc (.int .i64)),(49,.sc (.int .i64))] | 19=>some [(5,.sc .adr),(6,.sc .adr),(7,.sc .adr),(8,.sc .adr),(11,.sc .map),(12,.sc .map),(13,.sc .sl),(14,.sc (.int .i64)),(15,.sc (.int .i64)),(17,.sc (.int .i64)),(18,.sc (.int .i64)),(21,.sc .bool),(48,.sc (.int .i64)),(49,.sc (.int .i64))] | _=>none
noncomputable def fold_alike.body:Code:=match Tryd.f74.body with | some c=>c | none=>.skip
def fold_alike.sh (p0_0:Int)(p0_1:Int)(p0_2:Sl)(p0_3:Sl)(p1_0:Int)(p1_1:Int)(p1_2:Sl)(p1_3:Sl)(p2_0:Sl)(p2_1:Int)(p2_2:Int)(p2_3:ByteArray)(p3_0:Sl)(p3_1:Int)(p3_2:Int)(p3_3:ByteArray)(p4:Int)(R:Ending→World→Prop)(w:World):Prop:=
 New w (.cells #[(.int .i64 p0_0),(.int .i64 p0_1),(.slice p0_2.a p0_2.n p0_2.c),(.slice p0_3.a p0_3.n p0_3.c)] 27) fun b1 w2=>
 New w2 (.cells #[(.int .i64 p1_0),(.int .i64 p1_1),(.slice p1_2.a p1_2.n p1_2.c),(.slice p1_3.a p1_3.n p1_3.c)] 27) fun b3 w4=>
 New w4 (.cells #[(.slice p2_0.a p2_0.n p2_0.c),(.int .i64 p2_1),(.int .i64 p2_2),(.string p2_3)] 115) fun b5 w6=>
 New w6 (.cells #[(.slice p3_0.a p3_0.n p3_0.c),(.int .i64 p3_1),(.int .i64 p3_2),(.string p3_3)] 115) fun b7 w8=>
 New w8 (.map #[] 0) fun b9 w10=>
 LoadT (.sc (.int .i64)) w10 ((Addr.mk b5 0 none).add 2) fun x11=>
 RunU Tryd.prog (Instr.mapUpdate 139 (.map (some b9)) (.int .i64 x11) (.int .i64 p4)) w10 fun w12=>
 New w12 (.map #[] 0) fun b13 w14=>
 RunU Tryd.prog (Instr.mapUpdate 140 (.map (some b13)) (.int .i64 p4) (.bool true)) w14 fun w15=>
 LoadT (.sc (.int .i64)) w15 ((Addr.mk b5 0 none).add 2) fun x16=>
 New w15 (.cells #[(.int .i64 x16)] 3) fun b17 w18=>
 LoopT (σ:=Addr × Addr × Addr × Addr × Option Nat × Option Nat × Sl × Int × Unit) ((Addr.mk b1 0 none),(Addr.mk b3 0 none),(Addr.mk b5 0 none),(Addr.mk b7 0 none),(some b9),(some b13),⟨(some (Addr.mk b17 0 none)),1,1⟩,0,()) w18 fun l19 g20 w21 I22=>
 Br (decide ((l19.2.2.2.2.2.2.2.1:Int)<((l19.2.2.2.2.2.2.1.n:Nat):Int)))
 (Idx l19.2.2.2.2.2.2.1.a l19.2.2.2.2.2.2.1.n 1 l19.2.2.2.2.2.2.2.1 fun a23=>
 LoadT (.sc (.int .i64)) w21 a23 fun x24=>
 LoadT (.sc .sl) w21 (l19.1.add 3) fun x25=>
 Idx x25.a x25.n 1 x24 fun a26=>
 LoadT (.sc .sl) w21 a26 fun x27=>
 LoopT (σ:=Addr × Addr × Addr × Addr × Option Nat × Option Nat × Sl × Int × Int × Int × Int × Unit) (l19.1,l19.2.1,l19.2.2.1,l19.2.2.2.1,l19.2.2.2.2.1,l19.2.2.2.2.2.1,l19.2.2.2.2.2.2.1,l19.2.2.2.2.2.2.2.1,x24,((x27.n:Nat):Int),0,()) w21 fun l28 g29 w30 I31=>
 Br (decide ((l28.2.2.2.2.2.2.2.2.2.2.1:Int)<l28.2.2.2.2.2.2.2.2.2.1))
 (LoadT (.sc .sl) w30.drew (l28.1.add 3) fun x32=>
 Idx x32.a x32.n 1 l28.2.2.2.2.2.2.2.2.1 fun a33=>
 LoadT (.sc .sl) w30.drew a33 fun x34=>
 Idx x34.a x34.n 1 l28.2.2.2.2.2.2.2.2.2.2.1 fun a35=>
 LoadT (.sc (.int .i64)) w30.drew a35 fun x36=>
 LoadT (.sc .sl) w30.drew (l28.2.1.add 3) fun x37=>
 ∃ r38:Ty.den (.sc (.int .i64)),(Instr.lookup 139 (.map l28.2.2.2.2.1) (.int .i64 l28.2.2.2.2.2.2.2.2.1) false).run Tryd.prog w30.drew = .ok (Ty.val (.sc (.int .i64)) r38) w30.drew ∧
 Idx x37.a x37.n 1 r38 fun a39=>
 LoadT (.sc .sl) w30.drew a39 fun x40=>
 Idx x40.a x40.n 1 l28.2.2.2.2.2.2.2.2.2.2.1 fun a41=>
 LoadT (.sc (.int .i64)) w30.drew a41 fun x42=>
 Join (σ:=Addr × Addr × Addr × Addr × Option Nat × Option Nat × Sl × Int × Int × Int × Int × Bool × Int × Int × Unit) (fun j45 g44 w49=>
 Join (σ:=Addr × Addr × Addr × Addr × Option Nat × Option Nat × Sl × Int × Int × Int × Int × Bool × Int × Int × Unit) (fun j52 g51 w56=>
 Br (!j52.2.2.2.2.2.2.2.2.2.2.2.1)
 (I31 (j52.1,j52.2.1,j52.2.2.1,j52.2.2.2.1,j52.2.2.2.2.1,j52.2.2.2.2.2.1,j52.2.2.2.2.2.2.1,j52.2.2.2.2.2.2.2.1,j52.2.2.2.2.2.2.2.2.1,j52.2.2.2.2.2.2.2.2.2.2.2.2.1,(IntKind.wrap .i64 (j52.2.2.2.2.2.2.2.2.2.2.2.2.2.1+1)),()) w56)
 (RunN Tryd.prog [.sc (.int .i64),.sc .bool] (Instr.lookup 139 (.map j52.2.2.2.2.1) (.int .i64 j52.2.2.2.2.2.2.2.2.2.1) true) w56 fun r57 w58=>
 Join (σ:=Addr × Addr × Addr × Addr × Option Nat × Option Nat × Sl × Int × Int × Int × Int × Bool × Int × Int × Unit) (fun j61 g60 w66=>
 Br (!j61.2.2.2.2.2.2.2.2.2.2.2.1)
 (RunU Tryd.prog (Instr.mapUpdate 139 (.map j61.2.2.2.2.1) (.int .i64 j61.2.2.2.2.2.2.2.2.2.1) (.int .i64 j61.2.2.2.2.2.2.2.2.2.2.1)) w66 fun w67=>
 RunU Tryd.prog (Instr.mapUpdate 140 (.map j61.2.2.2.2.2.1) (.int .i64 j61.2.2.2.2.2.2.2.2.2.2.1) (.bool true)) w67 fun w68=>
 New w68 (.cells #[(.int .i64 j61.2.2.2.2.2.2.2.2.2.1)] 3) fun b69 w70=>
 RunT Tryd.prog (.sc .sl) (Builtin.append_ #[85,85] 85 #[(.slice j61.2.2.2.2.2.2.1.a j61.2.2.2.2.2.2.1.n j61.2.2.2.2.2.2.1.c),(.slice (some (Addr.mk b69 0 none)) 1 1)]) w70 fun r71 w72=>
 I31 (j61.1,j61.2.1,j61.2.2.1,j61.2.2.2.1,j61.2.2.2.2.1,j61.2.2.2.2.2.1,r71,j61.2.2.2.2.2.2.2.1,j61.2.2.2.2.2.2.2.2.1,j61.2.2.2.2.2.2.2.2.2.2.2.2.1,(IntKind.wrap .i64 (j61.2.2.2.2.2.2.2.2.2.2.2.2.2.1+1)),()) w72)
 (I31 (j61.1,j61.2.1,j61.2.2.1,j61.2.2.2.1,j61.2.2.2.2.1,j61.2.2.2.2.2.1,j61.2.2.2.2.2.2.1,j61.2.2.2.2.2.2.2.1,j61.2.2.2.2.2.2.2.2.1,j61.2.2.2.2.2.2.2.2.2.2.2.2.1,(IntKind.wrap .i64 (j61.2.2.2.2.2.2.2.2.2.2.2.2.2.1+1)),()) w66)) fun J59=>
 Br r57.2.1
 (Br ((r57.1:Int) != j52.2.2.2.2.2.2.2.2.2.2.1)
 (Br true
 (R (.returned (.bool false)) w58)
 (J59 (j52.1,j52.2.1,j52.2.2.1,j52.2.2.2.1,j52.2.2.2.2.1,j52.2.2.2.2.2.1,j52.2.2.2.2.2.2.1,j52.2.2.2.2.2.2.2.1,j52.2.2.2.2.2.2.2.2.1,j52.2.2.2.2.2.2.2.2.2.1,j52.2.2.2.2.2.2.2.2.2.2.1,r57.2.1,j52.2.2.2.2.2.2.2.2.2.2.2.2.1,j52.2.2.2.2.2.2.2.2.2.2.2.2.2.1,()) w58))
 (Br (!r57.2.1)
 (RunT Tryd.prog (.sc .bool) (Instr.lookup 140 (.map j52.2.2.2.2.2.1) (.int .i64 j52.2.2.2.2.2.2.2.2.2.2.1) false) w58 fun r62 w63=>
 Br r62
 (R (.returned (.bool false)) w63)
 (J59 (j52.1,j52.2.1,j52.2.2.1,j52.2.2.2.1,j52.2.2.2.2.1,j52.2.2.2.2.2.1,j52.2.2.2.2.2.2.1,j52.2.2.2.2.2.2.2.1,j52.2.2.2.2.2.2.2.2.1,j52.2.2.2.2.2.2.2.2.2.1,j52.2.2.2.2.2.2.2.2.2.2.1,r57.2.1,j52.2.2.2.2.2.2.2.2.2.2.2.2.1,j52.2.2.2.2.2.2.2.2.2.2.2.2.2.1,()) w63))
 (Br false
 (R (.returned (.bool false)) w58)
 (J59 (j52.1,j52.2.1,j52.2.2.1,j52.2.2.2.1,j52.2.2.2.2.1,j52.2.2.2.2.2.1,j52.2.2.2.2.2.2.1,j52.2.2.2.2.2.2.2.1,j52.2.2.2.2.2.2.2.2.1,j52.2.2.2.2.2.2.2.2.2.1,j52.2.2.2.2.2.2.2.2.2.2.1,r57.2.1,j52.2.2.2.2.2.2.2.2.2.2.2.2.1,j52.2.2.2.2.2.2.2.2.2.2.2.2.2.1,()) w58))))
 (Br (!r57.2.1)
 (RunT Tryd.prog (.sc .bool) (Instr.lookup 140 (.map j52.2.2.2.2.2.1) (.int .i64 j52.2.2.2.2.2.2.2.2.2.2.1) false) w58 fun r64 w65=>
 Br r64
 (R (.returned (.bool false)) w65)
 (J59 (j52.1,j52.2.1,j52.2.2.1,j52.2.2.2.1,j52.2.2.2.2.1,j52.2.2.2.2.2.1,j52.2.2.2.2.2.2.1,j52.2.2.2.2.2.2.2.1,j52.2.2.2.2.2.2.2.2.1,j52.2.2.2.2.2.2.2.2.2.1,j52.2.2.2.2.2.2.2.2.2.2.1,r57.2.1,j52.2.2.2.2.2.2.2.2.2.2.2.2.1,j52.2.2.2.2.2.2.2.2.2.2.2.2.2.1,()) w65))
 (Br false
 (R (.returned (.bool false)) w58)
 (J59 (j52.1,j52.2.1,j52.2.2.1,j52.2.2.2.1,j52.2.2.2.2.1,j52.2.2.2.2.2.1,j52.2.2.2.2.2.2.1,j52.2.2.2.2.2.2.2.1,j52.2.2.2.2.2.2.2.2.1,j52.2.2.2.2.2.2.2.2.2.1,j52.2.2.2.2.2.2.2.2.2.2.1,r57.2.1,j52.2.2.2.2.2.2.2.2.2.2.2.2.1,j52.2.2.2.2.2.2.2.2.2.2.2.2.2.1,()) w58))))) fun J50=>
 Br (decide ((j45.2.2.2.2.2.2.2.2.2.2.1:Int) ≥ 0))
 (LoadT (.sc .sl) w49 (j45.2.2.2.1.add 0) fun x53=>
 Idx x53.a x53.n 1 j45.2.2.2.2.2.2.2.2.2.2.1 fun a54=>
 LoadT (.sc .bool) w49 a54 fun x55=>
 Br (!(j45.2.2.2.2.2.2.2.2.2.2.2.1 == x55))
 (R (.returned (.bool false)) w49)
 (J50 (j45.1,j45.2.1,j45.2.2.1,j45.2.2.2.1,j45.2.2.2.2.1,j45.2.2.2.2.2.1,j45.2.2.2.2.2.2.1,j45.2.2.2.2.2.2.2.1,j45.2.2.2.2.2.2.2.2.1,j45.2.2.2.2.2.2.2.2.2.1,j45.2.2.2.2.2.2.2.2.2.2.1,j45.2.2.2.2.2.2.2.2.2.2.2.1,j45.2.2.2.2.2.2.2.2.2.2.2.2.1,j45.2.2.2.2.2.2.2.2.2.2.2.2.2.1,()) w49))
 (Br (!(j45.2.2.2.2.2.2.2.2.2.2.2.1 == false))
 (R (.returned (.bool false)) w49)
 (J50 (j45.1,j45.2.1,j45.2.2.1,j45.2.2.2.1,j45.2.2.2.2.1,j45.2.2.2.2.2.1,j45.2.2.2.2.2.2.1,j45.2.2.2.2.2.2.2.1,j45.2.2.2.2.2.2.2.2.1,j45.2.2.2.2.2.2.2.2.2.1,j45.2.2.2.2.2.2.2.2.2.2.1,j45.2.2.2.2.2.2.2.2.2.2.2.1,j45.2.2.2.2.2.2.2.2.2.2.2.2.1,j45.2.2.2.2.2.2.2.2.2.2.2.2.2.1,()) w49))) fun J43=>
 Br (decide ((x36:Int) ≥ 0))
 (LoadT (.sc .sl) w30.drew (l28.2.2.1.add 0) fun x46=>
 Idx x46.a x46.n 1 x36 fun a47=>
 LoadT (.sc .bool) w30.drew a47 fun x48=>
 J43 (l28.1,l28.2.1,l28.2.2.1,l28.2.2.2.1,l28.2.2.2.2.1,l28.2.2.2.2.2.1,l28.2.2.2.2.2.2.1,l28.2.2.2.2.2.2.2.1,l28.2.2.2.2.2.2.2.2.1,x36,x42,x48,l28.2.2.2.2.2.2.2.2.2.1,l28.2.2.2.2.2.2.2.2.2.2.1,()) w30.drew)
 (J43 (l28.1,l28.2.1,l28.2.2.1,l28.2.2.2.1,l28.2.2.2.2.1,l28.2.2.2.2.2.1,l28.2.2.2.2.2.2.1,l28.2.2.2.2.2.2.2.1,l28.2.2.2.2.2.2.2.2.1,x36,x42,false,l28.2.2.2.2.2.2.2.2.2.1,l28.2.2.2.2.2.2.2.2.2.2.1,()) w30.drew))
 (I22 (l28.1,l28.2.1,l28.2.2.1,l28.2.2.2.1,l28.2.2.2.2.1,l28.2.2.2.2.2.1,l28.2.2.2.2.2.2.1,(IntKind.wrap .i64 (l28.2.2.2.2.2.2.2.1+1)),()) w30))
 (R (.returned (.bool true)) w21)
theorem fold_alike.calls (p0_0:Int)(p0_1:Int)(p0_2:Sl)(p0_3:Sl)(p1_0:Int)(p1_1:Int)(p1_2:Sl)(p1_3:Sl)(p2_0:Sl)(p2_1:Int)(p2_2:Int)(p2_3:ByteArray)(p3_0:Sl)(p3_1:Int)(p3_2:Int)(p3_3:ByteArray)(p4:Int){R:Ending→World→Prop}{w:World}(h:fold_alike.sh p0_0 p0_1 p0_2 p0_3 p1_0 p1_1 p1_2 p1_3 p2_0 p2_1 p2_2 p2_3 p3_0 p3_1 p3_2 p3_3 p4 R w):Calls Tryd.prog 74 #[(.agg #[(.int .i64 p0_0),(.int .i64 p0_1),(.slice p0_2.a p0_2.n p0_2.c),(.slice p0_3.a p0_3.n p0_3.c)]),(.agg #[(.int .i64 p1_0),(.int .i64 p1_1),(.slice p1_2.a p1_2.n p1_2.c),(.slice p1_3.a p1_3.n p1_3.c)]),(.agg #[(.slice p2_0.a p2_0.n p2_0.c),(.int .i64 p2_1),(.int .i64 p2_2),(.string p2_3)]),(.agg #[(.slice p3_0.a p3_0.n p3_0.c),(.int .i64 p3_1),(.int .i64 p3_2),(.string p3_3)]),(.int .i64 p4)] w R:=calls_of_wpc mixed Tryd.func74 (by kernel_rfl) (by kernel_rfl) ((show _=wpc Tryd.prog fold_alike.ann fold_alike.body (fnKs Tryd.prog Tryd.f74 R) [] (env0 #[(.agg #[(.int .i64 p0_0),(.int .i64 p0_1),(.slice p0_2.a p0_2.n p0_2.c),(.slice p0_3.a p0_3.n p0_3.c)]),(.agg #[(.int .i64 p1_0),(.int .i64 p1_1),(.slice p1_2.a p1_2.n p1_2.c),(.slice p1_3.a p1_3.n p1_3.c)]),(.agg #[(.slice p2_0.a p2_0.n p2_0.c),(.int .i64 p2_1),(.int .i64 p2_2),(.string p2_3)]),(.agg #[(.slice p3_0.a p3_0.n p3_0.c),(.int .i64 p3_1),(.int .i64 p3_2),(.string p3_3)]),(.int .i64 p4)]) w by kernel_rfl).mp h)
end Go.Proofs.YtffdjfkekdoeaaaDoor
end
section
namespace Go.Proofs.YtffdjfkekdoeaaaDoor.Pl
open Fw Wd Fo Rf
theorem nodup_sub {α:Type} [DecidableEq α]:∀ (a b:List α),a.Nodup→(∀ x∈a,x∈b)→a.length≤b.length
 | [],b,_,_=>Nat.zero_le _
 | x :: a,b,hn,h=>by
  obtain⟨h1,h2⟩:=List.nodup_cons.1 hn;have hx:=h x (by simp)
  have:=nodup_sub a (b.erase x) h2 fun y hy=>by
   have hne:y≠x:=fun he=>h1 (he ▸ hy)
   exact(List.mem_erase_of_ne hne).2 (h y (by simp[hy]))
  rw[List.length_erase_of_mem hx]at this;have hpos:0<b.length:=List.length_pos_of_mem hx;simp only[List.length_cons];omega
end Go.Proofs.YtffdjfkekdoeaaaDoor.Pl
end
section
namespace Go.Proofs.YtffdjfkekdoeaaaDoor.Fo
open Fw Wd Rf Pl
def thF (inn:List Bool)(t:Int):Bool:=decide (0≤t) && inn.getD t.toNat false
def lookN (q:List (Nat × Nat))(t:Int):Option Nat:=(q.find? fun p=>((p.1:Nat):Int) == t).map (·.2)
def takN (q:List (Nat × Nat))(u:Int):Bool:=(q.find? fun p=>((p.2:Nat):Int) == u).isSome
def alX (ia ib:List Bool):List (Int × Int)→List (Nat × Nat)→Option (List (Nat × Nat))
 | [],q=>some q
 | (t,v) :: l,q=>
  if thF ia t≠thF ib v then none
  else if thF ia t=false then alX ia ib l q
  else match lookN q t with
   | some u=>if (u:Int)≠v then none else alX ia ib l q
   | none=>if takN q v=true then none else alX ia ib l (q ++ [(t.toNat,v.toNat)])
def alQ (nx ny:List (List Int))(ia ib:List Bool):Nat→Nat→List (Nat × Nat)→Option Bool
 | 0,_,_=>none
 | n+1,i,q=>
  match q[i]? with
  | none=>some true
  | some (s,u)=>
   match alX ia ib ((nx.getD s []).zip (ny.getD u [])) q with
   | none=>some false
   | some q'=>alQ nx ny ia ib n (i+1) q'
def m1L (q:List (Nat × Nat)):List (Int × Value):=q.map fun p=>((p.1:Int),.int .i64 (p.2:Int))
def m2L (q:List (Nat × Nat)):List (Int × Value):=q.map fun p=>((p.2:Int),.bool true)
theorem m1_find (q:List (Nat × Nat))(t:Int):(m1L q).find? (fun p=>p.1 == t)=(q.find? fun p=>((p.1:Nat):Int) == t).map fun p=>((p.1:Int),.int .i64 (p.2:Int)):=by
 unfold m1L;rw[List.find?_map];rfl
theorem m2_find (q:List (Nat × Nat))(t:Int):(m2L q).find? (fun p=>p.1 == t)=(q.find? fun p=>((p.2:Nat):Int) == t).map fun p=>((p.2:Int),.bool true):=by
 unfold m2L;rw[List.find?_map];rfl
structure QOk (n m:Nat)(q:List (Nat × Nat)):Prop where
 keys:(q.map (·.1)).Nodup
 lt:∀ p∈q,p.1<n∧p.2<m
theorem QOk.look {n m:Nat}{q:List (Nat × Nat)}(h:QOk n m q){i s u:Nat}(hi:q[i]? = some (s,u)):q.find? (fun p=>((p.1:Nat):Int) == (s:Int))=some (s,u):=by
 cases hf:q.find? (fun p=>((p.1:Nat):Int) == (s:Int)) with
 | none=>
  have:=List.find?_eq_none.1 hf _ (List.mem_of_getElem? hi);simp at this
 | some p=>
  obtain⟨hp,j,hj,hget,hno⟩:=List.find?_eq_some_iff_getElem.1 hf
  have hp:p.1=s:=by have:((p.1:Nat):Int)=s:=by simpa using hp
                    omega
  obtain⟨hil,hie⟩:=List.getElem?_eq_some_iff.1 hi;have:j=i:=(List.getElem_inj (xs:=q.map (·.1)) (i:=j) (j:=i) (h₀:=by simpa using hj) (h₁:=by simpa using hil) h.keys).1 (by simp[hget,hie,hp])
  subst this;rw[hget]at hie;rw[hie]
theorem QOk.len {n m:Nat}{q:List (Nat × Nat)}(h:QOk n m q):q.length≤n:=by
 have:=nodup_sub (q.map (·.1)) (List.range n) h.keys (fun x hx=>by
  obtain⟨p,hp,rfl⟩:=List.mem_map.1 hx;exact List.mem_range.2 (h.lt p hp).1)
 simpa using this
theorem QOk.snoc {n m:Nat}{q:List (Nat × Nat)}(h:QOk n m q){t u:Nat}(ht:lookN q (t:Int)=none)(h1:t<n)(h2:u<m):QOk n m (q ++ [(t,u)]):=by
 refine⟨?_,fun p hp=>?_⟩
 ·rw[List.map_append,List.nodup_append];refine⟨h.keys,by simp,fun a ha b hb he=>?_⟩
  simp only[List.map_cons,List.map_nil,List.mem_singleton]at hb;subst hb;subst he;obtain⟨p,hp,he⟩:=List.mem_map.1 ha;unfold lookN at ht;have:=List.find?_eq_none.1 (Option.map_eq_none_iff.1 ht) p hp;simp[he]at this
 ·rcases List.mem_append.1 hp with hp|hp
  ·exact h.lt p hp
  ·rw[List.mem_singleton.1 hp];exact⟨h1,h2⟩
structure Al (w W:World)(b1 b3 b5 b7 m1 m2:Nat)(av bv pv qv:Array Value)(sq:Sl)(q:List (Nat × Nat)):Prop where
 chg:Chg Nil w W
 c1:W.heap[b1]? = some (.cells av 27 (0,0))
 c3:W.heap[b3]? = some (.cells bv 27 (0,0))
 c5:W.heap[b5]? = some (.cells pv 115 (0,0))
 c7:W.heap[b7]? = some (.cells qv 115 (0,0))
 k1:MapI W m1 (m1L q)
 k2:MapI W m2 (m2L q)
 own:OwnN W sq (q.map (·.1))
 lo:∀ k,sq.own k→w.heap.size≤k
 l1:w.heap.size≤m1
 l2:w.heap.size≤m2
 ne:m1≠m2
theorem Al.nil {w W W':World}{b1 b3 b5 b7 m1 m2:Nat}{av bv pv qv:Array Value}{sq:Sl}{q:List (Nat × Nat)}(h:Al w W b1 b3 b5 b7 m1 m2 av bv pv qv sq q)(hc:Chg Nil W W'):Al w W' b1 b3 b5 b7 m1 m2 av bv pv qv sq q:=
 ⟨h.chg.then hc,hc.heap h.c1 fun h=>h,hc.heap h.c3 fun h=>h,hc.heap h.c5 fun h=>h,hc.heap h.c7 fun h=>h,h.k1.chg hc fun h=>h,h.k2.chg hc fun h=>h,h.own.chg hc fun _ _ h=>h,h.lo,h.l1,h.l2,h.ne⟩
theorem map_ne {w:World}{mb k:Nat}{l:List (Int × Value)}(h:MapI w mb l){cs:Array Value}{e:TypeId}{f:Nat × Nat}(hk:w.heap[k]? = some (.cells cs e f)):k≠mb:=fun he=>by
 obtain⟨es,c,h1,_⟩:=h;rw[he,h1]at hk;cases hk
theorem Al.add {w W:World}{b1 b3 b5 b7 m1 m2:Nat}{av bv pv qv:Array Value}{sq:Sl}{q:List (Nat × Nat)}(h:Al w W b1 b3 b5 b7 m1 m2 av bv pv qv sq q){t u:Nat}(ht:lookN q (t:Int)=none)(hu:takN q (u:Int)=false)(hq:q.length≤1000000)
  {K:Sl→World→Prop} (k:∀ sq' W',Al w W' b1 b3 b5 b7 m1 m2 av bv pv qv sq' (q ++ [(t,u)])→K sq' W') :
  RunU Tryd.prog (Instr.mapUpdate 139 (.map (some m1)) (.int .i64 (t:Int)) (.int .i64 (u:Int))) W fun w67=>
   RunU Tryd.prog (Instr.mapUpdate 140 (.map (some m2)) (.int .i64 (u:Int)) (.bool true)) w67 fun w68=>
   New w68 (.cells #[(.int .i64 (t:Int))] 3) fun b69 w70=>
   RunT Tryd.prog (.sc .sl) (Builtin.append_ #[85,85] 85 #[(.slice sq.a sq.n sq.c),(.slice (some (Addr.mk b69 0 none)) 1 1)]) w70 fun r71 w72=>K r71 w72:=by
 have ow:∀ {W:World} {sq:Sl} {l:List Nat} (ho:OwnN W sq l) {mb:Nat} {l':List (Int × Value)} (hm:MapI W mb l'),∀ ad,sq.a=some ad→¬ ad.block=mb:=fun {W sq l} ho {mb l'} hm ad had he=>by
  obtain⟨cur,hcur⟩:=ho.elem ⟨ad,had,rfl⟩;exact map_ne hm hcur he
 obtain⟨W1,hr1,hk1,hc1⟩:=updateI_new (ty:=139) under139 h.k1 (t:=(t:Int)) (fun p hp he=>by
  unfold lookN at ht;have hn:=Option.map_eq_none_iff.1 ht;unfold m1L at hp;obtain⟨p',hp',rfl⟩:=List.mem_map.1 hp;have:=List.find?_eq_none.1 hn p' hp';simp only[beq_iff_eq]at this;exact this he) (.int .i64 (u:Int))
 refine⟨W1,hr1,?_⟩;have hk2:MapI W1 m2 (m2L q):=h.k2.chg hc1 fun he=>h.ne he.symm
 obtain⟨W2,hr2,hk2',hc2⟩:=updateI_new (ty:=140) under140 hk2 (t:=(u:Int)) (fun p hp he=>by
  unfold m2L at hp;obtain⟨p',hp',rfl⟩:=List.mem_map.1 hp;unfold takN at hu;have hn:q.find? (fun p=>((p.2:Nat):Int) == (u:Int))=none:=by simpa using hu
  have:=List.find?_eq_none.1 hn p' hp';simp only[beq_iff_eq]at this;exact this he) (.bool true)
 refine⟨W2,hr2,?_⟩;have o2:OwnN W2 sq (q.map (·.1)):=(h.own.chg hc1 (ow h.own h.k1)).chg hc2 (ow (h.own.chg hc1 (ow h.own h.k1)) hk2);refine New.mk fun b69 W3 hb hn hz hc3=>?_
 have o3:=o2.chg hc3 fun _ _ h=>h
 refine OwnT.append (t:=tI) (m:=1) ok85 rfl (by decide) o3 [(t:Int)] rfl (by decide) (fun j v hv=>by rw[cellOf hn];simpa[Ty.cells] using hv) (by simp;omega) (by simp only[maxLen];simp;omega) fun sq' W4 ho4 hc4 hown=>?_
 have q1:=hk1.chg hc2 fun he=>h.ne he
 have e1:m1L (q ++ [(t,u)])=m1L q ++ [((t:Int),.int .i64 (u:Int))]:=by unfold m1L;rw[List.map_append];rfl
 have e2:m2L (q ++ [(t,u)])=m2L q ++ [((u:Int),.bool true)]:=by unfold m2L;rw[List.map_append];rfl
 have ne4:∀ {k:Nat} {cs:Array Value} {e:TypeId} {f:Nat × Nat},W3.heap[k]? = some (.cells cs e f)→e≠3→¬ sq.own k:=fun hk he hs=>by
  obtain⟨cur,hcur⟩:=o3.elem hs;exact ne_of_elem hcur hk (Ne.symm he) rfl
 have nm4:∀ {mb:Nat} {l:List (Int × Value)},MapI W3 mb l→¬ sq.own mb:=fun hm hs=>by
  obtain⟨cur,hcur⟩:=o3.elem hs;exact map_ne hm hcur rfl
 have up:∀ {k:Nat} {cs:Array Value} {e:TypeId} {f:Nat × Nat},W.heap[k]? = some (.cells cs e f)→e≠3→W4.heap[k]? = some (.cells cs e f):=fun hk he=>by
  have h1:=hc1.heap hk fun hh=>map_ne h.k1 hk hh
  have h2:=hc2.heap h1 fun hh=>map_ne hk2 h1 hh
  have h3:=hc3.heap h2 fun h=>h
  exact hc4.heap h3 (ne4 h3 he)
 have p1:=q1.chg hc3 fun h=>h
 have p2:=hk2'.chg hc3 fun h=>h
 have zs:=(h.chg.size);refine k sq' W4 ⟨?_,up h.c1 (by decide),up h.c3 (by decide),up h.c5 (by decide),up h.c7 (by decide),by rw[e1];exact p1.chg hc4 (nm4 p1),by rw[e2];exact p2.chg hc4 (nm4 p2),?_,fun j hj=>?_,h.l1,h.l2,h.ne⟩
 ·refine(((h.chg.trans hc1 (fun _ _ h=>h) fun i hi he=>?_).trans hc2 (fun _ _ h=>h) fun i hi he=>?_).then hc3).trans hc4 (fun _ _ h=>h) fun i hi he=>?_
  ·have he:i=m1:=he;have:=h.l1;omega
  ·have he:i=m2:=he;have:=h.l2;omega
  ·have:=h.lo i he;omega
 ·unfold OwnN;rw[List.map_append,List.map_append];exact ho4
 ·rcases hown j hj with h1|h1
  ·exact h.lo j h1
  ·have:=hc1.size;have:=hc2.size;have:=hc3.size;omega
theorem alike_ret {w:World}{k:Int}{x y:Int × Int × Sl × Sl × Unit}{a b:Aut}(ha:AutIn w x a)(hb:AutIn w y b)(hc:a.check k=0)(hd:b.check k=0)(hk:1≤k∧k≤8)
  {p q:Sl × Int × Int × ByteArray × Unit} {ca cb:Co} (hp:CoIn w p ca) (hq:CoIn w q cb) (lp:ca.inn.length=a.next.length) (lq:cb.inn.length=b.next.length) (bp:ca.base<a.next.length) {state:Nat} (hst:state<b.next.length)
  {N:Nat} {res:Bool} (hf:alQ a.next b.next ca.inn cb.inn N 0 [(ca.base,state)]=some res) :
  Ret Tryd.prog 74 #[.agg #[.int .i64 x.1,.int .i64 x.2.1,x.2.2.1.v,x.2.2.2.1.v],.agg #[.int .i64 y.1,.int .i64 y.2.1,y.2.2.1.v,y.2.2.2.1.v],.agg #[p.1.v,.int .i64 p.2.1,.int .i64 p.2.2.1,.string p.2.2.2.1],.agg #[q.1.v,.int .i64 q.2.1,.int .i64 q.2.2.1,.string q.2.2.2.1],.int .i64 (state:Int)] (.sc .bool) w
   fun z w'=>z=res∧Chg Nil w w':=by
 obtain⟨x1,x2,sa,sn,_⟩:=x;obtain⟨y1,y2,ta,tn,_⟩:=y;obtain⟨p1,p2,p3,p4,_⟩:=p;obtain⟨q1,q2,q3,q4,_⟩:=q;obtain⟨_,_,n1,n2,_,_,hrows⟩:=check_spec hc;obtain⟨_,_,m1',m2',_,_,hrows'⟩:=check_spec hd;obtain⟨_,_,_,sls,hsn,hsl,hrd,_⟩:=ha.rd;obtain⟨_,_,_,tls,htn,htl,hrd',_⟩:=hb.rd;have hsn:RdT w tL sn sls:=hsn;have htn:RdT w tL tn tls:=htn;have hpi:RdT w (.sc .bool) p1 ca.inn:=hp.inn.rd;have hqi:RdT w (.sc .bool) q1 cb.inn:=hq.inn.rd
 have hp3:p3=(ca.base:Int):=hp.base;refine fold_alike.calls x1 x2 sa sn y1 y2 ta tn p1 p2 p3 p4 q1 q2 q3 q4 (state:Int) ?_;unfold fold_alike.sh;refine New.mk fun b1 w1 hb1 hh1 hs1 hc1=>?_
 refine New.mk fun b3 w2 hb3 hh3 hs3 hc3=>?_
 refine New.mk fun b5 w3 hb5 hh5 hs5 hc5=>?_
 refine New.mk fun b7 w4 hb7 hh7 hs7 hc7=>?_
 refine New.mk fun b9 w5 hb9 hh9 hs9 hc9=>?_
 have d13:=hc3.then hc5
 have h5:=hc9.heap (hc7.heap hh5 fun h=>h) fun h=>h
 have h7:=hc9.heap hh7 fun h=>h
 have h3:=hc9.heap (hc7.heap (hc5.heap hh3 fun h=>h) fun h=>h) fun h=>h
 have h1:=hc9.heap (hc7.heap (d13.heap hh1 fun h=>h) fun h=>h) fun h=>h
 have hN5:Chg Nil w w5:=(((hc1.then hc3).then hc5).then hc7).then hc9
 have zz1:=hc1.size;have zz3:=hc3.size;have zz5:=hc5.size;have zz7:=hc7.size;refine LoadT.sc (s:=.int .i64) (x:=(ca.base:Int)) (by rw[cellOf h5,hp3];rfl) ?_
 have k0:MapI w5 b9 []:=⟨#[],0,hh9,rfl⟩;obtain⟨w6,hr6,hk6,hc6⟩:=updateI_new (ty:=139) under139 k0 (t:=(ca.base:Int)) (by simp) (.int .i64 (state:Int))
 refine⟨w6,hr6,?_⟩;refine New.mk fun b13 w7 hb13 hh13 hs13 hc13=>?_
 have zz6:=hc6.size;obtain⟨w8,hr8,hk8,hc8⟩:=updateI_new (ty:=140) (e:=4) (l:=[]) under140 ⟨#[],0,hh13,rfl⟩ (t:=(state:Int)) (by simp) (.bool true)
 refine⟨w8,hr8,?_⟩;have up:∀ {j:Nat} {o:Obj},w5.heap[j]? = some o→j≠b9→w8.heap[j]? = some o:=fun {j o} hj hne=>by
  have e6:=hc6.heap hj hne;have e7:=hc13.heap e6 fun h=>h
  exact hc8.heap e7 fun he=>by have he:j=b13:=he;have:=lt_of_heap e6;omega
 have h58:=up h5 (fun he=>by omega)
 refine LoadT.sc (s:=.int .i64) (x:=(ca.base:Int)) (by rw[cellOf h58,hp3];rfl) ?_
 refine New.mk fun b17 w9 hb17 hh17 hs17 hc17=>?_
 have zz8:=hc8.size;have hN8:Chg Nil w w8:=((hN5.trans hc6 (fun _ _ h=>h) fun i hi he=>by have he:i=b9:=he;omega).then hc13).trans hc8 (fun _ _ h=>h) fun i hi he=>by have he:i=b13:=he;omega
 have hA0:Al w w9 b1 b3 b5 b7 b9 b13 #[.int .i64 x1,.int .i64 x2,sa.v,sn.v] #[.int .i64 y1,.int .i64 y2,ta.v,tn.v] #[p1.v,.int .i64 p2,.int .i64 p3,.string p4] #[q1.v,.int .i64 q2,.int .i64 q3,.string q4] ⟨some (at0 b17),1,1⟩ [(ca.base,state)]:=
  ⟨hN8.then hc17,hc17.heap (up h1 (fun he=>by omega)) fun h=>h,hc17.heap (up h3 (fun he=>by omega)) fun h=>h,hc17.heap h58 fun h=>h,hc17.heap (up h7 (fun he=>by omega)) fun h=>h,
   ((hk6.chg hc13 fun h=>h).chg hc8 fun he=>by have he:b9=b13:=he;omega).chg hc17 fun h=>h,hk8.chg hc17 fun h=>h,own_lit (t:=tI) hh17 (by decide) rfl rfl (by simp[maxLen]),fun j ⟨ad,had,he⟩=>by cases had;have he:b17=j:=he;omega,by omega,by omega,by omega⟩
 have hQ0:QOk a.next.length b.next.length [(ca.base,state)]:=⟨by simp,fun p hp=>by rw[List.mem_singleton.1 hp];exact⟨bp,hst⟩⟩
 clear hh1 hh3 hh5 hh7 hh9 h1 h3 h5 h7 h58 hk6 hk8 hh13 hh17 up k0;refine LoopT.fuel (fun f z W=>∃ (i:Nat) (sq:Sl) (qq:List (Nat × Nat)),z=(at0 b1,at0 b3,at0 b5,at0 b7,some b9,some b13,sq,(i:Int),())∧Al w W b1 b3 b5 b7 b9 b13 #[.int .i64 x1,.int .i64 x2,sa.v,sn.v] #[.int .i64 y1,.int .i64 y2,ta.v,tn.v] #[p1.v,.int .i64 p2,.int .i64 p3,.string p4] #[q1.v,.int .i64 q2,.int .i64 q3,.string q4] sq qq ∧
   QOk a.next.length b.next.length qq∧alQ a.next b.next ca.inn cb.inn f i qq=some res∧i≤qq.length) N ⟨0,_,_,rfl,hA0,hQ0,hf,Nat.zero_le _⟩ ?_
 clear hA0 hQ0 hf
 rintro f z g W C ⟨i,sq,qq,rfl,hA,hQ,hf,hiq⟩ hC
 dsimp only;have hsq:sq.n=qq.length:=by rw[hA.own.len];simp
 have hql:=hQ.len;cases f with
 | zero=>simp[alQ]at hf
 | succ f=>
 simp only[alQ]at hf;refine Br.dec (fun hlt=>?_) (fun hge=>?_)
 rotate_left
 ·have hlen:i=qq.length:=by have hge:¬ (i:Int)<((sq.n:Nat):Int):=hge;omega
  rw[List.getElem?_eq_none (by omega)]at hf
  have hf:true=res:=by simpa using hf
  exact⟨true,rfl,hf,hA.chg⟩
 have hlt:(i:Int)<((sq.n:Nat):Int):=hlt;obtain⟨⟨s,u⟩,hsu⟩:∃ e,qq[i]? = some e:=⟨_,List.getElem?_eq_getElem (by omega)⟩
 rw[hsu]at hf;dsimp only at hf;obtain⟨hsl',hul⟩:=hQ.lt _ (List.mem_of_getElem? hsu);dsimp only at hsl' hul;obtain⟨rs,hrs⟩:∃ e,a.next[s]? = some e:=⟨_,List.getElem?_eq_getElem hsl'⟩;obtain⟨ru,hru⟩:∃ e,b.next[u]? = some e:=⟨_,List.getElem?_eq_getElem hul⟩;obtain⟨s1,hs1'⟩:∃ e,sls[s]? = some e:=⟨_,List.getElem?_eq_getElem (by omega)⟩
 obtain⟨s2,hs2'⟩:∃ e,tls[u]? = some e:=⟨_,List.getElem?_eq_getElem (by omega)⟩
 have gs:a.next.getD s []=rs:=by rw[List.getD_eq_getElem?_getD,hrs];rfl
 have gu:b.next.getD u []=ru:=by rw[List.getD_eq_getElem?_getD,hru];rfl
 rw[gs,gu]at hf;have r1:=hrd s s1 rs hs1' hrs;have r2:=hrd' u s2 ru hs2' hru;obtain⟨L1,V1⟩:=hrows rs (List.mem_of_getElem? hrs);obtain⟨L2,V2⟩:=hrows' ru (List.mem_of_getElem? hru);have hqs:(qq.map (·.1))[i]? = some s:=by rw[List.getElem?_map,hsu];rfl
 refine hA.own.rd.get (t:=tI) i rfl (x:=(s:Int)) (by rw[List.getElem?_map,hqs];rfl) ?_
 refine LoadT.sc (s:=.sl) (x:=sn) (by rw[show at0 b1=Addr.mk b1 0 none from rfl,cellOf hA.c1];rfl) ?_
 refine(hsn.chg hA.chg fun _ _ h=>h).get (t:=tL) s rfl hs1' ?_
 have hn1:s1.n=rs.length:=r1.len;refine LoopT.mk (fun z W=>∃ (j:Nat) (sq:Sl) (q':List (Nat × Nat)),j≤rs.length∧z=(at0 b1,at0 b3,at0 b5,at0 b7,some b9,some b13,sq,(i:Int),(s:Int),((s1.n:Nat):Int),(j:Int),())∧Al w W b1 b3 b5 b7 b9 b13 #[.int .i64 x1,.int .i64 x2,sa.v,sn.v] #[.int .i64 y1,.int .i64 y2,ta.v,tn.v] #[p1.v,.int .i64 p2,.int .i64 p3,.string p4] #[q1.v,.int .i64 q2,.int .i64 q3,.string q4] sq q' ∧
   QOk a.next.length b.next.length q'∧q'[i]? = some (s,u)∧alX ca.inn cb.inn ((rs.zip ru).drop j) q'=alX ca.inn cb.inn (rs.zip ru) qq) (fun z _=>rs.length-z.2.2.2.2.2.2.2.2.2.2.1.toNat) ⟨0,sq,qq,Nat.zero_le _,rfl,hA,hQ,hsu,rfl⟩ ?_
 clear hQ hsu hqs hsq hlt hiq hA hql
 rintro z g2 V ⟨j,sq,q',hj,rfl,hA,hQ,hsu,hX⟩
 dsimp only;have hql:=hQ.len;have hlz:(rs.zip ru).length=rs.length:=by rw[List.length_zip];omega
 refine Br.dec (fun hlt=>?_) (fun hge=>?_)
 rotate_left
 ·have hjl:j=rs.length:=by have hge:¬ (j:Int)<((s1.n:Nat):Int):=hge;omega
  rw[List.drop_eq_nil_of_le (by omega)]at hX
  simp only[alX]at hX;rw[← hX]at hf;refine hC _ _ f (by omega) ⟨i+1,sq,q',by rw[wrap64 (by omega) (by have:=(List.getElem?_eq_some_iff.1 hsu).1;omega)];rfl,hA,hQ,hf,by have:=(List.getElem?_eq_some_iff.1 hsu).1;omega⟩
 have hlt:(j:Int)<((s1.n:Nat):Int):=hlt;have hjl:j<rs.length:=by omega
 have hAd:=hA.nil (Chg.drew V);obtain⟨t,ht⟩:∃ e,rs[j]? = some e:=⟨_,List.getElem?_eq_getElem hjl⟩;obtain⟨v,hv⟩:∃ e,ru[j]? = some e:=⟨_,List.getElem?_eq_getElem (by omega)⟩
 have hdr:(rs.zip ru).drop j=(t,v) :: (rs.zip ru).drop (j+1):=by
  rw[List.drop_eq_getElem_cons (by omega)]
  congr 1
  rw[List.getElem_zip,(List.getElem?_eq_some_iff.1 ht).2,(List.getElem?_eq_some_iff.1 hv).2]
 rw[hdr]at hX;simp only[alX]at hX;obtain⟨t1,t2⟩:=V1 t (List.mem_of_getElem? ht);obtain⟨v1,v2⟩:=V2 v (List.mem_of_getElem? hv);have e1:at0 b1=Addr.mk b1 0 none:=rfl;have e3:at0 b3=Addr.mk b3 0 none:=rfl;have e5:at0 b5=Addr.mk b5 0 none:=rfl;have e7:at0 b7=Addr.mk b7 0 none:=rfl;refine LoadT.sc (s:=.sl) (x:=sn) (by rw[e1,cellOf hAd.c1];rfl) ?_
 refine(hsn.chg hAd.chg fun _ _ h=>h).get (t:=tL) s rfl hs1' ?_
 refine(r1.chg hAd.chg fun _ _ h=>h).get (t:=tI) j rfl ht ?_
 refine LoadT.sc (s:=.sl) (x:=tn) (by rw[e3,cellOf hAd.c3];rfl) ?_
 have hlk:=lookupI (ty:=139) under139 hAd.k1 (s:Int) (zero3' V.drew) false;rw[m1_find,hQ.look hsu]at hlk;refine⟨(u:Int),hlk,?_⟩;refine(htn.chg hAd.chg fun _ _ h=>h).get (t:=tL) u rfl hs2' ?_
 refine(r2.chg hAd.chg fun _ _ h=>h).get (t:=tI) j rfl hv ?_
 have bad:∀ W,Chg Nil w W→alX ca.inn cb.inn (rs.zip ru) qq=none→∃ z:Bool,Ending.returned (.bool false) = .returned ((Ty.sc .bool).val z)∧z=res∧Chg Nil w W:=fun W hW hn=>by
  rw[hn]at hf;have hf:false=res:=by simpa using hf
  exact⟨false,rfl,hf,hW⟩
 have wj:IntKind.wrap .i64 ((j:Int)+1)=((j+1:Nat):Int):=by rw[wrap64 (by omega) (by omega)];rfl
 have mu:rs.length-(((j+1:Nat):Int)).toNat<rs.length-((j:Int)).toNat:=by omega
 refine Join.by' (fun z W=>z=(at0 b1,at0 b3,at0 b5,at0 b7,some b9,some b13,sq,(i:Int),(s:Int),t,v,thF ca.inn t,((s1.n:Nat):Int),(j:Int),())∧W=V.drew) ?_ ?_
 rotate_left
 ·intro J hJ;refine Br.dec (fun h0=>?_) (fun h0=>?_)
  ·obtain⟨tn',rfl⟩:=Int.eq_ofNat_of_zero_le h0;obtain⟨bv,hbv⟩:∃ e,ca.inn[tn']? = some e:=⟨_,List.getElem?_eq_getElem (by omega)⟩
   refine LoadT.sc (s:=.sl) (x:=p1) (by rw[e5,cellOf hAd.c5];rfl) ?_
   refine(hpi.chg hAd.chg fun _ _ h=>h).get (t:=.sc .bool) tn' rfl hbv ?_
   refine hJ _ _ ⟨?_,rfl⟩;have:thF ca.inn ((tn':Nat):Int)=bv:=by
    unfold thF;rw[decide_eq_true h0,Bool.true_and,Int.toNat_natCast,List.getD_eq_getElem?_getD,hbv];rfl
   rw[this]
  ·refine hJ _ _ ⟨?_,rfl⟩;have:thF ca.inn t=false:=by
    unfold thF;rw[decide_eq_false h0,Bool.false_and]
   rw[this]
 rintro z W g3 ⟨rfl,hW⟩
 rw[hW];clear hW;dsimp only;refine Join.by' (fun z W=>z=(at0 b1,at0 b3,at0 b5,at0 b7,some b9,some b13,sq,(i:Int),(s:Int),t,v,thF ca.inn t,((s1.n:Nat):Int),(j:Int),())∧W=V.drew∧thF ca.inn t=thF cb.inn v) ?_ ?_
 rotate_left
 ·intro J hJ;refine Br.dec (fun h0=>?_) (fun h0=>?_)
  ·obtain⟨vn',rfl⟩:=Int.eq_ofNat_of_zero_le h0;obtain⟨bv,hbv⟩:∃ e,cb.inn[vn']? = some e:=⟨_,List.getElem?_eq_getElem (by omega)⟩
   refine LoadT.sc (s:=.sl) (x:=q1) (by rw[e7,cellOf hAd.c7];rfl) ?_
   refine(hqi.chg hAd.chg fun _ _ h=>h).get (t:=.sc .bool) vn' rfl hbv ?_
   have hth:thF cb.inn ((vn':Nat):Int)=bv:=by
    unfold thF;rw[decide_eq_true h0,Bool.true_and,Int.toNat_natCast,List.getD_eq_getElem?_getD,hbv];rfl
   refine Br.mk (fun hne=>?_) (fun heq=>hJ _ _ ⟨rfl,rfl,?_⟩)
   ·refine bad _ hAd.chg ?_;rw[← hX,if_pos];rw[hth];simpa using hne
   ·rw[hth];simpa using heq
  ·have hth:thF cb.inn v=false:=by
    unfold thF;rw[decide_eq_false h0,Bool.false_and]
   refine Br.mk (fun hne=>?_) (fun heq=>hJ _ _ ⟨rfl,rfl,?_⟩)
   ·refine bad _ hAd.chg ?_;rw[← hX,if_pos];rw[hth];simpa using hne
   ·rw[hth];simpa using heq
 rintro z W g4 ⟨rfl,hW,hth⟩
 rw[hW];clear hW;dsimp only;rw[if_neg (by simpa using hth)]at hX
 refine Br.mk (fun hno=>?_) (fun hyes=>?_)
 ·have hno:thF ca.inn t=false:=by simpa using hno
  rw[if_pos hno]at hX;rw[wj];exact⟨⟨j+1,sq,q',by omega,rfl,hAd,hQ,hsu,hX⟩,mu⟩
 have hyes:thF ca.inn t=true:=by simpa using hyes
 rw[if_neg (by simp[hyes])]at hX
 have pos:∀ {inn:List Bool} {t:Int},thF inn t=true→0≤t:=fun {inn t} h=>by
  unfold thF at h;simp only[Bool.and_eq_true,decide_eq_true_eq]at h;exact h.1
 have ht0:=pos hyes;have hv0:=pos (hth ▸ hyes);obtain⟨tn',rfl⟩:=Int.eq_ofNat_of_zero_le ht0;obtain⟨vn',rfl⟩:=Int.eq_ofNat_of_zero_le hv0;have hlk2:=lookupI (ty:=139) under139 hAd.k1 (tn':Int) (zero3' V.drew) true;rw[m1_find]at hlk2;have hlk3:=lookupI (ty:=140) under140 hAd.k2 (vn':Int) (zero4' V.drew) false;rw[m2_find]at hlk3
 -- what is met already
 cases hfd:q'.find? (fun p=>((p.1:Nat):Int) == ((tn':Nat):Int)) with
 | some pr=>
  have hln:lookN q' ((tn':Nat):Int)=some pr.2:=by unfold lookN;rw[hfd];rfl
  rw[hln]at hX;dsimp only at hX;rw[hfd]at hlk2;refine⟨((pr.2:Int),true,()),V.drew,hlk2,?_⟩;refine Join.by' (fun z W=>z=(at0 b1,at0 b3,at0 b5,at0 b7,some b9,some b13,sq,(i:Int),(s:Int),((tn':Nat):Int),((vn':Nat):Int),true,((s1.n:Nat):Int),(j:Int),())∧W=V.drew∧pr.2=vn') ?_ ?_
  ·rintro z W g5 ⟨rfl,hW,he⟩
   rw[hW];clear hW;dsimp only;rw[if_neg (by simp[he])]at hX
   refine Br.f rfl ?_;rw[wj];exact⟨⟨j+1,sq,q',by omega,rfl,hAd,hQ,hsu,hX⟩,mu⟩
  ·intro J hJ;refine Br.t rfl ?_;refine Br.mk (fun hne=>Br.t rfl ?_) (fun heq=>Br.f rfl (Br.f rfl ?_))
   ·have hne:((pr.2:Nat):Int)≠(vn':Int):=by simpa using hne
    refine bad _ hAd.chg ?_;rw[← hX,if_pos hne]
   ·have heq:((pr.2:Nat):Int)=(vn':Int):=by simpa using heq
    exact hJ _ _ ⟨rfl,rfl,by omega⟩
 | none=>
  have hln:lookN q' ((tn':Nat):Int)=none:=by unfold lookN;rw[hfd];rfl
  rw[hln]at hX;dsimp only at hX;rw[hfd]at hlk2;refine⟨(0,false,()),V.drew,hlk2,?_⟩;refine Join.by' (fun z W=>z=(at0 b1,at0 b3,at0 b5,at0 b7,some b9,some b13,sq,(i:Int),(s:Int),((tn':Nat):Int),((vn':Nat):Int),false,((s1.n:Nat):Int),(j:Int),())∧W=V.drew∧takN q' ((vn':Nat):Int)=false) ?_ ?_
  ·rintro z W g5 ⟨rfl,hW,htk⟩
   rw[hW];clear hW;dsimp only;rw[if_neg (by simp[htk]),Int.toNat_natCast,Int.toNat_natCast]at hX
   refine Br.t rfl ?_;refine hAd.add hln htk (by omega) fun sq' W' hA'=>?_
   rw[wj];refine⟨⟨j+1,sq',q' ++ [(tn',vn')],by omega,rfl,hA',hQ.snoc hln (by omega) (by omega),?_,hX⟩,mu⟩
   rw[List.getElem?_append_left (List.getElem?_eq_some_iff.1 hsu).1];exact hsu
  ·intro J hJ;refine Br.f rfl (Br.t rfl ?_);cases hft:q'.find? (fun p=>((p.2:Nat):Int) == ((vn':Nat):Int)) with
   | some pr=>
    have htk:takN q' ((vn':Nat):Int)=true:=by unfold takN;rw[hft];rfl
    rw[hft]at hlk3;refine⟨true,V.drew,hlk3,Br.t rfl ?_⟩;refine bad _ hAd.chg ?_;rw[← hX,if_pos htk]
   | none=>
    have htk:takN q' ((vn':Nat):Int)=false:=by unfold takN;rw[hft];rfl
    rw[hft]at hlk3;refine⟨false,V.drew,hlk3,Br.f rfl ?_⟩;exact hJ _ _ ⟨rfl,rfl,htk⟩
theorem letE_iff {k:Int}{a:Aut}(hc:a.check k=0)(hk:1≤k∧k≤8){s:Nat}(hs:s<a.next.length){inn:List Bool}{x:Int} :
  x∈letE inn (edgesFrom 0 (a.next.getD s []))↔∃ y t:Nat,x=(y:Int)∧Dl k a s y t∧inn.getD t false=true:=by
 obtain⟨_,_,n1,n2,_,_,hrows⟩:=check_spec hc;constructor
 ·intro h;obtain⟨t,h1,h2⟩:=letE_mem h;obtain⟨i,g1,g2,g3⟩:=Pl.edges_mem _ 0 _ h1;dsimp only at g1 g2 g3;rw[Nat.zero_add]at g2;have hg:a.next.getD s []=a.next[s]:=getD_get hs;rw[hg]at g1;obtain⟨r1,r2⟩:=hrows _ (List.getElem_mem hs);have hlt:=(List.getElem?_eq_some_iff.1 g1).1;refine⟨i,t.toNat,g2,⟨hs,by omega,?_⟩,h2⟩
  unfold getN;rw[hg,List.getD_eq_getElem?_getD,g1]
  show t=_
  omega
 ·rintro⟨y,t,rfl,⟨h1,h2,h3⟩,h4⟩
  obtain⟨row,g1,g2,g3,g4,g5⟩:=getN_row (k:=k) hc h1 h2;have hg:a.next.getD s []=row:=by rw[List.getD_eq_getElem?_getD,g1];rfl
  rw[hg];have he:=edges_of row 0 y g2 (by rw[← g3,h3];omega)
  rw[Nat.zero_add,← g3,h3]at he;unfold letE;refine List.mem_map.2 ⟨_,List.mem_filter.2 ⟨he,?_⟩,rfl⟩;dsimp only;rw[Int.toNat_natCast];exact h4
theorem count_off {l:List Bool}{i:Nat}(h:l[i]? = some true):(l.set i false).count true+1=l.count true:=by
 obtain⟨hl,he⟩:=List.getElem?_eq_some_iff.1 h;have hp:0<l.count true:=List.count_pos_iff.2 (he ▸ List.getElem_mem hl);rw[List.count_set hl];simp[he];omega
theorem core_tot {k:Int}{a:Aut}(hc:a.check k=0)(hk:1≤k∧k≤8):∀ (f:Nat)(c:Co),c.inn.length=a.next.length→c.inn[c.base]? = some true→c.inn.count true≤f →
  ∃ co,coreF f a.next c=some co∧co.inn.length=a.next.length∧co.inn[co.base]? = some true∧co.stem.size+co.inn.count true=c.stem.size+c.inn.count true∧co.size-c.size=(co.inn.count true:Int)-(c.inn.count true:Int)
 | 0,c,hl,hb,hf=>by
  obtain⟨h1,h2⟩:=List.getElem?_eq_some_iff.1 hb;have:=List.count_pos_iff.2 (h2 ▸ List.getElem_mem h1);omega
 | f+1,c,hl,hb,hf=>by
  have hbl:c.base<a.next.length:=by have:=(List.getElem?_eq_some_iff.1 hb).1;omega
  rw[coreF];split
  ·rename_i x hls
   obtain⟨y,t,rfl,hd,ht⟩:=(letE_iff hc hk hbl (inn:=c.inn) (x:=x)).1 (by rw[hls];exact List.mem_singleton.2 rfl)
   have hA:=dl_aut (k:=k) (by omega) hc
   have hdt:=hd;obtain⟨h1,h2,h3⟩:=hdt;have hne:t≠c.base:=fun he=>by
    subst he;have hinv:=hA.inv _ _ _ hd;have:=(letE_iff hc hk hbl (inn:=c.inn) (x:=((y ^^^ 1:Nat):Int))).2 ⟨_,_,rfl,hinv,ht⟩;rw[hls]at this;have h:=List.mem_singleton.1 this;have h:y ^^^ 1=y:=by omega
    rw[Pl.xor1]at h;split at h <;> omega
   have hg:(a.next.getD c.base []).getD ((y:Nat):Int).toNat 0=(t:Int):=by
    rw[Int.toNat_natCast];exact h3
   rw[hg,Int.toNat_natCast];have hco:=count_off hb;have htb:c.inn[t]? = some true:=by
    rw[List.getD_eq_getElem?_getD]at ht;cases hq:c.inn[t]? with
    | none=>rw[hq]at ht;simp at ht
    | some v=>rw[hq]at ht;simp at ht;rw[ht]
   obtain⟨co,g1,g2,g3,g4,g5⟩:=core_tot hc hk f ⟨c.inn.set c.base false,c.size-1,t,c.stem ++ letS ((y:Nat):Int)⟩ (by simp[hl]) (by show(c.inn.set c.base false)[t]? = _;rw[List.getElem?_set_ne (Ne.symm hne)];exact htb) (by show(c.inn.set c.base false).count true≤f;omega)
   refine⟨co,g1,g2,g3,?_,?_⟩
   ·have g4:co.stem.size+co.inn.count true=(c.stem ++ letS ((y:Nat):Int)).size+(c.inn.set c.base false).count true:=g4;have hs:(c.stem ++ letS ((y:Nat):Int)).size=c.stem.size+1:=by rw[ByteArray.size_append];rfl
    omega
   ·have g5:co.size-(c.size-1)=(co.inn.count true:Int)-((c.inn.set c.base false).count true:Int):=g5;omega
  ·exact⟨c,rfl,hl,hb,rfl,by omega⟩
theorem core_of {k:Int}{a:Aut}(hc:a.check k=0)(hk:1≤k∧k≤8):∃ co,coreF a.next.length a.next (core0 a.next)=some co∧co.inn.length=a.next.length∧co.inn[co.base]? = some true∧co.stem.size+co.inn.count true=a.next.length∧co.size=(co.inn.count true:Int):=by
 obtain⟨_,_,n1,n2,_,_,hrows⟩:=check_spec hc;obtain⟨co,h1,h2,h3,h4,h5⟩:=core_tot hc hk a.next.length (core0 a.next) (by simp[core0]) (by show(List.replicate a.next.length true)[0]? = _;rw[List.getElem?_replicate,if_pos (by omega)]) (by simp[core0])
 have e1:(core0 a.next).stem.size=0:=rfl;have e2:(core0 a.next).inn.count true=a.next.length:=by simp[core0]
 have e3:(core0 a.next).size=a.next.length:=rfl;exact⟨co,h1,h2,h3,by omega,by omega⟩
theorem alX_ok {n m:Nat}{ia ib:List Bool}(hn:ia.length=n)(hm:ib.length=m):∀ (l:List (Int × Int))(q q':List (Nat × Nat)),QOk n m q→alX ia ib l q=some q'→QOk n m q'∧q <+: q'
 | [],q,q',hq,h=>by rw[alX]at h;cases h;exact⟨hq,List.prefix_rfl⟩
 | (t,v) :: l,q,q',hq,h=>by
  rw[alX]at h;have lt:∀ {inn:List Bool} {t:Int},thF inn t=true→0≤t∧t.toNat<inn.length:=fun {inn t} h=>by
   unfold thF at h;simp only[Bool.and_eq_true,decide_eq_true_eq]at h;refine⟨h.1,?_⟩;have h2:=h.2;rw[List.getD_eq_getElem?_getD]at h2
   by_cases hl:t.toNat<inn.length
   ·exact hl
   ·rw[List.getElem?_eq_none (by omega)]at h2;simp at h2
  split at h
  ·cases h
  ·rename_i hth
   have hth:thF ia t=thF ib v:=by simpa using hth
   split at h
   ·exact alX_ok hn hm l q q' hq h
   ·rename_i hyes
    have hyes:thF ia t=true:=by simpa using hyes
    obtain⟨t0,t1⟩:=lt hyes;obtain⟨v0,v1⟩:=lt (hth ▸ hyes);split at h
    ·split at h
     ·cases h
     ·exact alX_ok hn hm l q q' hq h
    ·rename_i hln
     split at h
     ·cases h
     ·obtain⟨g1,g2⟩:=alX_ok hn hm l _ q' (hq.snoc (t:=t.toNat) (u:=v.toNat) (by rw[Int.toNat_of_nonneg t0];exact hln) (by omega) (by omega)) h
      exact⟨g1,(List.prefix_append _ _).trans g2⟩
theorem alQ_tot {nx ny:List (List Int)}{n m:Nat}{ia ib:List Bool}(hn:ia.length=n)(hm:ib.length=m):∀ (f i:Nat)(q:List (Nat × Nat)),QOk n m q→i≤q.length→n+1≤f+i→∃ r,alQ nx ny ia ib f i q=some r
 | 0,i,q,hq,hi,hf=>by have:=hq.len;omega
 | f+1,i,q,hq,hi,hf=>by
  rw[alQ];split
  ·exact⟨true,rfl⟩
  ·rename_i s u hsu
   split
   ·exact⟨false,rfl⟩
   ·rename_i q' hx
    obtain⟨g1,g2⟩:=alX_ok hn hm _ q q' hq hx;have h1:=g2.length_le;have h2:=(List.getElem?_eq_some_iff.1 hsu).1;exact alQ_tot hn hm f (i+1) q' g1 (by omega) (by omega)
def alB (a b:Aut)(ca cb:Co)(s:Nat):Bool:=(alQ a.next b.next ca.inn cb.inn (a.next.length+1) 0 [(ca.base,s)]).getD false
theorem alB_spec {a b:Aut}{ca cb:Co}(ha:ca.inn.length=a.next.length)(hb:cb.inn.length=b.next.length)(h1:ca.base<a.next.length){s:Nat}(hs:s<b.next.length) :
  alQ a.next b.next ca.inn cb.inn (a.next.length+1) 0 [(ca.base,s)]=some (alB a b ca cb s):=by
 obtain⟨r,hr⟩:=alQ_tot (nx:=a.next) (ny:=b.next) ha hb (a.next.length+1) 0 [(ca.base,s)] ⟨by simp,fun p hp=>by rw[List.mem_singleton.1 hp];exact⟨h1,hs⟩⟩ (Nat.zero_le _) (by omega)
 unfold alB;rw[hr];rfl
end Go.Proofs.YtffdjfkekdoeaaaDoor.Fo
end
section
namespace Go.Proofs.YtffdjfkekdoeaaaDoor.Pl
open Fo Rf Wd
def cD (δ:Nat→Nat→Nat→Prop)(C:Nat→Prop)(s x t:Nat):Prop:=δ s x t∧C s∧C t
structure CoreOf (δ:Nat→Nat→Nat→Prop)(C:Nat→Prop)(β:Nat):Prop where
 base:C β
 rank:∃ (rk:Nat→Nat) (T:Nat),(∀ v,C v↔T≤rk v)∧∀ v x x' t t',¬ C v→δ v x t→δ v x' t'→rk v≤rk t→rk v≤rk t'→x=x'
 full:∀ v x t,C v→v≠β→δ v x t→C t
 more:∀ v x t,C v→v≠β→δ v x t→∃ x' t',x'≠x∧δ v x' t'
 fin:∀ x t,δ β x t→C t→∃ x' t',x'≠x∧δ β x' t'∧C t'
section
variable {δ:Nat→Nat→Nat→Prop} {C:Nat→Prop} {β:Nat}
theorem CoreOf.two (h:CoreOf δ C β){s x t:Nat}(hd:cD δ C s x t):∃ x' t',x'≠x∧cD δ C s x' t':=by
 obtain⟨h1,h2,h3⟩:=hd
 by_cases hs:s=β
 ·subst hs;obtain⟨x',t',g1,g2,g3⟩:=h.fin x t h1 h3;exact⟨x',t',g1,g2,h2,g3⟩
 ·obtain⟨x',t',g1,g2⟩:=h.more s x t h2 hs h1;exact⟨x',t',g1,g2,h2,h.full s x' t' h2 hs g2⟩
theorem cD_aut (hA:Aut' δ):Aut' (cD δ C):=⟨fun s x t t' h h'=>hA.det s x t t' h.1 h'.1,fun s x t ⟨h1,h2,h3⟩=>⟨hA.inv s x t h1,h3,h2⟩⟩
theorem down_run {rk:Nat→Nat}{T:Nat}(hA:Aut' δ)(hC:∀ v,C v↔T≤rk v)(hu:∀ v x x' t t',¬ C v→δ v x t→δ v x' t'→rk v≤rk t→rk v≤rk t'→x=x') :
  ∀ (l:List Nat) (s y s0 t:Nat),¬ C s→δ s y s0→rk s≤rk s0→Run δ s l t→Rd ((y ^^^ 1) :: l)→¬ C t
 | [],s,y,s0,t,hs,_,_,hr,_=>by cases hr;exact hs
 | x :: l,s,y,s0,t,hs,hy,hk,hr,hrd=>by
  cases hr with
  | cons hx hr=>
   rename_i s2
   have hne:x≠y:=by
    have:=hrd.1
    rwa [xor_two]at this
   have hlt:rk s2<rk s:=by
    rcases Nat.lt_or_ge (rk s2) (rk s) with h|h
    ·exact h
    ·exact absurd (hu s x y s2 s0 hs hx hy h hk) hne
   have hs2:¬ C s2:=fun h=>hs ((hC s).2 (by have:=(hC s2).1 h;omega))
   exact down_run hA hC hu l s2 (x ^^^ 1) s t hs2 (hA.inv _ _ _ hx) (by omega) hr (by rw[xor_two];exact hrd.2)
theorem CoreOf.stay (h:CoreOf δ C β)(hA:Aut' δ):∀ (l:List Nat)(s t:Nat),Rd l→Run δ s l t→C s→C t→Run (cD δ C) s l t
 | [],s,t,_,hr,_,_=>by cases hr;exact .nil s
 | x :: l,s,t,hrd,hr,hs,ht=>by
  cases hr with
  | cons hx hr=>
   rename_i s1
   have hrl:Rd l:=by
    cases l with
    | nil=>trivial
    | cons y l=>exact hrd.2
   by_cases h1:C s1
   ·exact .cons ⟨hx,hs,h1⟩ (h.stay hA l s1 t hrl hr h1 ht)
   ·obtain⟨rk,T,hC,hu⟩:=h.rank;have e1:=(hC s).1 hs;have e2:¬ T≤rk s1:=fun h=>h1 ((hC s1).2 h)
    exact absurd ht (down_run hA hC hu l s1 (x ^^^ 1) s t h1 (hA.inv _ _ _ hx) (by omega) hr (by rw[xor_two];exact hrd))
theorem CoreOf.max (h:CoreOf δ C β){S:Nat→Nat→Nat→Prop}(hi:∀ s x t,S s x t→S t (x ^^^ 1) s)(h2:∀ s x t,S s x t→∃ x' t',x'≠x∧S s x' t')(hS:∀ s x t,S s x t→δ s x t){s x t:Nat}(hs:S s x t):cD δ C s x t:=by
 obtain⟨rk,T,hC,hu⟩:=h.rank;have key:∀ (n s x t:Nat),rk s≤n→S s x t→C s:=by
  intro n;induction n with
  | zero=>
   intro s x t hn hs
   by_cases hc:C s
   ·exact hc
   obtain⟨x',t',hne,hs'⟩:=h2 s x t hs;exact absurd (hu s x x' t t' hc (hS _ _ _ hs) (hS _ _ _ hs') (by omega) (by omega)) (fun he=>hne he.symm)
  | succ n ih=>
   intro s x t hn hs
   by_cases hc:C s
   ·exact hc
   obtain⟨x',t',hne,hs'⟩:=h2 s x t hs;have hT:¬ T≤rk s:=fun h=>hc ((hC s).2 h)
   rcases Nat.lt_or_ge (rk t) (rk s) with h3|h3
   ·have:=(hC t).1 (ih t _ s (by omega) (hi _ _ _ hs));omega
   ·rcases Nat.lt_or_ge (rk t') (rk s) with h4|h4
    ·have:=(hC t').1 (ih t' _ s (by omega) (hi _ _ _ hs'));omega
    ·exact absurd (hu s x x' t t' hc (hS _ _ _ hs) (hS _ _ _ hs') h3 h4) (fun he=>hne he.symm)
 exact⟨hS _ _ _ hs,key _ s x t (Nat.le_refl _) hs,key _ t _ s (Nat.le_refl _) (hi _ _ _ hs)⟩
theorem CoreOf.conn (h:CoreOf δ C β)(hA:Aut' δ){r v:Nat}{p q:List Nat}(hp:Run δ r p β)(hq:Run δ r q v)(hv:C v):∃ l,Rd l∧Run (cD δ C) β l v:=by
 have hr:Run δ β (inv p ++ q) v:=(hp.rev hA.inv).app hq;have hr':=hr.rd hA;exact⟨rd (inv p ++ q),rd_rd _,h.stay hA _ _ _ (rd_rd _) hr' h.base hv⟩
end
structure FoldL (k:Nat)(L:List Nat→Prop)(o:Option (List Row)):Prop where
 ok:∃ δ v,FoldedD k δ v o∧∀ l,Rd l→(Lg δ v l↔L l)
theorem foldL_same {k:Nat}{L L':List Nat→Prop}{o o':Option (List Row)}(h:FoldL k L o) (h':FoldL k L' o')(hL:∀ l,Rd l→(L l↔L' l)):o=o':=by
 obtain⟨δ,v,h1,h2⟩:=h.ok;obtain⟨δ',v',h1',h2'⟩:=h'.ok;exact foldedD_same h1 h1' fun l hl=>by rw[h2 l hl,h2' l hl];exact hL l hl
theorem foldL_auto {k:Nat}(hk:1≤k∧k≤8){L:List Nat→Prop}{R:List Row}(h:FoldL k L (some R)):(autE k R).check (k:Int)=0∧∀ l,Rd l→(Run (Dl k (autE k R)) 0 l 0↔L l):=by
 obtain⟨δ,v,h1,h2⟩:=h.ok;obtain⟨g1,g2⟩:=foldedD_auto hk h1;exact⟨g1,fun l hl=>(g2 l hl).trans (h2 l hl)⟩
def conjD (u:List Nat)(δ:Nat→Nat→Nat→Prop)(p x q:Nat):Prop:=
 (u[p]? = some x∧q=p+1)∨(∃ y,u[q]? = some y∧x=y ^^^ 1∧p=q+1)∨(u.length≤p∧u.length≤q∧δ (p-u.length) x (q-u.length))
theorem take_at {u:List Nat}{i x:Nat}(h:u[i]? = some x):u.take (i+1)=u.take i ++ [x]:=by rw[List.take_add_one,h];rfl
theorem conj_lang {u:List Nat}{δ:Nat→Nat→Nat→Prop}(hb:∀ s x t,δ s x t→δ t (x ^^^ 1) s)(l:List Nat):Lg (conjD u δ) 0 l↔∃ h,Run δ 0 h 0∧Same (u ++ h ++ inv u) l:=by
 have pre:∀ i,i≤u.length→Run (conjD u δ) 0 (u.take i) i:=fun i=>by
  induction i with
  | zero=>intro _;rw[List.take_zero];exact .nil 0
  | succ i ih=>
   intro hi;have hx:u[i]? = some u[i]:=List.getElem?_eq_getElem (by omega)
   rw[take_at hx];exact(ih (by omega)).app (.one (.inl ⟨hx,rfl⟩))
 have back:∀ p x q,conjD u δ p x q→conjD u δ q (x ^^^ 1) p:=fun p x q h=>by
  rcases h with ⟨h1,rfl⟩|⟨y,h1,rfl,rfl⟩|⟨h1,h2,h3⟩
  ·exact .inr (.inl ⟨x,h1,rfl,rfl⟩)
  ·exact .inl ⟨by rw[xor_two];exact h1,rfl⟩
  ·exact .inr (.inr ⟨h2,h1,hb _ _ _ h3⟩)
 constructor
 ·rintro⟨p,hp,hs⟩
  -- what is read up to a vertex
  let P:Nat→List Nat→Prop:=fun v p=>(v<u.length→∃ h,Run δ 0 h 0∧Same p (u ++ h ++ inv u ++ u.take v))∧(u.length≤v→∃ h,Run δ 0 h (v-u.length)∧Same p (u ++ h))
  have step:∀ {v x q:Nat} {p:List Nat},P v p→conjD u δ v x q→P q (p ++ [x]):=by
   intro v x q p hP hd;rcases hd with ⟨h1,rfl⟩|⟨y,h1,rfl,rfl⟩|⟨h1,h2,h3⟩
   ·have hlt:=(List.getElem?_eq_some_iff.1 h1).1;obtain⟨h,h4,h5⟩:=hP.1 hlt;refine⟨fun h6=>⟨h,h4,?_⟩,fun h6=>⟨h,?_,?_⟩⟩
    ·rw[take_at h1,← List.append_assoc];exact h5.app (Same.refl _)
    ·have:v+1-u.length=0:=by omega
     rw[this];exact h4
    ·have e:u.take v ++ [x]=u:=by rw[← take_at h1];exact List.take_of_length_le (by omega)
     have:=h5.app (Same.refl [x]);rw[List.append_assoc _ (u.take v) [x],e]at this;refine this.trans ?_;have e2:u ++ h ++ inv u ++ u=u ++ h ++ (inv u ++ u) ++ []:=by simp
     rw[e2];have:=same_mid (a:=u ++ h) (same_inv' u) []
     simpa using this
   ·have hlt:=(List.getElem?_eq_some_iff.1 h1).1;have he:=take_at h1;refine⟨fun h6=>?_,fun h6=>by omega⟩
    by_cases hq:q+1<u.length
    ·obtain⟨h,h4,h5⟩:=hP.1 hq;refine⟨h,h4,?_⟩;have:=h5.app (Same.refl [y ^^^ 1]);rw[he]at this;refine this.trans ?_;have e:u ++ h ++ inv u ++ (u.take q ++ [y]) ++ [y ^^^ 1]=(u ++ h ++ inv u ++ u.take q) ++ [y,y ^^^ 1] ++ []:=by simp
     rw[e];have:=same_mid (a:=u ++ h ++ inv u ++ u.take q) (same_pair y) []
     simpa using this
    ·obtain⟨h,h4,h5⟩:=hP.2 (by omega)
     have e0:q+1-u.length=0:=by omega
     rw[e0]at h4;refine⟨h,h4,(h5.app (Same.refl [y ^^^ 1])).trans ?_⟩;have eu:u=u.take q ++ [y]:=by rw[← he];exact(List.take_of_length_le (by omega)).symm
     have ei:inv u=[y ^^^ 1] ++ inv (u.take q):=by
      conv=>lhs;rw[eu]
      rw[inv_app];rfl
     have e:u ++ h ++ inv u ++ u.take q=(u ++ h ++ [y ^^^ 1]) ++ (inv (u.take q) ++ u.take q) ++ []:=by rw[ei];simp
     rw[e];have:=(same_mid (a:=u ++ h ++ [y ^^^ 1]) (same_inv' (u.take q)) []).symm
     simpa using this
   ·obtain⟨h,h4,h5⟩:=hP.2 h1;refine⟨fun h6=>by omega,fun _=>⟨h ++ [x],h4.app (.one h3),?_⟩⟩
    rw[← List.append_assoc];exact h5.app (Same.refl _)
  have run:∀ {v q:Nat} {p r:List Nat},P v p→Run (conjD u δ) v r q→P q (p ++ r):=by
   intro v q p r hP hr;induction hr generalizing p with
   | nil s=>rw[List.append_nil];exact hP
   | @cons s x w t l h1 _ ih=>
    have:=ih (step hP h1)
    rwa [List.append_assoc,List.singleton_append]at this
  have h0:P 0 []:=⟨fun _=>⟨[],.nil 0,by
    rw[List.append_nil,List.take_zero,List.append_nil];exact(same_inv u).symm⟩,fun hz=>⟨[],by rw[Nat.zero_sub];exact .nil 0,by
    have:u=[]:=List.length_eq_zero_iff.1 (by omega)
    subst this;exact Same.refl _⟩⟩
  have hf:=run h0 hp;rw[List.nil_append]at hf
  by_cases hz:0<u.length
  ·obtain⟨h,h1,h2⟩:=hf.1 hz;rw[List.take_zero,List.append_nil]at h2;exact⟨h,h1,h2.symm.trans hs⟩
  ·obtain⟨h,h1,h2⟩:=hf.2 (by omega)
   have:u=[]:=List.length_eq_zero_iff.1 (by omega)
   subst this;refine⟨h,by simpa using h1,?_⟩
   have e:inv ([]:List Nat)=[]:=rfl;rw[e,List.append_nil];exact h2.symm.trans hs
 ·rintro⟨h,h1,h2⟩
  have hpu:=pre u.length (Nat.le_refl _);rw[List.take_length]at hpu;have hm:Run (conjD u δ) u.length h u.length:=by
   have:=h1.mono (f:=fun v=>u.length+v) (ε:=conjD u δ) (fun s x t hd=>.inr (.inr ⟨by omega,by omega,by
    rw[Nat.add_sub_cancel_left,Nat.add_sub_cancel_left];exact hd⟩))
   simpa using this
  exact⟨u ++ h ++ inv u,(hpu.app hm).app (hpu.rev back),h2⟩
def pv (n s t len i:Nat):Nat:=if i=0 then s else if i<len then n+(i-1) else t
theorem pathE_iff:∀ (w:List Nat)(n s t p y q:Nat),(p,y,q)∈pathE n s w t↔∃ i x,w[i]? = some x∧((p=pv n s t w.length i∧y=x∧q=pv n s t w.length (i+1))∨(p=pv n s t w.length (i+1)∧y=x ^^^ 1∧q=pv n s t w.length i))
 | [],n,s,t,p,y,q=>by simp[pathE]
 | [x],n,s,t,p,y,q=>by
  simp only[pathE,List.mem_cons,List.not_mem_nil,or_false,Prod.mk.injEq];constructor
  ·rintro(⟨rfl,rfl,rfl⟩|⟨rfl,rfl,rfl⟩)
   ·exact⟨0,y,rfl,.inl ⟨rfl,rfl,rfl⟩⟩
   ·exact⟨0,x,rfl,.inr ⟨rfl,rfl,rfl⟩⟩
  ·rintro⟨i,z,h1,h2⟩
   cases i with
   | succ i=>simp at h1
   | zero=>
    simp only[List.getElem?_cons_zero,Option.some.injEq]at h1;subst h1;rcases h2 with ⟨rfl,rfl,rfl⟩|⟨rfl,rfl,rfl⟩
    ·exact .inl ⟨rfl,rfl,rfl⟩
    ·exact .inr ⟨rfl,rfl,rfl⟩
 | x :: z :: l,n,s,t,p,y,q=>by
  have hp:pathE n s (x :: z :: l) t=(s,x,n) :: (n,x ^^^ 1,s) :: pathE (n+1) n (z :: l) t:=rfl;have hv0:pv n s t (x :: z :: l).length 0=s:=rfl;have hv1:pv n s t (x :: z :: l).length 1=n:=by unfold pv;rw[if_neg (by omega),if_pos (by simp)];omega
  have hvs:∀ i,i≤(z :: l).length→pv (n+1) n t (z :: l).length i=pv n s t (x :: z :: l).length (i+1):=fun i hi=>by
   have hL:(x :: z :: l).length=(z :: l).length+1:=rfl;have h1:1≤(z :: l).length:=by simp
   rw[hL];generalize (z :: l).length=L at *;unfold pv;rw[if_neg (show ¬ i+1=0 by omega)]
   by_cases h:i=0
   ·rw[if_pos h,if_pos (by omega)];omega
   ·rw[if_neg h]
    by_cases h2:i<L
    ·rw[if_pos h2,if_pos (by omega)];omega
    ·rw[if_neg h2,if_neg (by omega)]
  rw[hp];simp only[List.mem_cons,Prod.mk.injEq];rw[pathE_iff (z :: l) (n+1) n t p y q];constructor
  ·rintro(⟨rfl,rfl,rfl⟩|⟨rfl,rfl,rfl⟩|⟨i,x',h1,h2⟩)
   ·exact⟨0,y,rfl,.inl ⟨rfl,rfl,hv1.symm⟩⟩
   ·exact⟨0,x,rfl,.inr ⟨hv1.symm,rfl,rfl⟩⟩
   ·have hi:=(List.getElem?_eq_some_iff.1 h1).1;refine⟨i+1,x',h1,?_⟩;rw[hvs i (by omega),hvs (i+1) (by omega)]at h2
    exact h2
  ·rintro⟨i,x',h1,h2⟩
   cases i with
   | zero=>
    simp only[List.getElem?_cons_zero,Option.some.injEq]at h1;subst h1;rw[hv0,hv1]at h2;rcases h2 with ⟨rfl,rfl,rfl⟩|⟨rfl,rfl,rfl⟩
    ·exact .inl ⟨rfl,rfl,rfl⟩
    ·exact .inr (.inl ⟨rfl,rfl,rfl⟩)
   | succ i=>
    have h1:(z :: l)[i]? = some x':=h1;have hi:=(List.getElem?_eq_some_iff.1 h1).1;refine .inr (.inr ⟨i,x',h1,?_⟩);rw[hvs i (by omega),hvs (i+1) (by omega)]
    exact h2
theorem conj_homs {u:List Nat}{δ:Nat→Nat→Nat→Prop}(hb:∀ s x t,δ s x t→δ t (x ^^^ 1) s){ε:Nat→Nat→Nat→Prop}{n b:Nat}{f:Nat→Nat}(hu:u≠[]∨b=0)
  (hε:∀ p y q,ε p y q↔(p,y,q)∈pathE n 0 u b∨∃ s x t,δ s x t∧p=f s∧y=x∧q=f t) (hf0:f 0=b)
  {g:Nat→Nat} (hg:∀ i,i≤u.length→g (pv n 0 b u.length i)=i) (hgf:∀ s,g (f s)=u.length+s) (l:List Nat):Lg ε 0 l↔∃ h,Run δ 0 h 0∧Same (u ++ h ++ inv u) l:=by
 rw[← conj_lang hb];have hlast:pv n 0 b u.length u.length=b:=by
  unfold pv;split
  ·rename_i h
   rcases hu with hu|hu
   ·exact absurd (List.length_eq_zero_iff.1 h) hu
   ·exact hu.symm
  ·rw[if_neg (by omega)]
 refine(lg_hom (δ:=conjD u δ) (ε:=ε) (f:=fun v=>if v≤u.length then pv n 0 b u.length v else f (v-u.length)) (g:=g) ?_ ?_ ?_ ?_ l).symm
 ·intro p x q hd;rw[hε];rcases hd with ⟨h1,rfl⟩|⟨y,h1,rfl,rfl⟩|⟨h1,h2,h3⟩
  ·have hlt:=(List.getElem?_eq_some_iff.1 h1).1;rw[if_pos (by omega),if_pos (by omega)]
   exact .inl ((pathE_iff ..).2 ⟨p,x,h1,.inl ⟨rfl,rfl,rfl⟩⟩)
  ·have hlt:=(List.getElem?_eq_some_iff.1 h1).1;rw[if_pos (by omega),if_pos (by omega)]
   exact .inl ((pathE_iff ..).2 ⟨q,y,h1,.inr ⟨rfl,rfl,rfl⟩⟩)
  ·have hv:∀ v,u.length≤v→(if v≤u.length then pv n 0 b u.length v else f (v-u.length))=f (v-u.length):=fun v hv=>by
    split
    ·have:v=u.length:=by omega
     subst this;rw[hlast,Nat.sub_self,hf0]
    ·rfl
   rw[hv p h1,hv q h2];exact .inr ⟨_,x,_,h3,rfl,rfl,rfl⟩
 ·intro p y q hd;rw[hε]at hd;rcases hd with hd|⟨s,x,t,h1,rfl,rfl,rfl⟩
  ·obtain⟨i,x,h1,h2⟩:=(pathE_iff ..).1 hd;have hlt:=(List.getElem?_eq_some_iff.1 h1).1;rcases h2 with ⟨rfl,rfl,rfl⟩|⟨rfl,rfl,rfl⟩
   ·rw[hg i (by omega),hg (i+1) (by omega)]
    exact .inl ⟨h1,rfl⟩
   ·rw[hg i (by omega),hg (i+1) (by omega)]
    exact .inr (.inl ⟨x,h1,rfl,rfl⟩)
  ·rw[hgf,hgf];exact .inr (.inr ⟨by omega,by omega,by rw[Nat.add_sub_cancel_left,Nat.add_sub_cancel_left];exact h1⟩)
 ·rw[if_pos (Nat.zero_le _)];rfl
 ·have:=hg 0 (Nat.zero_le _);exact this
end Go.Proofs.YtffdjfkekdoeaaaDoor.Pl
end
section
namespace Go.Proofs.YtffdjfkekdoeaaaDoor.Rf
open Fw Wd Fo Pl
theorem bytes_eq (a b:ByteArray):(a.toList == b.toList)=decide (a=b):=by
 by_cases h:a=b
 ·subst h;simp
 ·rw[decide_eq_false h];refine beq_eq_false_iff_ne.2 fun he=>h ?_
  rw[ByteArray.toList_eq,ByteArray.toList_eq]at he;exact ByteArray.ext (Array.toList_inj.1 he)
end Go.Proofs.YtffdjfkekdoeaaaDoor.Rf
end
section
namespace Go.Proofs.YtffdjfkekdoeaaaDoor.Fo
open Fw Wd Rf Pl
def conjL (k:Int)(a:Aut)(u l:List Nat):Prop:=∃ h,Run (Dl k a) 0 h 0∧Same (u ++ h ++ Pl.inv u) l
inductive ConjIs (k:Int) (a:Aut) (s:ByteArray):FoldR→Prop
 | err:examF k [a] [s]≠0→ConjIs k a s (.err (examF k [a] [s]))
 | ok {o:Option (List Row)}:examF k [a] [s]=0→FoldL k.toNat (conjL k a (wordF s)) o→ConjIs k a s (resOf (2*k.toNat) o)
theorem exam_one {k:Int}{a:Aut}{s:ByteArray}(h:examF k [a] [s]=0):(1≤k∧k≤8)∧a.check k=0∧checkF k s=0:=by
 have hk:=exam_rank h;unfold examF at h;rw[if_neg (by simpa using hk)]at h
 by_cases h1:a.check k=0
 ·by_cases h2:checkF k s=0
  ·exact⟨hk,h1,h2⟩
  ·simp[h1,h2]at h
 ·simp[h1]at h
theorem word_nil {k:Int}{s:ByteArray}(hs:checkF k s=0):(ReduceF s=⟨#[]⟩)↔wordF s=[]:=by
 obtain⟨h1,_⟩:=idxs_word hs;unfold Idxs at h1;constructor
 ·intro h;rw[h]at h1;have:=congrArg List.length h1;simp at this;exact List.length_eq_zero_iff.1 this.symm
 ·intro h;rw[h]at h1;have h2:(ReduceF s).data.toList=[]:=by simpa using h1
  generalize ReduceF s=r at h2;cases r with
  | mk d=>cases d with
   | mk l=>simp only at h2;rw[h2]
theorem Conjugate_ret {w:World}(hl:Laid w){k:Int}{x:Int × Int × Sl × Sl × Unit}{a:Aut}(ha:AutIn w x a)(s:ByteArray) :
  RetN Tryd.prog 38 #[.int .i64 k,.agg #[.int .i64 x.1,.int .i64 x.2.1,x.2.2.1.v,x.2.2.2.1.v],.string s] [tA,tI] w fun z w'=>
   ∃ res,ConjIs k a s res∧Chg Nil w w'∧AutIn w' z.1 (autR res).1∧z.2.1=(autR res).2:=by
 obtain⟨x1,x2,sa,sn,_⟩:=x;refine fold_Conjugate.calls k x1 x2 sa sn s ?_;unfold fold_Conjugate.sh;refine New.mk fun b1 w1 hb1 hh1 hs1 hc1=>?_
 refine New.mk fun b3 w2 hb3 hh3 hs3 hc3=>?_
 have h1:w2.heap[b1]? = some _:=hc3.heap hh1 fun h=>h
 refine LoadT.mk tA (x:=(x1,x2,sa,sn,())) (fun j v hv=>by rw[cellOf h1];simpa[Ty.cells] using hv) ?_
 refine New.mk fun b6 w3 hb6 hh6 hs6 hc6=>?_
 refine New.mk fun b8 w4 hb8 hh8 hs8 hc8=>?_
 have hc04:=((hc1.then hc3).then hc6).then hc8
 have hz4:=(hc6.then hc8).heap hh3 fun h=>h
 refine Ret.call (exam_ret (sl:=⟨some ⟨b6,0,none⟩,1,1⟩) (sw:=⟨some ⟨b8,0,none⟩,1,1⟩) (xs:=[(x1,x2,sa,sn,())]) (ats:=[a]) (ws:=[s]) (hl.nil hc04) (rd_lit (hc8.heap hh6 fun h=>h) rfl rfl) rfl (fun i y b hy hb=>by
  cases i with
  | zero=>simp at hy hb;subst hy;subst hb;exact ha.nil hc04
  | succ i=>simp at hy) (rd_lit hh8 rfl rfl) (by simp) (by simp)) ?_
 rintro _ w5 ⟨rfl,hc4⟩
 have hc05:=hc04.then hc4
 have hz5:=hc4.heap hz4 fun h=>h
 have hlt3:w.heap.size≤b3:=by have:=hc1.size;omega
 refine Br.mk (fun hne=>?_) (fun heq=>?_)
 ·have hne':examF k [a] [s]≠0:=by simpa using hne
  refine StoreN.whole (vs:=[.int .i64 0,.int .i64 0,.slice none 0 0,.slice none 0 0]) hz5 rfl fun w6 h6 hc6 _=>?_
  refine LoadT.mk tA (x:=(0,0,⟨none,0,0⟩,⟨none,0,0⟩,())) (fun j v hv=>by rw[cellOf h6];simpa[Ty.cells] using hv) ?_
  exact⟨((0,0,⟨none,0,0⟩,⟨none,0,0⟩,()),examF k [a] [s],()),rfl,_,.err hne',hc05.trans hc6 (fun _ _ h=>h) fun i hi he=>by have he:i=b3:=he;omega,autIn_zero w6,rfl⟩
 have hz:examF k [a] [s]=0:=by simpa using heq
 obtain⟨hk,hca,hs⟩:=exam_one hz;obtain⟨nk,rfl⟩:=Int.eq_ofNat_of_zero_le (show 0≤k by omega)
 obtain⟨_,_,na1,na2,_⟩:=check_spec hca;have hA:=dl_aut hk.2 hca;obtain⟨hidx,hrsz⟩:=idxs_word hs;have hwl:(wordF s).length≤100000:=by
  have:=congrArg List.length hidx;simp only[List.length_map]at this;have h2:(ReduceF s).data.toList.length=(ReduceF s).size:=(size_list _).symm;omega
 have hwx:∀ y∈wordF s,y<2*nk:=fun y hy=>by have:=wordF_lt hs y hy;omega
 refine Ret.call (Reduce_ret (hl.nil hc05) s) ?_
 rintro _ w6 ⟨rfl,hc6'⟩
 have hc06:=hc05.then hc6'
 refine Ret.call (start_ret nk (by omega) (by omega)) ?_
 rintro _ w7 ⟨fb,M,rfl,hr7,hc7,hf7⟩
 have hc67:=hc7;have hm0:(start0 (2*nk)).m=2*nk:=rfl;have hp0:(start0 (2*nk)).par.length=1:=rfl;have hz7:=(hc6'.then hc7).heap hz5 fun h=>h
 have h17:w7.heap[b1]? = some _:=((((hc6.then hc8).then hc4).then hc6').then hc7).heap h1 fun h=>h
 have h00:0<w6.heap.size:=by obtain⟨_,_,h⟩:=hl.nil hc06;exact lt_of_heap h
 -- behind the path
 refine Join.by' (fun y W=>∃ (base:Nat) (E:List Edg) (st:St) (M1:Mem),y=(at0 b1,at0 b3,some (at0 fb),(base:Int),())∧Fo.Rep W fb st M1∧Chg Nil w6 W∧(∀ q,M1.foot fb q→w6.heap.size≤q)∧Pl.Inv E st∧Both E∧st.m=2*nk ∧
   ((wordF s=[]∧base=0∧E=[]∧st.par.length=1)∨(wordF s≠[]∧base=1∧E=pathE 2 0 (wordF s) 1 ++ []∧st.par.length=2+((wordF s).length-1)))) ?_ ?_
 ·rintro y W g ⟨base,E,st,M1,rfl,hrW,hcW,hfW,hI,hB,hm,hor⟩
  dsimp only;have hsz:base<st.par.length∧st.par.length≤200000:=by
   rcases hor with ⟨_,h2,_,h4⟩|⟨_,h2,_,h4⟩ <;> omega
  have h1W:W.heap[b1]? = some _:=((((hc6.then hc8).then hc4).then hc6').then hcW).heap h1 fun h=>h
  have hzW:=(hc6'.then hcW).heap hz5 fun h=>h
  refine LoadT.mk tA (x:=(x1,x2,sa,sn,())) (fun j v hv=>by rw[show at0 b1=Addr.mk b1 0 none from rfl,cellOf h1W];simpa[Ty.cells] using hv) ?_
  refine RetN.call (graft_ret (w0:=w6) (k:=nk) (x:=(x1,x2,sa,sn,())) (start:=base) hrW hcW hfW hI hB (by omega) hm (ha.nil hc06) hca hsz.1 (by omega)) ?_
  rintro _ w8 ⟨E1,st1,⟨⟨M2,hr8,hf8⟩,hc8'⟩,hI1,hB1,hm1,hp1,hE1⟩
  have hN8:Chg Nil w6 w8:=hcW.trans hc8' (fun _ _ h=>h) fun i hi hk=>by have:=hfW i hk;omega
  have hf08:∀ q,M2.foot fb q→w6.heap.size≤q:=fun q hq=>by
   rcases hf8 q hq with h|h
   ·exact hfW q h
   ·have:=hcW.size;omega
  refine RetN.call (made_lang (w0:=w6) (k:=nk) (v:=0) hr8 hN8 hf08 hI1 hB1 (by omega) (by rw[hm1,hm]) (by omega) (by omega)) ?_
  rintro⟨⟨z1,z2,ua,un,_⟩,z3,_⟩ w9 ⟨o,hF,hN9,_,hAu,hz3⟩
  have hz9:=(hc6'.then hN9).heap hz5 fun h=>h
  refine StoreN.whole (vs:=[.int .i64 z1,.int .i64 z2,ua.v,un.v]) hz9 rfl fun w10 h10 hc10 _=>?_
  refine LoadT.mk tA (x:=(z1,z2,ua,un,())) (fun j v hv=>by rw[show at0 b3=Addr.mk b3 0 none from rfl,cellOf h10];simpa[Ty.cells] using hv) ?_
  have hL:FoldL nk (conjL (nk:Int) a (wordF s)) o:=by
   refine⟨_,0,hF,fun l _=>?_⟩
   rcases hor with ⟨u0,rfl,rfl,p1⟩|⟨u0,rfl,rfl,p1⟩
   ·unfold conjL;rw[u0];refine conj_homs (δ:=Dl (nk:Int) a) (n:=2) (b:=0) (f:=fun s=>s) (g:=fun s=>s) hA.inv (.inr rfl) (fun p y q=>?_) rfl (fun i hi=>?_) (fun s=>?_) l
    ·show(p,y,q)∈E1↔_
     rw[hE1,p1];have hid:∀ s,atN 0 1 s=s:=fun s=>by unfold atN;split <;> omega
     simp only[hid,List.not_mem_nil,false_or,pathE]
    ·have:i=0:=by simpa using hi
     subst this;rfl
    ·simp
   ·have hlen:0<(wordF s).length:=List.length_pos_iff.2 u0;refine conj_homs (δ:=Dl (nk:Int) a) (n:=2) (b:=1) (f:=atN 1 st.par.length) (g:=fun v=>if v=1 then (wordF s).length else if v≤(wordF s).length then v-1 else v) hA.inv (.inl u0) (fun p y q=>?_) rfl (fun i hi=>?_) (fun s'=>?_) l
    ·show(p,y,q)∈E1↔_
     rw[hE1,List.append_nil]
    ·unfold pv
     by_cases h0:i=0
     ·subst h0;rw[if_pos rfl,if_neg (by omega),if_pos (by omega)]
     ·rw[if_neg h0]
      by_cases h2:i<(wordF s).length
      ·rw[if_pos h2,if_neg (by omega),if_pos (by omega)];omega
      ·rw[if_neg h2,if_pos rfl];omega
    ·unfold atN
     by_cases h0:s'=0
     ·subst h0;rw[if_pos rfl,if_pos rfl];omega
     ·rw[if_neg h0,if_neg (by omega),if_neg (by omega)];omega
  refine⟨((z1,z2,ua,un,()),z3,()),rfl,_,ConjIs.ok (k:=(nk:Int)) hz hL,(hc06.then hN9).trans hc10 (fun _ _ h=>h) fun i hi he=>by have he:i=b3:=he;omega,hAu w10 _ hc10 fun q hq=>?_,hz3⟩
  have hq:q=b3:=hq;have:=lt_of_heap hz5;have:=hc6'.size;have:=hN8.size;omega
 ·intro J hJ;have hcond:(!((ReduceF s).toList == (ByteArray.mk #[]).toList))=decide (wordF s≠[]):=by
   rw[bytes_eq]
   by_cases h:wordF s=[]
   ·rw[(word_nil hs).2 h];simp[h]
   ·have:¬ ReduceF s=⟨#[]⟩:=fun he=>h ((word_nil hs).1 he)
    simp[h,this]
  rw[hcond];refine Br.dec (fun h=>?_) (fun h=>?_)
  ·obtain⟨st1,hs1,hI1,hm1,hp1⟩:=state_ev (start_inv (2*nk)) (by rw[hp0];unfold big;omega)
   rw[hp0]at hp1;refine Ret.call (state_ret hr7 hs1) ?_
   rintro _ w8 ⟨rfl,⟨⟨M1,hr8,hf8⟩,hc8'⟩⟩
   have hN8:Chg Nil w6 w8:=hc7.trans hc8' (fun _ _ h=>h) fun i hi hk=>by have:=hf7 i hk;omega
   have hf08:∀ q,M1.foot fb q→w6.heap.size≤q:=fun q hq=>by
    rcases hf8 q hq with h|h
    ·exact hf7 q h
    ·have:=hc7.size;omega
   have hmul:(st1.par.length+(wordF s).length)*(st1.m+1)≤100002*17:=Nat.mul_le_mul (by omega) (by rw[hm1,hm0];omega)
   obtain⟨st2,⟨K,hp2⟩,hI2,hm2,hpl2⟩:=path_ev (wordF s) [] st1 0 1 hI1 (by omega) (by omega) (fun y hy=>by
    rw[hm1,hm0];exact⟨hwx y hy,Pl.xor_lt (by omega) (hwx y hy)⟩) (by rw[hm1,hm0]at *;unfold big;omega)
   rw[hp0];refine RetN.call (path_ret (hl.nil (hc06.then hN8)) hr8 (fun h0=>by have:=hf08 0 h0;omega) (s:=0) (t:=1) (by omega) hidx (hp2 K (Nat.le_refl _))) fun _ w9 hs9=>?_
   obtain⟨⟨M2,hr9,hf9⟩,hc9⟩:=hs9;refine hJ _ _ ⟨1,_,st2,M2,rfl,hr9,hN8.trans hc9 (fun _ _ h=>h) fun i hi hk=>by have:=hf08 i hk;omega,fun q hq=>?_,hI2,?_,by rw[hm2,hm1,hm0],.inr ⟨h,rfl,by rw[hp1],by rw[hpl2,hp1]⟩⟩
   ·rcases hf9 q hq with h|h
    ·exact hf08 q h
    ·have:=hN8.size;omega
   ·exact Both.app (pathE_both _ _ _ _) Both.nil
  ·have hnil:wordF s=[]:=Classical.byContradiction h;exact hJ _ _ ⟨0,[],_,M,rfl,hr7,hc7,hf7,start_inv _,Both.nil,hm0,.inl ⟨hnil,rfl,rfl,hp0⟩⟩
end Go.Proofs.YtffdjfkekdoeaaaDoor.Fo
end
section
namespace Go.Proofs.YtffdjfkekdoeaaaDoor.Pl
open Fo Rf Wd
def sg (x:Nat):Int:=if x % 2=0 then 1 else -1
end Go.Proofs.YtffdjfkekdoeaaaDoor.Pl
end
section
namespace Go.Proofs.YtffdjfkekdoeaaaDoor.Fo
open Fw Wd Rf Pl
section
variable {k:Int} {a b:Aut} {q:List (Nat × Nat)}
end
theorem stall_len {k K B:Nat}{es:List Ed}{res:List Row}(hB:InB B es)(h0:0<B)(h:stallF k K es=some res):res.length≤B:=by
 unfold stallF at h;split at h
 ·cases h
 rename_i es1 h1
 split at h
 ·cases h
 rename_i es2 h2
 have b1:=foldedE_inB hB h1;have b2:InB B es2:=fun e he=>b1 e (prunedE_sub h2 e he)
 exact numE_len b2 K 0 [0] [] res (by simp) (by simpa using h0) (by simp) rfl h
def letsS:List Nat→ByteArray
 | []=>⟨#[]⟩
 | x :: l=>letS (x:Int) ++ letsS l
theorem letsS_snoc (l:List Nat)(x:Nat):letsS (l ++ [x])=letsS l ++ letS (x:Int):=by
 induction l with
 | nil=>simp only[List.nil_append,letsS];apply ByteArray.ext;simp
 | cons y l ih=>simp only[List.cons_append,letsS,ih];rw[ByteArray.append_assoc]
def inC (c:Co)(v:Nat):Prop:=c.inn[v]? = some true
instance (c:Co) (v:Nat):Decidable (inC c v):=inferInstanceAs (Decidable (c.inn[v]? = some true))
theorem edges_nodup:∀ (row:List Int)(y:Nat),((edgesFrom y row).map (·.1)).Nodup
 | [],y=>by simp[edgesFrom]
 | t :: l,y=>by
  rw[edgesFrom];split
  ·rw[List.map_cons,List.nodup_cons];refine⟨fun h=>?_,edges_nodup l (y+1)⟩
   obtain⟨⟨x,u,w⟩,h1,h2⟩:=List.mem_map.1 h;obtain⟨_,_,h3,_⟩:=Fo.edges_mem l (y+1) x u w h1;dsimp only at h2;omega
  ·exact edges_nodup l (y+1)
theorem letE_nodup (inn:List Bool)(row:List Int):(letE inn (edgesFrom 0 row)).Nodup:=by
 unfold letE;exact List.Nodup.sublist (List.Sublist.map _ (List.filter_sublist)) (edges_nodup row 0)
structure CoInv (k:Int)(a:Aut)(c:Co):Prop where
 base:inC c c.base
 rank:∃ (rk:Nat→Nat) (T:Nat),(∀ v,inC c v→rk v=T)∧(∀ v,¬ inC c v→v<a.next.length→rk v<T)∧∀ v x x' t t',v<a.next.length→¬ inC c v→Dl k a v x t→Dl k a v x' t'→rk v≤rk t→rk v≤rk t'→x=x'
 full:∀ v x t,inC c v→v≠c.base→Dl k a v x t→inC c t
 zero:c.base=0∨¬ inC c 0
 run:∃ p,Run (Dl k a) 0 p c.base∧c.stem=letsS p
theorem core_inv {k:Int}{a:Aut}(hc:a.check k=0)(hk:1≤k∧k≤8):∀ (f:Nat)(c co:Co),c.inn.length=a.next.length→CoInv k a c→coreF f a.next c=some co →
  CoInv k a co∧∀ x t,Dl k a co.base x t→inC co t→∃ x' t',x'≠x∧Dl k a co.base x' t'∧inC co t'
 | 0,c,co,hl,hi,hf=>by simp[coreF]at hf
 | f+1,c,co,hl,hi,hf=>by
  have hA:=dl_aut (k:=k) (by omega) hc
  have hbl:c.base<a.next.length:=by have:=(List.getElem?_eq_some_iff.1 hi.base).1;omega
  have getD_in:∀ t,c.inn.getD t false=true↔inC c t:=fun t=>by
   unfold inC;rw[List.getD_eq_getElem?_getD];cases c.inn[t]? with
   | none=>simp
   | some v=>simp
  rw[coreF]at hf;split at hf
  ·rename_i x hls
   have hone:∀ y t,Dl k a c.base y t→inC c t→((y:Nat):Int)=x:=fun y t hd ht=>by
    have:=(letE_iff hc hk hbl (inn:=c.inn) (x:=(y:Int))).2 ⟨y,t,rfl,hd,(getD_in t).2 ht⟩;rw[hls]at this;exact List.mem_singleton.1 this
   obtain⟨y,t,rfl,hd,ht⟩:=(letE_iff hc hk hbl (inn:=c.inn) (x:=x)).1 (by rw[hls];exact List.mem_singleton.2 rfl)
   have ht:=(getD_in t).1 ht;have hg:(a.next.getD c.base []).getD ((y:Nat):Int).toNat 0=(t:Int):=by
    rw[Int.toNat_natCast];exact hd.2.2
   rw[hg,Int.toNat_natCast]at hf;have hne:t≠c.base:=fun he=>by
    subst he;have h:=hone _ _ (hA.inv _ _ _ hd) ht;have h:y ^^^ 1=y:=by omega
    rw[Pl.xor1]at h;split at h <;> omega
   have hset:∀ v,inC ⟨c.inn.set c.base false,c.size-1,t,c.stem ++ letS ((y:Nat):Int)⟩ v↔inC c v∧v≠c.base:=fun v=>by
    unfold inC;dsimp only
    by_cases he:v=c.base
    ·subst he;rw[List.getElem?_set_self (by omega)]
     simp
    ·rw[List.getElem?_set_ne (Ne.symm he)];simp[he]
   obtain⟨rk,T,k1,k2,k3⟩:=hi.rank;refine core_inv hc hk f _ co (by simp[hl]) ⟨(hset t).2 ⟨ht,hne⟩,⟨fun v=>if v=c.base then T else if inC c v then T+1 else rk v,T+1,fun v hv=>?_,fun v hv hvl=>?_,fun v z z' u u' hvl hv hz hz' hr hr'=>?_⟩,fun v z u hv hvb hz=>?_,?_,?_⟩ hf
   ·classical
    obtain⟨g1,g2⟩:=(hset v).1 hv;simp[g1,g2]
   ·by_cases he:v=c.base
    ·simp[he]
    ·have:¬ inC c v:=fun h=>hv ((hset v).2 ⟨h,he⟩)
     have:=k2 v this hvl;simp[he, *];omega
   ·have tl:∀ {v x t},Dl k a v x t→t<a.next.length:=fun {v x t} h=>(hA.inv _ _ _ h).1
    have val:∀ u,u<a.next.length→(if u=c.base then T else if inC c u then T+1 else rk u)=(if u=c.base then T else if inC c u then T+1 else rk u):=fun _ _=>rfl
    by_cases he:v=c.base
    ·subst he;have inn:∀ {z u},Dl k a c.base z u→(if c.base=c.base then T else if inC c c.base then T+1 else rk c.base)≤(if u=c.base then T else if inC c u then T+1 else rk u)→inC c u:=fun {z u} hz hr=>by
      rw[if_pos rfl]at hr
      by_cases hu:u=c.base
      ·rw[hu];exact hi.base
      ·by_cases hcu:inC c u
       ·exact hcu
       ·rw[if_neg hu,if_neg hcu]at hr;have:=k2 u hcu (tl hz);omega
     have e1:=hone _ _ hz (inn hz hr);have e2:=hone _ _ hz' (inn hz' hr');omega
    ·have hcv:¬ inC c v:=fun h=>hv ((hset v).2 ⟨h,he⟩)
     have low:∀ {u},u<a.next.length→(if v=c.base then T else if inC c v then T+1 else rk v)≤(if u=c.base then T else if inC c u then T+1 else rk u)→rk v≤rk u:=fun {u} hul hr=>by
      rw[if_neg he,if_neg hcv]at hr;have hv2:=k2 v hcv hvl
      by_cases hcu:inC c u
      ·rw[k1 u hcu];omega
      ·have hub:u≠c.base:=fun h=>hcu (h ▸ hi.base)
       rw[if_neg hub,if_neg hcu]at hr;exact hr
     exact k3 v z z' u u' hvl hcv hz hz' (low (tl hz) hr) (low (tl hz') hr')
   ·obtain⟨g1,g2⟩:=(hset v).1 hv;refine(hset u).2 ⟨hi.full v z u g1 g2 hz,fun he=>?_⟩
    subst he;have h1:=hone _ _ (hA.inv _ _ _ hz) g1;have h1:z ^^^ 1=y:=by omega
    have h2:=hA.inv _ _ _ hz;rw[h1]at h2;exact hvb (hA.det _ _ _ _ h2 hd)
   ·rcases hi.zero with h|h
    ·refine .inr fun h0=>?_
     have:=(hset 0).1 h0;exact this.2 h.symm
    ·exact .inr fun h0=>h ((hset 0).1 h0).1
   ·obtain⟨p,g1,g2⟩:=hi.run;exact⟨p ++ [y],g1.app (.one hd),by rw[letsS_snoc,g2]⟩
  ·rename_i hns
   cases hf
   refine⟨hi,fun x t hd ht=>?_⟩
   have hm:=(letE_iff hc hk hbl (inn:=c.inn) (x:=(x:Int))).2 ⟨x,t,rfl,hd,(getD_in t).2 ht⟩;obtain⟨z,hz,hzx⟩:∃ z∈letE c.inn (edgesFrom 0 (a.next.getD c.base [])),z≠(x:Int):=by
    have hnd:=letE_nodup c.inn (a.next.getD c.base [])
    revert hm hns hnd
    cases letE c.inn (edgesFrom 0 (a.next.getD c.base [])) with
    | nil=>intro hns hm _;simp at hm
    | cons z l=>
     intro hns hm hnd;cases l with
     | nil=>exact absurd rfl (hns z)
     | cons z' l=>
      by_cases h:z=(x:Int)
      ·refine⟨z',by simp,fun h'=>?_⟩
       have:=(List.nodup_cons.1 hnd).1;rw[h,h']at this;simp at this
      ·exact⟨z,by simp,h⟩
   obtain⟨x',t',rfl,hd',ht'⟩:=(letE_iff hc hk hbl (inn:=c.inn) (x:=z)).1 hz;exact⟨x',t',fun h=>hzx (by rw[h]),hd',(getD_in t').1 ht'⟩
theorem core_spec {k:Int}{a:Aut}(hc:a.check k=0)(hk:1≤k∧k≤8){co:Co}(hf:coreF a.next.length a.next (core0 a.next)=some co) :
  CoreOf (Dl k a) (inC co) co.base∧(∃ p,Run (Dl k a) 0 p co.base∧co.stem=letsS p)∧(∀ v,inC co v→v<a.next.length):=by
 obtain⟨_,_,n1,n2,_⟩:=check_spec hc;have hA:=dl_aut (k:=k) (by omega) hc
 have h0:∀ v,v<a.next.length→inC (core0 a.next) v:=fun v hv=>by
  show(List.replicate a.next.length true)[v]? = _
  rw[List.getElem?_replicate,if_pos hv]
 obtain⟨hi,hfin⟩:=core_inv hc hk _ _ co (by simp[core0]) ⟨h0 _ (by show 0<_;omega),⟨fun _=>0,0,fun _ _=>rfl,fun v hv hvl=>absurd (h0 v hvl) hv,fun v x x' t t' hvl hv=>absurd (h0 v hvl) hv⟩,fun v x t _ _ hd=>h0 t ((hA.inv _ _ _ hd).1),.inl rfl,[],.nil 0,rfl⟩ hf
 obtain⟨_,hf',hl,_⟩:=core_of hc hk;rw[hf]at hf';cases hf';have hlt:∀ v,inC co v→v<a.next.length:=fun v hv=>by have:=(List.getElem?_eq_some_iff.1 hv).1;omega
 obtain⟨rk,T,k1,k2,k3⟩:=hi.rank;refine⟨⟨hi.base,⟨fun v=>if inC co v then T+1 else if v<a.next.length then rk v else 0,T+1,fun v=>?_,fun v x x' t t' hv hx hx' hr hr'=>?_⟩,hi.full,fun v x t hv hb hd=>?_,hfin⟩,hi.run,hlt⟩
 ·by_cases h:inC co v
  ·simp[h]
  ·by_cases hl:v<a.next.length
   ·have:=k2 v h hl;simp[h,hl];omega
   ·simp[h,hl]
 ·have hvl:=hx.1;have tl:∀ {x t},Dl k a v x t→t<a.next.length:=fun {x t} h=>(hA.inv _ _ _ h).1
  have low:∀ {u},u<a.next.length→(if inC co v then T+1 else if v<a.next.length then rk v else 0)≤(if inC co u then T+1 else if u<a.next.length then rk u else 0)→rk v≤rk u:=fun {u} hul hr=>by
   rw[if_neg hv,if_pos hvl]at hr;have hv2:=k2 v hv hvl
   by_cases hcu:inC co u
   ·rw[k1 u hcu];omega
   ·rw[if_neg hcu,if_pos hul]at hr;exact hr
  exact k3 v x x' t t' hvl hv hx hx' (low (tl hx) hr) (low (tl hx') hr')
 ·refine two_of (by omega) hc hd fun h0=>?_
  rcases hi.zero with h|h
  ·exact hb (h0.trans h.symm)
  ·exact h (h0 ▸ hv)
end Go.Proofs.YtffdjfkekdoeaaaDoor.Fo
end
section
namespace Go.Proofs.YtffdjfkekdoeaaaDoor.Pl
open Fo Rf Wd
def upE (e:Ed):Ed:=(e.1+1,e.2.1,e.2.2+1)
theorem upE_inj {e f:Ed}(h:upE e=upE f):e=f:=by
 unfold upE at h;simp only[Prod.mk.injEq]at h
 apply Prod.ext (by omega)
 apply Prod.ext h.2.1 (by omega)
theorem deg_up:∀ (es:List Ed)(v:Nat),degE (es.map upE) (v+1)=degE es v
 | [],v=>rfl
 | (f,x,t) :: l,v=>by
  rw[List.map_cons]
  show(if f+1=v+1 then 1 else 0)+(if t+1=v+1 then 1 else 0)+degE (l.map upE) (v+1)=_
  rw[deg_up l v];simp only[degE,Nat.add_right_cancel_iff]
theorem leaf_up (es:List Ed)(e:Ed):leafE false (es.map upE) (upE e)=leafE true es e:=by
 unfold leafE
 show(decide (degE (es.map upE) (e.1+1)=1∧(e.1+1≠0∨false=true)) || decide (degE (es.map upE) (e.2.2+1)=1∧(e.2.2+1≠0∨false=true)))=_
 rw[deg_up,deg_up];simp
theorem leafI_up (es:List Ed):∀ (l pre:List Ed),leafI false (es.map upE) (pre.map upE) (l.map upE)=(leafI true es pre l).map (·.map upE)
 | [],pre=>rfl
 | e :: l,pre=>by
  rw[List.map_cons,leafI,leafI,leaf_up];split
  ·simp
  ·have:=leafI_up es l (pre ++ [e]);rw[List.map_append]at this;exact this
theorem pruned_up:∀ (n:Nat)(es:List Ed),prunedE false n (es.map upE)=(prunedE true n es).map (·.map upE)
 | 0,es=>rfl
 | n+1,es=>by
  rw[prunedE,prunedE];have:=leafI_up es es [];rw[List.map_nil]at this;rw[this];cases leafI true es [] es with
  | none=>rfl
  | some es'=>exact pruned_up n es'
theorem dir_up {es:List Ed}{s x t:Nat}:Dir (es.map upE) s x t↔∃ s' t',s=s'+1∧t=t'+1∧Dir es s' x t':=by
 unfold Dir;constructor
 ·rintro(⟨h1,h2⟩|⟨h1,h2⟩)
  ·obtain⟨e,h3,h4⟩:=List.mem_map.1 h2;unfold upE at h4;simp only[Prod.mk.injEq]at h4;obtain⟨rfl,rfl,rfl⟩:=h4;exact⟨_,_,rfl,rfl,.inl ⟨h1,h3⟩⟩
  ·obtain⟨e,h3,h4⟩:=List.mem_map.1 h2;unfold upE at h4;simp only[Prod.mk.injEq]at h4;obtain⟨rfl,h5,rfl⟩:=h4;exact⟨_,_,rfl,rfl,.inr ⟨h1,by rw[← h5];exact h3⟩⟩
 ·rintro⟨s',t',rfl,rfl,(⟨h1,h2⟩|⟨h1,h2⟩)⟩
  ·exact .inl ⟨h1,List.mem_map.2 ⟨_,h2,rfl⟩⟩
  ·exact .inr ⟨h1,List.mem_map.2 ⟨_,h2,rfl⟩⟩
theorem prunedA {es:List Ed}(he:Evn es)(hn:es.Nodup)(hd:Det es):∃ K res,prunedE true K es=some res∧(∀ e∈res,e∈es) ∧
  (∀ S:Nat→Nat→Nat→Prop,(∀ s x t,S s x t→S t (x ^^^ 1) s)→(∀ s x t,S s x t→∃ x' t',x'≠x∧S s x' t')→(∀ s x t,S s x t→Dir es s x t)→∀ s x t,S s x t→Dir res s x t) ∧
  ∀ s x t,Dir res s x t→∃ x' t',x'≠x∧Dir res s x' t':=by
 obtain⟨K,res',h1,h2⟩:=prunedE_ev (es.map upE).length (es.map upE) (Nat.le_refl _) (fun e h=>by
  obtain⟨e0,g1,rfl⟩:=List.mem_map.1 h;exact he e0 g1) (Uq.of_nodup (by
   unfold List.Nodup;rw[List.pairwise_map];exact hn.imp fun hne heq=>hne (upE_inj heq))) (fun s x t t' g1 g2=>by
   obtain⟨s1,t1,e1,e2,k1⟩:=dir_up.1 g1;obtain⟨s2,t2,e3,e4,k2⟩:=dir_up.1 g2;have:s1=s2:=by omega
   subst this;have:=hd _ _ _ _ k1 k2;omega)
 rw[pruned_up]at h1;cases hp:prunedE true K es with
 | none=>rw[hp]at h1;cases h1
 | some res=>
  rw[hp]at h1;have h1:res.map upE=res':=by simpa using h1
  subst h1;refine⟨K,res,hp,fun e hm=>?_,fun S hi htw hS s x t hs=>?_,fun s x t hs=>?_⟩
  ·obtain⟨e0,g1,g2⟩:=List.mem_map.1 (h2.sub.mem (List.mem_map.2 ⟨e,hm,rfl⟩));rw[← upE_inj g2];exact g1
  ·have:=h2.max (fun s x t=>∃ s' t',s=s'+1∧t=t'+1∧S s' x t') ⟨fun s x t ⟨s',t',e1,e2,h⟩=>⟨t',s',e2,e1,hi _ _ _ h⟩,fun s x t ⟨s',t',e1,e2,h⟩ _=>by
    obtain⟨x',u',hne,h'⟩:=htw _ _ _ h;exact⟨x',u'+1,hne,s',u',e1,rfl,h'⟩⟩ (fun s x t ⟨s',t',e1,e2,h⟩=>dir_up.2 ⟨s',t',e1,e2,hS _ _ _ h⟩) (s+1) x (t+1) ⟨s,t,rfl,rfl,hs⟩
   obtain⟨s',t',e1,e2,h⟩:=dir_up.1 this;have a1:s=s':=by omega
   have a2:t=t':=by omega
   subst a1;subst a2;exact h
  ·obtain⟨x',t',hne,h⟩:=h2.two (s+1) x (t+1) (dir_up.2 ⟨s,t,rfl,rfl,hs⟩) (by omega)
   obtain⟨s1,t1,e1,e2,h⟩:=dir_up.1 h;have a1:s=s1:=by omega
   subst a1;exact⟨x',t1,hne,h⟩
theorem pruned_core {δ:Nat→Nat→Nat→Prop}{C:Nat→Prop}{β:Nat}(hA:Aut' δ)(h:CoreOf δ C β){es res:List Ed}(hes:∀ s x t,Dir es s x t↔δ s x t)(hsub:∀ e∈res,e∈es)
  (hmax:∀ S:Nat→Nat→Nat→Prop,(∀ s x t,S s x t→S t (x ^^^ 1) s)→(∀ s x t,S s x t→∃ x' t',x'≠x∧S s x' t')→(∀ s x t,S s x t→Dir es s x t)→∀ s x t,S s x t→Dir res s x t)
  (htwo:∀ s x t,Dir res s x t→∃ x' t',x'≠x∧Dir res s x' t') (s x t:Nat):Dir res s x t↔cD δ C s x t:=by
 constructor
 ·intro hd;exact h.max (S:=Dir res) (fun s x t h=>h.back) htwo (fun s x t hd=>(hes s x t).1 (hd.mono hsub)) hd
 ·intro hd;exact hmax (cD δ C) (fun s x t h=>(cD_aut hA).inv s x t h) (fun s x t hd=>h.two hd) (fun s x t hd=>(hes s x t).2 hd.1) s x t hd
end Go.Proofs.YtffdjfkekdoeaaaDoor.Pl
end
section
namespace Go.Proofs.YtffdjfkekdoeaaaDoor.Fo
open Fw Wd Rf Pl
structure PMap (γ γ':Nat→Nat→Nat→Prop)(P:Nat→Nat→Prop):Prop where
 fn:∀ s w w',P s w→P s w'→w=w'
 inj:∀ s s' w,P s w→P s' w→s=s'
 fwd:∀ s w x t,P s w→γ s x t→∃ t',γ' w x t'∧P t t'
 bwd:∀ s w x t',P s w→γ' w x t'→∃ t,γ s x t∧P t t'
def PIso (γ γ':Nat→Nat→Nat→Prop)(v u:Nat):Prop:=∃ P,PMap γ γ' P∧P v u
section
variable {γ γ':Nat→Nat→Nat→Prop}
theorem PMap.symm {P:Nat→Nat→Prop}(h:PMap γ γ' P):PMap γ' γ fun a b=>P b a:=⟨fun s w w' h1 h2=>h.inj _ _ _ h1 h2,fun s s' w h1 h2=>h.fn _ _ _ h1 h2,fun s w x t h1 h2=>h.bwd _ _ _ _ h1 h2,fun s w x t h1 h2=>h.fwd _ _ _ _ h1 h2⟩
theorem PIso.symm {v u:Nat}(h:PIso γ γ' v u):PIso γ' γ u v:=by
 obtain⟨P,h1,h2⟩:=h;exact⟨_,h1.symm,h2⟩
theorem PMap.run {P:Nat→Nat→Prop}(h:PMap γ γ' P):∀ {l:List Nat}{s t:Nat},Run γ s l t→∀ {w:Nat},P s w→∃ t',Run γ' w l t'∧P t t'
 | [],s,t,hr,w,hp=>by cases hr;exact⟨w,.nil w,hp⟩
 | x :: l,s,t,hr,w,hp=>by
  cases hr with
  | cons hx hr=>
   obtain⟨t1,g1,g2⟩:=h.fwd _ _ _ _ hp hx;obtain⟨t',g3,g4⟩:=h.run hr g2;exact⟨t',.cons g1 g3,g4⟩
theorem PIso.loop {v u:Nat}(h:PIso γ γ' v u){l:List Nat}(hr:Run γ v l v):Run γ' u l u:=by
 obtain⟨P,h1,h2⟩:=h;obtain⟨t',g1,g2⟩:=h1.run hr h2;rw[h1.fn _ _ _ h2 g2]at g1 ⊢;rw[h1.fn _ _ _ h2 g2]at h2;exact g1
theorem PIso.move {v u v1:Nat}(h:PIso γ γ' v u){l:List Nat}(hr:Run γ v l v1):∃ u1,Run γ' u l u1∧PIso γ γ' v1 u1:=by
 obtain⟨P,h1,h2⟩:=h;obtain⟨t',g1,g2⟩:=h1.run hr h2;exact⟨t',g1,P,h1,g2⟩
end
theorem th_iff {k:Int}{a:Aut}(hc:a.check k=0){co:Co}{s x:Nat}(hs:inC co s)(hsl:s<a.next.length)(hx:x<2*k.toNat):thF co.inn (getN a.next s x)=true↔∃ t:Nat,getN a.next s x=(t:Int)∧cD (Dl k a) (inC co) s x t:=by
 unfold thF;simp only[Bool.and_eq_true,decide_eq_true_eq];constructor
 ·rintro⟨h1,h2⟩
  obtain⟨t,ht⟩:=Int.eq_ofNat_of_zero_le h1;rw[ht,Int.toNat_natCast,List.getD_eq_getElem?_getD]at h2;refine⟨t,ht,⟨hsl,hx,ht⟩,hs,?_⟩;unfold inC;cases hq:co.inn[t]? with
  | none=>rw[hq]at h2;simp at h2
  | some v=>rw[hq]at h2;simp at h2;rw[h2]
 ·rintro⟨t,ht,_,_,h2⟩
  rw[ht];refine⟨by omega,?_⟩
  rw[Int.toNat_natCast,List.getD_eq_getElem?_getD,h2];rfl
theorem lookN_mem {q:List (Nat × Nat)}{t:Int}{u:Nat}(h:lookN q t=some u):∃ t':Nat,(t':Int)=t∧(t',u)∈q:=by
 unfold lookN at h;cases hf:q.find? (fun p=>((p.1:Nat):Int) == t) with
 | none=>rw[hf]at h;cases h
 | some p=>
  rw[hf]at h;have h:p.2=u:=by simpa using h
  have h1:=List.find?_some hf;have h2:=List.mem_of_find?_eq_some hf;exact⟨p.1,by simpa using h1,by rw[← h];exact h2⟩
theorem takN_mem {q:List (Nat × Nat)}{u:Int}:takN q u=true↔∃ (t u':Nat),(u':Int)=u∧(t,u')∈q:=by
 unfold takN;rw[List.find?_isSome];constructor
 ·rintro⟨p,h1,h2⟩
  exact⟨p.1,p.2,by simpa using h2,h1⟩
 ·rintro⟨t,u',h1,h2⟩
  exact⟨(t,u'),h2,by simpa using h1⟩
structure QVal (q:List (Nat × Nat)):Prop where
 keys:(q.map (·.1)).Nodup
 vals:(q.map (·.2)).Nodup
theorem QVal.snoc {q:List (Nat × Nat)}(h:QVal q){t u:Nat}(ht:lookN q (t:Int)=none)(hu:takN q (u:Int)=false):QVal (q ++ [(t,u)]):=by
 refine⟨?_,?_⟩
 ·rw[List.map_append,List.nodup_append];refine⟨h.keys,by simp,fun x hx y hy he=>?_⟩
  simp only[List.map_cons,List.map_nil,List.mem_singleton]at hy;subst hy;subst he;obtain⟨p,hp,he⟩:=List.mem_map.1 hx;unfold lookN at ht;have:=List.find?_eq_none.1 (Option.map_eq_none_iff.1 ht) p hp;simp[he]at this
 ·rw[List.map_append,List.nodup_append];refine⟨h.vals,by simp,fun x hx y hy he=>?_⟩
  simp only[List.map_cons,List.map_nil,List.mem_singleton]at hy;subst hy;subst he;obtain⟨p,hp,he⟩:=List.mem_map.1 hx;have:=takN_mem.2 ⟨p.1,p.2,by rw[he],hp⟩
  rw[hu]at this;cases this
def Shut (ia ib:List Bool)(l:List (Int × Int))(q:List (Nat × Nat)):Prop:=∀ t v,(t,v)∈l→thF ia t=thF ib v∧(thF ia t=true→(t.toNat,v.toNat)∈q)
theorem alX_spec {ia ib:List Bool}:∀ (l:List (Int × Int))(q q':List (Nat × Nat)),QVal q→alX ia ib l q=some q'→QVal q'∧q <+: q'∧Shut ia ib l q'
 | [],q,q',hq,h=>by rw[alX]at h;cases h;exact⟨hq,List.prefix_rfl,fun t v h=>by simp at h⟩
 | (t,v) :: l,q,q',hq,h=>by
  rw[alX]at h;have pos:∀ {inn:List Bool} {t:Int},thF inn t=true→0≤t:=fun {inn t} h=>by
   unfold thF at h;simp only[Bool.and_eq_true,decide_eq_true_eq]at h;exact h.1
  split at h
  ·cases h
  ·rename_i hth
   have hth:thF ia t=thF ib v:=by simpa using hth
   split at h
   ·rename_i hno
    obtain⟨g1,g2,g3⟩:=alX_spec l q q' hq h;refine⟨g1,g2,fun t' v' hm=>?_⟩
    rcases List.mem_cons.1 hm with hm|hm
    ·cases hm
     exact⟨hth,fun h=>by rw[hno]at h;cases h⟩
    ·exact g3 t' v' hm
   ·rename_i hyes
    have hyes:thF ia t=true:=by simpa using hyes
    have t0:=pos hyes;have v0:=pos (hth ▸ hyes);split at h
    ·rename_i u hln
     split at h
     ·cases h
     ·rename_i huv
      have huv:(u:Int)=v:=by simpa using huv
      obtain⟨g1,g2,g3⟩:=alX_spec l q q' hq h;refine⟨g1,g2,fun t' v' hm=>?_⟩
      rcases List.mem_cons.1 hm with hm|hm
      ·cases hm
       obtain⟨t1,e1,e2⟩:=lookN_mem hln;refine⟨hth,fun _=>?_⟩
       have a1:t.toNat=t1:=by omega
       have a2:v.toNat=u:=by omega
       rw[a1,a2];exact g2.subset e2
      ·exact g3 t' v' hm
    ·rename_i hln
     split at h
     ·cases h
     ·rename_i htk
      obtain⟨g1,g2,g3⟩:=alX_spec l _ q' (hq.snoc (t:=t.toNat) (u:=v.toNat) (by rw[Int.toNat_of_nonneg t0];exact hln) (by rw[Int.toNat_of_nonneg v0];simpa using htk)) h
      refine⟨g1,(List.prefix_append _ _).trans g2,fun t' v' hm=>?_⟩
      rcases List.mem_cons.1 hm with hm|hm
      ·cases hm
       exact⟨hth,fun _=>g2.subset (by simp)⟩
      ·exact g3 t' v' hm
theorem Shut.mono {ia ib:List Bool}{l:List (Int × Int)}{q q':List (Nat × Nat)}(h:Shut ia ib l q)(hq:q <+: q'):Shut ia ib l q':=fun t v hm=>⟨(h t v hm).1,fun hth=>hq.subset ((h t v hm).2 hth)⟩
theorem alQ_spec {nx ny:List (List Int)}{ia ib:List Bool}:∀ (f i:Nat)(q:List (Nat × Nat)),QVal q→(∀ (j s u:Nat),j<i→q[j]? = some (s,u)→Shut ia ib ((nx.getD s []).zip (ny.getD u [])) q)→alQ nx ny ia ib f i q=some true →
  ∃ q',q <+: q'∧QVal q'∧∀ s u,(s,u)∈q'→Shut ia ib ((nx.getD s []).zip (ny.getD u [])) q'
 | 0,i,q,hq,hs,h=>by simp[alQ]at h
 | f+1,i,q,hq,hs,h=>by
  rw[alQ]at h;split at h
  ·rename_i hnone
   refine⟨q,List.prefix_rfl,hq,fun s u hm=>?_⟩
   obtain⟨j,hj⟩:=List.getElem?_of_mem hm;have:=(List.getElem?_eq_some_iff.1 hj).1;have:=List.getElem?_eq_none_iff.1 hnone;exact hs j s u (by omega) hj
  ·rename_i s u hsu
   split at h
   ·cases h
   ·rename_i q1 hx
    obtain⟨g1,g2,g3⟩:=alX_spec _ q q1 hq hx;obtain⟨q',k1,k2,k3⟩:=alQ_spec f (i+1) q1 g1 (fun j s' u' hj hjq=>by
     obtain⟨tl,rfl⟩:=g2;have hil:=(List.getElem?_eq_some_iff.1 hsu).1;rw[List.getElem?_append_left (by omega)]at hjq
     by_cases he:j=i
     ·subst he;rw[hsu]at hjq;cases hjq;exact g3
     ·exact(hs j s' u' (by omega) hjq).mono (List.prefix_append _ _)) h
    exact⟨q',g2.trans k1,k2,k3⟩
theorem zip_at {k:Int}{a b:Aut}(hc:a.check k=0)(hd:b.check k=0){s u:Nat}(hs:s<a.next.length)(hu:u<b.next.length){t v:Int}:(t,v)∈(a.next.getD s []).zip (b.next.getD u [])↔∃ x,x<2*k.toNat∧t=getN a.next s x∧v=getN b.next u x:=by
 obtain⟨_,_,n1,n2,_,_,hrows⟩:=check_spec hc;obtain⟨_,_,m1,m2,_,_,hrows'⟩:=check_spec hd;have g1:a.next.getD s []=a.next[s]:=getD_get hs;have g2:b.next.getD u []=b.next[u]:=getD_get hu;obtain⟨L1,_⟩:=hrows _ (List.getElem_mem hs);obtain⟨L2,_⟩:=hrows' _ (List.getElem_mem hu);unfold getN;rw[g1,g2];constructor
 ·intro h;obtain⟨x,hx⟩:=List.getElem?_of_mem h;rw[List.getElem?_zip_eq_some]at hx;obtain⟨h1,h2⟩:=hx;have:=(List.getElem?_eq_some_iff.1 h1).1;refine⟨x,by omega,?_,?_⟩
  ·rw[List.getD_eq_getElem?_getD,h1];rfl
  ·rw[List.getD_eq_getElem?_getD,h2];rfl
 ·rintro⟨x,hx,rfl,rfl⟩
  refine List.mem_of_getElem? (i:=x) ?_;rw[List.getElem?_zip_eq_some];refine⟨?_,?_⟩
  ·show(a.next[s])[x]? = some ((a.next[s]).getD x 0)
   rw[List.getD_eq_getElem?_getD,List.getElem?_eq_getElem (by omega)];rfl
  ·show(b.next[u])[x]? = some ((b.next[u]).getD x 0)
   rw[List.getD_eq_getElem?_getD,List.getElem?_eq_getElem (by omega)];rfl
theorem nodup_fst {q:List (Nat × Nat)}(h:(q.map (·.1)).Nodup){s w w':Nat}(h1:(s,w)∈q)(h2:(s,w')∈q):w=w':=by
 induction q with
 | nil=>simp at h1
 | cons p q ih=>
  rw[List.map_cons,List.nodup_cons]at h;rcases List.mem_cons.1 h1 with e1|e1 <;> rcases List.mem_cons.1 h2 with e2|e2
  ·rw[← e1]at e2;cases e2;rfl
  ·exact absurd (List.mem_map.2 ⟨_,e2,by rw[← e1]⟩) h.1
  ·exact absurd (List.mem_map.2 ⟨_,e1,by rw[← e2]⟩) h.1
  ·exact ih h.2 e1 e2
theorem nodup_snd {q:List (Nat × Nat)}(h:(q.map (·.2)).Nodup){s s' w:Nat}(h1:(s,w)∈q)(h2:(s',w)∈q):s=s':=by
 induction q with
 | nil=>simp at h1
 | cons p q ih=>
  rw[List.map_cons,List.nodup_cons]at h;rcases List.mem_cons.1 h1 with e1|e1 <;> rcases List.mem_cons.1 h2 with e2|e2
  ·rw[← e1]at e2;cases e2;rfl
  ·exact absurd (List.mem_map.2 ⟨_,e2,by rw[← e1]⟩) h.1
  ·exact absurd (List.mem_map.2 ⟨_,e1,by rw[← e2]⟩) h.1
  ·exact ih h.2 e1 e2
theorem alX_yes {ia ib:List Bool}{P:Nat→Nat→Prop}(hfn:∀ s w w',P s w→P s w'→w=w')(hinj:∀ s s' w,P s w→P s' w→s=s'):∀ (l:List (Int × Int))(q:List (Nat × Nat)),(∀ t v,(t,v)∈l→thF ia t=thF ib v∧(thF ia t=true→P t.toNat v.toNat))→(∀ p∈q,P p.1 p.2) →
  ∃ q',alX ia ib l q=some q'∧∀ p∈q',P p.1 p.2
 | [],q,_,hq=>⟨q,rfl,hq⟩
 | (t,v) :: l,q,hl,hq=>by
  obtain⟨h1,h2⟩:=hl t v (by simp)
  have hl':∀ t v,(t,v)∈l→thF ia t=thF ib v∧(thF ia t=true→P t.toNat v.toNat):=fun t v h=>hl t v (by simp[h])
  have pos:∀ {inn:List Bool} {t:Int},thF inn t=true→0≤t:=fun {inn t} h=>by
   unfold thF at h;simp only[Bool.and_eq_true,decide_eq_true_eq]at h;exact h.1
  rw[alX,if_neg (by simpa using h1)]
  by_cases hyes:thF ia t=true
  ·rw[if_neg (by simp[hyes])]
   have hP:=h2 hyes;have t0:=pos hyes;have v0:=pos (h1 ▸ hyes);cases hln:lookN q t with
   | some u=>
    dsimp only;obtain⟨t1,e1,e2⟩:=lookN_mem hln;have h3:=hq _ e2;have a1:t.toNat=t1:=by omega
    rw[a1]at hP;have:=hfn _ _ _ h3 hP;dsimp only at this;rw[if_neg (by simp;omega)]
    exact alX_yes hfn hinj l q hl' hq
   | none=>
    dsimp only;have hno:¬ takN q v=true:=fun htk=>by
     obtain⟨t1,u1,e1,e2⟩:=takN_mem.1 htk;have h3:=hq _ e2;have a1:v.toNat=u1:=by omega
     rw[a1]at hP;have he:=hinj _ _ _ h3 hP;dsimp only at he;unfold lookN at hln;have:=List.find?_eq_none.1 (Option.map_eq_none_iff.1 hln) _ e2
     apply this
     dsimp only;have:((t1:Nat):Int)=t:=by omega
     simp[this]
    rw[if_neg hno];refine alX_yes hfn hinj l _ hl' fun p hp=>?_
    rcases List.mem_append.1 hp with hp|hp
    ·exact hq p hp
    ·rw[List.mem_singleton.1 hp];exact hP
  ·rw[if_pos (by simpa using hyes)]
   exact alX_yes hfn hinj l q hl' hq
theorem alQ_yes {nx ny:List (List Int)}{ia ib:List Bool}{P:Nat→Nat→Prop}(hfn:∀ s w w',P s w→P s w'→w=w')(hinj:∀ s s' w,P s w→P s' w→s=s')
  (hP:∀ s u,P s u→∀ t v,(t,v)∈(nx.getD s []).zip (ny.getD u [])→thF ia t=thF ib v∧(thF ia t=true→P t.toNat v.toNat)):∀ (f i:Nat) (q:List (Nat × Nat)) (r:Bool),(∀ p∈q,P p.1 p.2)→alQ nx ny ia ib f i q=some r→r=true
 | 0,i,q,r,hq,h=>by simp[alQ]at h
 | f+1,i,q,r,hq,h=>by
  rw[alQ]at h;split at h
  ·simpa using h.symm
  ·rename_i s u hsu
   obtain⟨q',h1,h2⟩:=alX_yes hfn hinj ((nx.getD s []).zip (ny.getD u [])) q (hP s u (hq _ (List.mem_of_getElem? hsu))) hq;rw[h1]at h;exact alQ_yes hfn hinj hP f (i+1) q' r h2 h
theorem alB_iso {k:Int}{a b:Aut}(hc:a.check k=0)(hd:b.check k=0){ca cb:Co}(la:ca.inn.length=a.next.length)(lb:cb.inn.length=b.next.length)(ba:inC ca ca.base){s:Nat}(hs:inC cb s) :
  alB a b ca cb s=true↔PIso (cD (Dl k a) (inC ca)) (cD (Dl k b) (inC cb)) ca.base s:=by
 have inA:∀ {v},inC ca v→v<a.next.length:=fun {v} h=>by have:=(List.getElem?_eq_some_iff.1 h).1;omega
 have inB:∀ {v},inC cb v→v<b.next.length:=fun {v} h=>by have:=(List.getElem?_eq_some_iff.1 h).1;omega
 have hspec:=alB_spec (a:=a) (b:=b) (ca:=ca) (cb:=cb) la lb (inA ba) (inB hs);constructor
 ·intro h;rw[h]at hspec;obtain⟨q',k1,k2,k3⟩:=alQ_spec _ 0 [(ca.base,s)] ⟨by simp,by simp⟩ (fun j s u hj=>by omega) hspec
  refine⟨fun v u=>(v,u)∈q'∧inC ca v∧inC cb u,⟨fun v w w' h1 h2=>nodup_fst k2.keys h1.1 h2.1,fun v v' w h1 h2=>nodup_snd k2.vals h1.1 h2.1,fun v w x t ⟨h1,h2,h3⟩ hx=>?_,fun v w x t' ⟨h1,h2,h3⟩ hx=>?_⟩,k1.subset (by simp),ba,hs⟩
  ·have hz:=(zip_at (k:=k) hc hd (inA h2) (inB h3)).2 ⟨x,hx.1.2.1,rfl,rfl⟩;obtain⟨g1,g2⟩:=k3 v w h1 _ _ hz;have ht:=(th_iff hc h2 (inA h2) hx.1.2.1).2 ⟨t,hx.1.2.2,hx⟩;obtain⟨t',e1,e2⟩:=(th_iff hd h3 (inB h3) hx.1.2.1).1 (g1 ▸ ht);refine⟨t',e2,?_,hx.2.2,e2.2.2⟩;have:=g2 ht;rw[hx.1.2.2,e1,Int.toNat_natCast,Int.toNat_natCast]at this;exact this
  ·have hz:=(zip_at (k:=k) hc hd (inA h2) (inB h3)).2 ⟨x,hx.1.2.1,rfl,rfl⟩;obtain⟨g1,g2⟩:=k3 v w h1 _ _ hz;have ht:=(th_iff hd h3 (inB h3) hx.1.2.1).2 ⟨t',hx.1.2.2,hx⟩;have ht:=g1.trans ht;obtain⟨t,e1,e2⟩:=(th_iff hc h2 (inA h2) hx.1.2.1).1 ht;refine⟨t,e2,?_,e2.2.2,hx.2.2⟩;have:=g2 ht;rw[hx.1.2.2,e1,Int.toNat_natCast,Int.toNat_natCast]at this;exact this
 ·rintro⟨P,hP,h0⟩
  refine alQ_yes (P:=fun v u=>P v u∧inC ca v∧inC cb u) (fun v w w' h1 h2=>hP.fn _ _ _ h1.1 h2.1) (fun v v' w h1 h2=>hP.inj _ _ _ h1.1 h2.1) (fun v u ⟨h1,h2,h3⟩ t t' hm=>?_) _ _ _ _ (fun p hp=>by rw[List.mem_singleton.1 hp];exact⟨h0,ba,hs⟩) hspec
  obtain⟨x,hx,rfl,rfl⟩:=(zip_at (k:=k) hc hd (inA h2) (inB h3)).1 hm
  by_cases ht:thF ca.inn (getN a.next v x)=true
  ·obtain⟨w,e1,e2⟩:=(th_iff hc h2 (inA h2) hx).1 ht;obtain⟨w',e3,e4⟩:=hP.fwd _ _ _ _ h1 e2;have ht':=(th_iff hd h3 (inB h3) hx).2 ⟨w',e3.1.2.2,e3⟩;refine⟨ht.trans ht'.symm,fun _=>?_⟩
   rw[e1,e3.1.2.2,Int.toNat_natCast,Int.toNat_natCast];exact⟨e4,e2.2.2,e3.2.2⟩
  ·refine⟨?_,fun h=>absurd h ht⟩
   cases ht':thF cb.inn (getN b.next u x) with
   | false=>simpa using ht
   | true=>
    obtain⟨w',e1,e2⟩:=(th_iff hd h3 (inB h3) hx).1 ht';obtain⟨w,e3,e4⟩:=hP.bwd _ _ _ _ h1 e2;exact absurd ((th_iff hc h2 (inA h2) hx).2 ⟨w,e3.1.2.2,e3⟩) ht
theorem numE_G {k:Nat}{es:List Ed}:∀ (K i:Nat)(q:List Nat)(out:List Row),numE k es K i q out=numG (rowE k es) K i q out
 | 0,_,_,_=>rfl
 | K+1,i,q,out=>by
  rw[numE,numG];cases q[i]? with
  | none=>rfl
  | some v=>exact numE_G K (i+1) _ _
theorem step_iff {es:List Ed}(hd:Det es){v x t:Nat}:stepE es v x=some t↔Dir es v x t:=by
 constructor
 ·intro h;rcases stepE_some es v x t h with ⟨h1,h2⟩|⟨h1,y,h2,h3⟩
  ·exact .inl ⟨h1,h2⟩
  ·exact .inr ⟨h1,by rw[← h2];exact h3⟩
 ·intro h;cases hs:stepE es v x with
  | none=>
   have hno:=stepE_none es v x hs;rcases h with ⟨h1,h2⟩|⟨h1,h2⟩
   ·exact absurd ⟨h1,rfl,rfl⟩ (hno _ h2).1
   ·exact absurd ⟨h1,by show x-1+1=x;omega,rfl⟩ (hno _ h2).2
  | some t'=>
   have h':Dir es v x t':=by
    rcases stepE_some es v x t' hs with ⟨h1,h2⟩|⟨h1,y,h2,h3⟩
    ·exact .inl ⟨h1,h2⟩
    ·exact .inr ⟨h1,by rw[← h2];exact h3⟩
   rw[hd _ _ _ _ h h']
theorem row_mem {k:Nat}{es:List Ed}(hd:Det es)(hx:∀ s x t,Dir es s x t→x<2*k){v t:Nat}:some t∈rowE k es v↔∃ x,Dir es v x t:=by
 constructor
 ·intro h;obtain⟨x,h1⟩:=List.getElem?_of_mem h;have hl:=(List.getElem?_eq_some_iff.1 h1).1;rw[rowE_len]at hl;rw[rowE_get hl]at h1;exact⟨x,(step_iff hd).1 (Option.some.inj h1)⟩
 ·rintro⟨x,h⟩
  refine List.mem_of_getElem? (i:=x) ?_;rw[rowE_get (hx _ _ _ h),(step_iff hd).2 h]
theorem num_iso {k:Nat}{ea eb:List Ed}(da:Det ea)(db:Det eb)(xa:∀ s x t,Dir ea s x t→x<2*k)(xb:∀ s x t,Dir eb s x t→x<2*k){v u K K':Nat}{R R':List Row}
  (h:numE k ea K 0 [v] []=some R) (h':numE k eb K' 0 [u] []=some R'):R=R'↔PIso (Dir ea) (Dir eb) v u:=by
 rw[numE_G]at h h';constructor
 ·rintro rfl
  obtain⟨q,hq⟩:=numG_spec K 0 [v] [] R (by simp) rfl (by simp) (fun j v hj=>by omega) h
  obtain⟨q',hq'⟩:=numG_spec K' 0 [u] [] R (by simp) rfl (by simp) (fun j v hj=>by omega) h'
  have at0':∀ {q:List Nat} {v:Nat},[v] <+: q→q[0]? = some v:=fun {q v} ⟨t,ht⟩=>by rw[← ht];rfl
  have uniq:∀ {q:List Nat} {i j s:Nat},q.Nodup→q[i]? = some s→q[j]? = some s→i=j:=fun {q i j s} hn h1 h2=>by
   obtain⟨l1,e1⟩:=List.getElem?_eq_some_iff.1 h1;obtain⟨l2,e2⟩:=List.getElem?_eq_some_iff.1 h2;exact(List.getElem_inj hn).1 (e1.trans e2.symm)
  have idx:∀ {q:List Nat} {t:Nat},t∈q→q[q.idxOf t]? = some t:=fun {q t} ht=>by
   have hlt:=List.idxOf_lt_length_iff.2 ht;rw[List.getElem?_eq_getElem hlt,List.getElem_idxOf hlt]
  have go:∀ {ea eb:List Ed} {v u:Nat} {q q':List Nat},Det ea→Det eb→(∀ s x t,Dir ea s x t→x<2*k)→NumOf (rowE k ea) [v] q R→NumOf (rowE k eb) [u] q' R→∀ {j s w x t:Nat},q[j]? = some s→q'[j]? = some w→Dir ea s x t→∃ t' j':Nat,Dir eb w x t'∧q[j']? = some t∧q'[j']? = some t':=fun {ea eb v u q q'} da db xa hq hq' {j s w x t} h1 h2 hd=>by
   have hx:=xa _ _ _ hd;obtain⟨r1,m1⟩:=hq.row j s h1;obtain⟨r2,m2⟩:=hq'.row j w h2;rw[r1]at r2;have r2:=Option.some.inj r2;have e:=congrArg (·[x]?) r2;simp only[List.getElem?_map]at e;rw[rowE_get hx,rowE_get hx,(step_iff da).2 hd]at e;simp only[Option.map_some]at e;cases hs:stepE eb w x with
   | none=>rw[hs]at e;simp at e
   | some t'=>
    rw[hs]at e;simp only[Option.map_some,Option.some.injEq]at e;have hd':=(step_iff db).1 hs;have mt:t∈q:=m1 t ((row_mem da xa).2 ⟨x,hd⟩);have mt':t'∈q':=m2 t' (List.mem_of_getElem? (i:=x) (by rw[rowE_get hx,hs]))
    refine⟨t',q.idxOf t,hd',idx mt,?_⟩;rw[e];exact idx mt'
  refine⟨fun s w=>∃ j:Nat,q[j]? = some s∧q'[j]? = some w,⟨?_,?_,?_,?_⟩,0,at0' hq.pre,at0' hq'.pre⟩
  ·rintro s w w' ⟨j,h1,h2⟩ ⟨j',h3,h4⟩
   have:=uniq hq.nd h1 h3;subst this;rw[h2]at h4;exact Option.some.inj h4
  ·rintro s s' w ⟨j,h1,h2⟩ ⟨j',h3,h4⟩
   have:=uniq hq'.nd h2 h4;subst this;rw[h1]at h3;exact Option.some.inj h3
  ·rintro s w x t ⟨j,h1,h2⟩ hd
   obtain⟨t',j',g1,g2,g3⟩:=go da db xa hq hq' h1 h2 hd;exact⟨t',g1,j',g2,g3⟩
  ·rintro s w x t' ⟨j,h1,h2⟩ hd
   obtain⟨t,j',g1,g2,g3⟩:=go db da xb hq' hq h2 h1 hd;exact⟨t,g1,j',g3,g2⟩
 ·rintro⟨P,hP,h0⟩
  classical
  let φ:Nat→Nat:=fun s=>if h:∃ w,P s w then Classical.choose h else 0
  have hφ:∀ {s w},P s w→φ s=w:=fun {s w} h=>by
   have hex:∃ w,P s w:=⟨w,h⟩
   show(if h:∃ w,P s w then Classical.choose h else 0)=w
   rw[dif_pos hex];exact hP.fn _ _ _ (Classical.choose_spec hex) h
  have hm:=num_mapG (φ:=φ) (P:=fun s=>∃ w,P s w) (fun s s' ⟨w,h1⟩ ⟨w',h2⟩ he=>by
   rw[hφ h1,hφ h2]at he;subst he;exact hP.inj _ _ _ h1 h2) (ρ:=rowE k ea) (ρ':=rowE k eb) (fun s ⟨w,hs⟩=>by
   refine List.ext_getElem? fun x=>?_
   rw[List.getElem?_map]
   by_cases hx:x<2*k
   ·rw[rowE_get hx,rowE_get hx,hφ hs];simp only[Option.map_some,Option.some.injEq];cases h1:stepE ea s x with
    | none=>
     cases h2:stepE eb w x with
     | none=>rfl
     | some t'=>
      obtain⟨t,g1,_⟩:=hP.bwd _ _ _ _ hs ((step_iff db).1 h2);rw[(step_iff da).2 g1]at h1;cases h1
    | some t=>
     obtain⟨t',g1,g2⟩:=hP.fwd _ _ _ _ hs ((step_iff da).1 h1);rw[(step_iff db).2 g1,Option.map_some,hφ g2]
   ·rw[List.getElem?_eq_none (by rw[rowE_len];omega),List.getElem?_eq_none (by rw[rowE_len];omega)];rfl) (fun s ⟨w,hs⟩ t ht=>by
   obtain⟨x,hd⟩:=(row_mem da xa).1 ht;obtain⟨t',_,g2⟩:=hP.fwd _ _ _ _ hs hd;exact⟨t',g2⟩) K 0 [v] [] (fun s hs=>by rw[List.mem_singleton.1 hs];exact⟨u,h0⟩)
  rw[List.map_cons,List.map_nil,hφ h0,h]at hm;have a1:=numG_fuel K (K+K') _ _ _ _ (by omega) hm
  have a2:=numG_fuel K' (K+K') _ _ _ _ (by omega) h'
  rw[a1]at a2;exact Option.some.inj a2
def shC (e:Ed):Ed:=(e.1+1,e.2.1,e.2.2+1)
def toC (n len i:Nat):Nat:=if i+1<len then n+i else 1
def pathC (n len:Nat):Nat→Nat→List Nat→List Ed
 | _,_,[]=>[]
 | i,u,x :: l=>edgeR u x (toC n len i) :: pathC n len (i+1) (toC n len i) l
def conjE (k:Nat)(a:Aut)(u:List Nat):List Ed:=(graphL k 0 a.next).map shC ++ pathC (1+a.acc.length) u.length 0 0 u
theorem toC_pv (n len i:Nat):toC n len i=pv n 0 1 len (i+1):=by
 unfold toC pv;rw[if_neg (Nat.succ_ne_zero i)];rfl
theorem pathC_mem {n len:Nat}{e:Ed}:∀ (l:List Nat)(i:Nat),e∈pathC n len i (pv n 0 1 len i) l↔∃ j x,l[j]? = some x∧e=edgeR (pv n 0 1 len (i+j)) x (pv n 0 1 len (i+j+1))
 | [],i=>by simp[pathC]
 | x :: l,i=>by
  rw[pathC,List.mem_cons,toC_pv,pathC_mem l (i+1)];constructor
  ·rintro(rfl|⟨j,y,h1,rfl⟩)
   ·exact⟨0,x,rfl,rfl⟩
   ·refine⟨j+1,y,h1,?_⟩;rw[show i+(j+1)=i+1+j from by omega]
  ·rintro⟨j,y,h1,rfl⟩
   cases j with
   | zero=>simp at h1;subst h1;exact .inl rfl
   | succ j=>
    refine .inr ⟨j,y,h1,?_⟩;rw[show i+(j+1)=i+1+j from by omega]
theorem pv_inj {n len i j:Nat}(hn:2≤n)(hi:i≤len)(hj:j≤len)(h:pv n 0 1 len i=pv n 0 1 len j):i=j:=by
 unfold pv at h;split at h <;> split at h <;> (try split at h) <;> (try split at h) <;> omega
theorem pathC_nodup {n len:Nat}(hn:2≤n):∀ (l:List Nat)(i:Nat),i+l.length=len→(pathC n len i (pv n 0 1 len i) l).Nodup
 | [],i,_=>by simp[pathC]
 | x :: l,i,h=>by
  simp only[List.length_cons]at h;rw[pathC,toC_pv,List.nodup_cons];refine⟨fun hm=>?_,pathC_nodup hn l (i+1) (by omega)⟩
  obtain⟨j,y,h1,h2⟩:=(pathC_mem l (i+1)).1 hm;have hj:=(List.getElem?_eq_some_iff.1 h1).1;have g1:=edgeR_vt (pv n 0 1 len i) x (pv n 0 1 len (i+1));have g2:=edgeR_vt (pv n 0 1 len (i+1+j)) y (pv n 0 1 len (i+1+j+1));rw[h2]at g1;rcases g1 with ⟨a1,a2⟩|⟨a1,a2⟩ <;> rcases g2 with ⟨b1,b2⟩|⟨b1,b2⟩
  ·have:=pv_inj hn (by omega) (by omega) (a1.symm.trans b1);omega
  ·have:=pv_inj hn (by omega) (by omega) (a1.symm.trans b1);omega
  ·have:=pv_inj hn (by omega) (by omega) (a2.symm.trans b2);omega
  ·have:=pv_inj hn (by omega) (by omega) (a2.symm.trans b2);omega
theorem dir_one {es:List Ed}{s x t:Nat}:Dir es s x t↔∃ e∈es,Dir [e] s x t:=by
 unfold Dir;constructor
 ·rintro(⟨h1,h2⟩|⟨h1,h2⟩)
  ·exact⟨_,h2,.inl ⟨h1,List.mem_singleton.2 rfl⟩⟩
  ·exact⟨_,h2,.inr ⟨h1,List.mem_singleton.2 rfl⟩⟩
 ·rintro⟨e,h,(⟨h1,h2⟩|⟨h1,h2⟩)⟩
  ·rw[List.mem_singleton]at h2;subst h2;exact .inl ⟨h1,h⟩
  ·rw[List.mem_singleton]at h2;subst h2;exact .inr ⟨h1,h⟩
theorem conj_stall {k:Nat}{a:Aut}(hk:1≤k∧k≤8)(hc:a.check (k:Int)=0){u:List Nat}(hu:u≠[])(hx:∀ x∈u,x<2*k)(hl:u.length≤50000) :
  ∃ K R o,stallF k K (conjE k a u)=some R∧R.length≤a.next.length+u.length+2∧FoldL k (conjL (k:Int) a u) o∧((o=some R∧R.length≤2000)∨(o=none∧2000<R.length)):=by
 obtain⟨_,_,n1,n2,n3,_,hrows⟩:=check_spec hc;have hlt:=graphL_lt (k:=k) (next:=a.next) (fun r hr t ht=>((hrows r hr).2 t ht).2) n1
 have hlen:0<u.length:=List.length_pos_iff.2 hu;have e0:pv (1+a.acc.length) 0 1 u.length 0=0:=rfl;have hpm:∀ e,e∈pathC (1+a.acc.length) u.length 0 0 u↔∃ j x,u[j]? = some x∧e=edgeR (pv (1+a.acc.length) 0 1 u.length j) x (pv (1+a.acc.length) 0 1 u.length (j+1)):=fun e=>by
  have:=pathC_mem (n:=1+a.acc.length) (len:=u.length) (e:=e) u 0;rw[e0]at this
  simpa using this
 have pvb:∀ j,j≤u.length→pv (1+a.acc.length) 0 1 u.length j<1+a.acc.length+u.length+1:=fun j hj=>by
  unfold pv;split
  ·omega
  ·split <;> omega
 have hev:Evn (conjE k a u):=fun e he=>by
  rcases List.mem_append.1 he with he|he
  ·obtain⟨e0,h0,rfl⟩:=List.mem_map.1 he;exact graph_even k _ e0 h0
  ·obtain⟨j,x,h1,rfl⟩:=(hpm e).1 he;exact edgeR_even _ _ _
 have hlet:∀ e∈conjE k a u,e.2.1<2*k:=fun e he=>by
  rcases List.mem_append.1 he with he|he
  ·obtain⟨e0,h0,rfl⟩:=List.mem_map.1 he;exact graph_let e0 h0
  ·obtain⟨j,x,h1,rfl⟩:=(hpm e).1 he;have:=hx x (List.mem_of_getElem? h1);unfold edgeR;split
   ·exact this
   ·show x-1<2*k;omega
 have hB:InB (1+a.acc.length+u.length+1) (conjE k a u):=fun e he=>by
  rcases List.mem_append.1 he with he|he
  ·obtain⟨e0,h0,rfl⟩:=List.mem_map.1 he;have:=hlt e0 h0;unfold shC;dsimp only;omega
  ·obtain⟨j,x,h1,rfl⟩:=(hpm e).1 he;have hj:=(List.getElem?_eq_some_iff.1 h1).1;have b1:=pvb j (by omega)
   have b2:=pvb (j+1) (by omega)
   rcases edgeR_vt (pv (1+a.acc.length) 0 1 u.length j) x (pv (1+a.acc.length) 0 1 u.length (j+1)) with ⟨g1,g2⟩|⟨g1,g2⟩ <;> rw[g1,g2] <;> omega
 have huq:Uq (conjE k a u):=by
  refine Uq.of_nodup ?_;unfold conjE;rw[List.nodup_append];refine⟨?_,?_,fun e he f hf heq=>?_⟩
  ·unfold List.Nodup;rw[List.pairwise_map];refine List.Pairwise.imp_of_mem (fun {e f} he hf hne heq=>hne ?_) (graph_nodup k a.next)
   unfold shC at heq;simp only[Prod.mk.injEq]at heq
   apply Prod.ext (by omega)
   apply Prod.ext heq.2.1 (by omega)
  ·have:=pathC_nodup (n:=1+a.acc.length) (len:=u.length) (by omega) u 0 (by omega)
   rw[e0]at this;exact this
  ·obtain⟨e1,h0,rfl⟩:=List.mem_map.1 he;obtain⟨j,x,h1,rfl⟩:=(hpm f).1 hf;have hj:=(List.getElem?_eq_some_iff.1 h1).1;have hl2:=hlt e1 h0;have hvt:=edgeR_vt (pv (1+a.acc.length) 0 1 u.length j) x (pv (1+a.acc.length) 0 1 u.length (j+1));rw[← heq]at hvt;unfold shC at hvt;dsimp only at hvt;have hp:pv (1+a.acc.length) 0 1 u.length j=0∨1+a.acc.length≤pv (1+a.acc.length) 0 1 u.length j:=by
    unfold pv
    by_cases h0:j=0
    ·rw[if_pos h0];exact .inl rfl
    ·rw[if_neg h0,if_pos hj];exact .inr (by omega)
   omega
 obtain⟨o,ho⟩:=edges_folded hk hev hB (by omega) (by omega) hlet
 obtain⟨K,R,hK,hR⟩:=stall_of ho hev hB huq;have hRl:=stall_len hB (by omega) hK
 refine⟨K,R,o,hK,by omega,⟨_,0,ho,fun l _=>?_⟩,hR⟩
 have hA:=dl_aut (k:=(k:Int)) (by omega) hc
 have hdl:∀ s x t,Dl (k:Int) a s x t→s<a.next.length∧t<a.next.length:=fun s x t h=>⟨h.1,(edge_bas (k:=(k:Int)) (by omega) hc h.1 h.2.1 h.2.2).1⟩
 have hff:∀ s,s<a.next.length→s+1=(if s<a.acc.length then s+1 else s+1+u.length):=fun s h=>(if_pos (by omega)).symm
 refine conj_homs (δ:=Dl (k:Int) a) (n:=1+a.acc.length) (b:=1) (f:=fun s=>if s<a.acc.length then s+1 else s+1+u.length)
  (g:=fun v=>if v=0 then 0 else if v≤a.acc.length then u.length+(v-1) else if v≤a.acc.length+u.length then v-a.acc.length else v-1) hA.inv (.inl hu) (fun p y q=>?_) (by rw[if_pos (by omega)]) (fun i hi=>?_) (fun s=>?_) l
 ·unfold conjE;rw[dir_app];refine or_comm.trans (or_congr ?_ ?_)
  ·rw[pathE_iff,dir_one];constructor
   ·rintro⟨e,he,hd⟩
    obtain⟨j,x,h1,rfl⟩:=(hpm e).1 he;rcases dir_edge.1 hd with h|h <;> simp only[Prod.mk.injEq]at h <;> obtain⟨q1,q2,q3⟩:=h
    ·exact⟨j,x,h1,.inl ⟨q1,q2,q3⟩⟩
    ·exact⟨j,x,h1,.inr ⟨q1,q2,q3⟩⟩
   ·rintro⟨j,x,h1,(⟨rfl,rfl,rfl⟩|⟨rfl,rfl,rfl⟩)⟩
    ·exact⟨_,(hpm _).2 ⟨j,y,h1,rfl⟩,dir_edge.2 (.inl rfl)⟩
    ·exact⟨_,(hpm _).2 ⟨j,x,h1,rfl⟩,dir_edge.2 (.inr rfl)⟩
  ·constructor
   ·rintro(⟨h1,h2⟩|⟨h1,h2⟩)
    ·obtain⟨e1,h0,he⟩:=List.mem_map.1 h2;unfold shC at he;simp only[Prod.mk.injEq]at he;obtain⟨rfl,rfl,rfl⟩:=he;have hd:=(graph_dl hk.2 hc).1 (.inl ⟨h1,h0⟩);obtain⟨g1,g2⟩:=hdl _ _ _ hd;exact⟨e1.1,e1.2.1,e1.2.2,hd,hff _ g1,rfl,hff _ g2⟩
    ·obtain⟨e1,h0,he⟩:=List.mem_map.1 h2;unfold shC at he;simp only[Prod.mk.injEq]at he;obtain⟨rfl,he,rfl⟩:=he;have hd:=(graph_dl (s:=e1.2.2) (x:=y) (t:=e1.1) hk.2 hc).1 (.inr ⟨h1,by rw[← he];exact h0⟩)
     obtain⟨g1,g2⟩:=hdl _ _ _ hd;exact⟨e1.2.2,y,e1.1,hd,hff _ g1,rfl,hff _ g2⟩
   ·rintro⟨s,x,t,hd,rfl,rfl,rfl⟩
    obtain⟨g1,g2⟩:=hdl _ _ _ hd;rw[← hff _ g1,← hff _ g2];rcases(graph_dl hk.2 hc).2 hd with ⟨h1,h2⟩|⟨h1,h2⟩
    ·exact .inl ⟨h1,List.mem_map.2 ⟨_,h2,rfl⟩⟩
    ·exact .inr ⟨h1,List.mem_map.2 ⟨_,h2,rfl⟩⟩
 ·unfold pv
  by_cases h0:i=0
  ·subst h0;rfl
  ·rw[if_neg h0]
   by_cases h1:i<u.length
   ·rw[if_pos h1,if_neg (by omega),if_neg (by omega),if_pos (by omega)];omega
   ·rw[if_neg h1,if_neg (by omega),if_pos (by omega)];omega
 ·by_cases h0:s<a.acc.length
  ·rw[if_pos h0,if_neg (by omega),if_pos (by omega)];omega
  ·rw[if_neg h0,if_neg (by omega),if_neg (by omega),if_neg (by omega)];omega
end Go.Proofs.YtffdjfkekdoeaaaDoor.Fo
end
section
namespace Go.Proofs.YtffdjfkekdoeaaaDoor
open Fw
noncomputable def cayleyref21_core.ann:Ann where
 loops:=fun | 4=>[(4,.sc .adr),(6,.sc .adr),(7,.sc .sl),(8,.sc (.int .i64))] | _=>[]
 joins:=fun | _=>none
noncomputable def cayleyref21_core.body:Code:=match Tryd.f76.body with | some c=>c | none=>.skip
def cayleyref21_core.sh (p0:Int)(p1_0:Int)(p1_1:Int)(p1_2:Sl)(p1_3:Sl)(R:Ending→World→Prop)(w:World):Prop:=
 New w (.cells #[(.int .i64 p1_0),(.int .i64 p1_1),(.slice p1_2.a p1_2.n p1_2.c),(.slice p1_3.a p1_3.n p1_3.c)] 27) fun b1 w2=>
 New w2 (.cells #[(.int .i64 0),(.int .i64 0),(.slice none 0 0)] 54) fun b3 w4=>
 LoadT (.agg [.int .i64,.int .i64,.sl,.sl]) w4 (Addr.mk b1 0 none) fun x5=>
 CallT Tryd.prog 27 #[(.int .i64 p0),(.agg #[(.int .i64 x5.1),(.int .i64 x5.2.1),(.slice x5.2.2.1.a x5.2.2.1.n x5.2.2.1.c),(.slice x5.2.2.2.1.a x5.2.2.2.1.n x5.2.2.2.1.c)])] (.agg [.int .i64,.int .i64,.sl]) w4 (fun r6 w7=>
 CallT Tryd.prog 71 #[(.agg #[(.int .i64 r6.1),(.int .i64 r6.2.1),(.slice r6.2.2.1.a r6.2.2.1.n r6.2.2.1.c)]),(.bool true)] (.agg [.int .i64,.int .i64,.sl]) w7 (fun r9 w10=>
 New w10 (.cells #[(.int .i64 0),(.int .i64 0),(.slice none 0 0)] 54) fun b12 w13=>
 StoreN w13 (Addr.mk b12 0 none) [(.int .i64 r9.1),(.int .i64 r9.2.1),(.slice r9.2.2.1.a r9.2.2.1.n r9.2.2.1.c)] fun w14=>
 New w14 (.cells #[] 3) fun b15 w16=>
 LoopT (σ:=Addr × Addr × Sl × Int × Unit) ((Addr.mk b3 0 none),(Addr.mk b12 0 none),⟨(some (Addr.mk b15 0 none)),0,0⟩,0,()) w16 fun l17 g18 w19 I20=>
 LoadT (.sc (.int .i64)) w19 (l17.2.1.add 1) fun x21=>
 Br (decide ((l17.2.2.2.1:Int)<x21))
 (LoadT (.agg [.int .i64,.int .i64,.sl]) w19 l17.2.1 fun x22=>
 CallT Tryd.prog 92 #[(.agg #[(.int .i64 x22.1),(.int .i64 x22.2.1),(.slice x22.2.2.1.a x22.2.2.1.n x22.2.2.1.c)]),(.int .i64 l17.2.2.2.1)] (.sc (.int .i64)) w19 (fun r23 w24=>
 Br (decide ((r23:Int)>0))
 (New w24 (.cells #[(.int .i64 l17.2.2.2.1)] 3) fun b26 w27=>
 RunT Tryd.prog (.sc .sl) (Builtin.append_ #[85,85] 85 #[(.slice l17.2.2.1.a l17.2.2.1.n l17.2.2.1.c),(.slice (some (Addr.mk b26 0 none)) 1 1)]) w27 fun r28 w29=>
 I20 (l17.1,l17.2.1,r28,(IntKind.wrap .i64 (l17.2.2.2.1+1)),()) w29)
 (I20 (l17.1,l17.2.1,l17.2.2.1,(IntKind.wrap .i64 (l17.2.2.2.1+1)),()) w24)) (fun h25 w24=>R (.panicked h25) w24))
 (LoadT (.agg [.int .i64,.int .i64,.sl]) w19 l17.2.1 fun x30=>
 StoreN w19 l17.1 [(.int .i64 x30.1),(.int .i64 x30.2.1),(.slice x30.2.2.1.a x30.2.2.1.n x30.2.2.1.c)] fun w31=>
 LoadT (.agg [.int .i64,.int .i64,.sl]) w31 l17.1 fun x32=>
 R (.returned (.tuple #[(.agg #[(.int .i64 x32.1),(.int .i64 x32.2.1),(.slice x32.2.2.1.a x32.2.2.1.n x32.2.2.1.c)]),(.slice l17.2.2.1.a l17.2.2.1.n l17.2.2.1.c)])) w31)) (fun h11 w10=>R (.panicked h11) w10)) (fun h8 w7=>R (.panicked h8) w7)
theorem cayleyref21_core.calls (p0:Int)(p1_0:Int)(p1_1:Int)(p1_2:Sl)(p1_3:Sl){R:Ending→World→Prop}{w:World}(h:cayleyref21_core.sh p0 p1_0 p1_1 p1_2 p1_3 R w):Calls Tryd.prog 76 #[(.int .i64 p0),(.agg #[(.int .i64 p1_0),(.int .i64 p1_1),(.slice p1_2.a p1_2.n p1_2.c),(.slice p1_3.a p1_3.n p1_3.c)])] w R:=calls_of_wpc mixed Tryd.func76 (by kernel_rfl) (by kernel_rfl) ((show _=wpc Tryd.prog cayleyref21_core.ann cayleyref21_core.body (fnKs Tryd.prog Tryd.f76 R) [] (env0 #[(.int .i64 p0),(.agg #[(.int .i64 p1_0),(.int .i64 p1_1),(.slice p1_2.a p1_2.n p1_2.c),(.slice p1_3.a p1_3.n p1_3.c)])]) w by kernel_rfl).mp h)
noncomputable def cayleyref21_Conjugates.ann:Ann where
 loops:=fun | 7=>[(7,.sc .adr),(8,.sc .sl),(11,.sc .adr),(12,.sc (.int .i64))] | _=>[]
 joins:=fun | 4=>some [(7,.sc .adr),(8,.sc .sl),(9,.sc .adr),(10,.sc .sl),(32,.sc .bool)] | _=>none
noncomputable def cayleyref21_Conjugates.body:Code:=match Tryd.f40.body with | some c=>c | none=>.skip
def cayleyref21_Conjugates.sh (p0:Int)(p1_0:Int)(p1_1:Int)(p1_2:Sl)(p1_3:Sl)(p2_0:Int)(p2_1:Int)(p2_2:Sl)(p2_3:Sl)(R:Ending→World→Prop)(w:World):Prop:=
 New w (.cells #[(.int .i64 p1_0),(.int .i64 p1_1),(.slice p1_2.a p1_2.n p1_2.c),(.slice p1_3.a p1_3.n p1_3.c)] 27) fun b1 w2=>
 New w2 (.cells #[(.int .i64 p2_0),(.int .i64 p2_1),(.slice p2_2.a p2_2.n p2_2.c),(.slice p2_3.a p2_3.n p2_3.c)] 27) fun b3 w4=>
 LoadT (.agg [.int .i64,.int .i64,.sl,.sl]) w4 (Addr.mk b1 0 none) fun x5=>
 CallN Tryd.prog 76 #[(.int .i64 p0),(.agg #[(.int .i64 x5.1),(.int .i64 x5.2.1),(.slice x5.2.2.1.a x5.2.2.1.n x5.2.2.1.c),(.slice x5.2.2.2.1.a x5.2.2.2.1.n x5.2.2.2.1.c)])] [.agg [.int .i64,.int .i64,.sl],.sc .sl] w4 (fun r6 w7=>
 New w7 (.cells #[(.int .i64 0),(.int .i64 0),(.slice none 0 0)] 54) fun b9 w10=>
 StoreN w10 (Addr.mk b9 0 none) [(.int .i64 r6.1.1),(.int .i64 r6.1.2.1),(.slice r6.1.2.2.1.a r6.1.2.2.1.n r6.1.2.2.1.c)] fun w11=>
 LoadT (.agg [.int .i64,.int .i64,.sl,.sl]) w11 (Addr.mk b3 0 none) fun x12=>
 CallN Tryd.prog 76 #[(.int .i64 p0),(.agg #[(.int .i64 x12.1),(.int .i64 x12.2.1),(.slice x12.2.2.1.a x12.2.2.1.n x12.2.2.1.c),(.slice x12.2.2.2.1.a x12.2.2.2.1.n x12.2.2.2.1.c)])] [.agg [.int .i64,.int .i64,.sl],.sc .sl] w11 (fun r13 w14=>
 New w14 (.cells #[(.int .i64 0),(.int .i64 0),(.slice none 0 0)] 54) fun b16 w17=>
 StoreN w17 (Addr.mk b16 0 none) [(.int .i64 r13.1.1),(.int .i64 r13.1.2.1),(.slice r13.1.2.2.1.a r13.1.2.2.1.n r13.1.2.2.1.c)] fun w18=>
 Join (σ:=Addr × Sl × Addr × Sl × Bool × Unit) (fun j21 g20 w22=>
 Br j21.2.2.2.2.1
 (R (.returned (.bool ((((j21.2.1.n:Nat):Int):Int) == ((j21.2.2.2.1.n:Nat):Int)))) w22)
 (∃ S23:World→Prop,S23 w22.drew ∧
 (LoadS S23 (.agg [.int .i64,.int .i64,.sl]) j21.2.2.1 fun x24=>
 Idx j21.2.2.2.1.a j21.2.2.2.1.n 1 0 fun a25=>
 LoadS S23 (.sc (.int .i64)) a25 fun x26=>
 (CallT Tryd.prog 70 #[(.agg #[(.int .i64 x24.1),(.int .i64 x24.2.1),(.slice x24.2.2.1.a x24.2.2.1.n x24.2.2.1.c)]),(.int .i64 x26)] (.agg [.int .i64,.int .i64,.sl,.sl]) w22.drew (fun r27 w28=>
 S23 w28 ∧
 (New w28 (.cells #[(.int .i64 0),(.int .i64 0),(.slice none 0 0),(.slice none 0 0)] 27) fun b30 w31=>
 S23 w31 ∧
 (StoreN w31 (Addr.mk b30 0 none) [(.int .i64 r27.1),(.int .i64 r27.2.1),(.slice r27.2.2.1.a r27.2.2.1.n r27.2.2.1.c),(.slice r27.2.2.2.1.a r27.2.2.2.1.n r27.2.2.2.1.c)] fun w32=>
 LoopT (σ:=Addr × Sl × Addr × Int × Unit) (j21.1,j21.2.1,(Addr.mk b30 0 none),0,()) w32 fun l33 g34 w35 I36=>
 Br (decide ((l33.2.2.2.1:Int)<((l33.2.1.n:Nat):Int)))
 (∃ S37:World→Prop,S37 w35.drew ∧
 (LoadS S37 (.agg [.int .i64,.int .i64,.sl]) l33.1 fun x38=>
 Idx l33.2.1.a l33.2.1.n 1 l33.2.2.2.1 fun a39=>
 LoadS S37 (.sc (.int .i64)) a39 fun x40=>
 LoadS S37 (.agg [.int .i64,.int .i64,.sl,.sl]) l33.2.2.1 fun x41=>
 CallT Tryd.prog 70 #[(.agg #[(.int .i64 x38.1),(.int .i64 x38.2.1),(.slice x38.2.2.1.a x38.2.2.1.n x38.2.2.1.c)]),(.int .i64 x40)] (.agg [.int .i64,.int .i64,.sl,.sl]) w35.drew (fun r42 w43=>
 S37 w43 ∧
 (CallT Tryd.prog 15 #[(.agg #[(.int .i64 r42.1),(.int .i64 r42.2.1),(.slice r42.2.2.1.a r42.2.2.1.n r42.2.2.1.c),(.slice r42.2.2.2.1.a r42.2.2.2.1.n r42.2.2.2.1.c)]),(.agg #[(.int .i64 x41.1),(.int .i64 x41.2.1),(.slice x41.2.2.1.a x41.2.2.1.n x41.2.2.1.c),(.slice x41.2.2.2.1.a x41.2.2.2.1.n x41.2.2.2.1.c)])] (.sc .bool) w43 (fun r45 w46=>
 Br r45
 (R (.returned (.bool true)) w46)
 (I36 (l33.1,l33.2.1,l33.2.2.1,(IntKind.wrap .i64 (l33.2.2.2.1+1)),()) w46)) (fun h47 w46=>R (.panicked h47) w46))) (fun h44 w43=>R (.panicked h44) w43)))
 (R (.returned (.bool false)) w35)))) (fun h29 w28=>R (.panicked h29) w28)) ∧
 (New w22.drew (.cells #[(.int .i64 0),(.int .i64 0),(.slice none 0 0),(.slice none 0 0)] 27) fun b48 w49=>
 S23 w49 ∧
 (CallT Tryd.prog 70 #[(.agg #[(.int .i64 x24.1),(.int .i64 x24.2.1),(.slice x24.2.2.1.a x24.2.2.1.n x24.2.2.1.c)]),(.int .i64 x26)] (.agg [.int .i64,.int .i64,.sl,.sl]) w49 (fun r50 w51=>
 S23 w51 ∧
 (StoreN w51 (Addr.mk b48 0 none) [(.int .i64 r50.1),(.int .i64 r50.2.1),(.slice r50.2.2.1.a r50.2.2.1.n r50.2.2.1.c),(.slice r50.2.2.2.1.a r50.2.2.2.1.n r50.2.2.2.1.c)] fun w53=>
 LoopT (σ:=Addr × Sl × Addr × Int × Unit) (j21.1,j21.2.1,(Addr.mk b48 0 none),0,()) w53 fun l54 g55 w56 I57=>
 Br (decide ((l54.2.2.2.1:Int)<((l54.2.1.n:Nat):Int)))
 (∃ S58:World→Prop,S58 w56.drew ∧
 (LoadS S58 (.agg [.int .i64,.int .i64,.sl]) l54.1 fun x59=>
 Idx l54.2.1.a l54.2.1.n 1 l54.2.2.2.1 fun a60=>
 LoadS S58 (.sc (.int .i64)) a60 fun x61=>
 LoadS S58 (.agg [.int .i64,.int .i64,.sl,.sl]) l54.2.2.1 fun x62=>
 CallT Tryd.prog 70 #[(.agg #[(.int .i64 x59.1),(.int .i64 x59.2.1),(.slice x59.2.2.1.a x59.2.2.1.n x59.2.2.1.c)]),(.int .i64 x61)] (.agg [.int .i64,.int .i64,.sl,.sl]) w56.drew (fun r63 w64=>
 S58 w64 ∧
 (CallT Tryd.prog 15 #[(.agg #[(.int .i64 r63.1),(.int .i64 r63.2.1),(.slice r63.2.2.1.a r63.2.2.1.n r63.2.2.1.c),(.slice r63.2.2.2.1.a r63.2.2.2.1.n r63.2.2.2.1.c)]),(.agg #[(.int .i64 x62.1),(.int .i64 x62.2.1),(.slice x62.2.2.1.a x62.2.2.1.n x62.2.2.1.c),(.slice x62.2.2.2.1.a x62.2.2.2.1.n x62.2.2.2.1.c)])] (.sc .bool) w64 (fun r66 w67=>
 Br r66
 (R (.returned (.bool true)) w67)
 (I57 (l54.1,l54.2.1,l54.2.2.1,(IntKind.wrap .i64 (l54.2.2.2.1+1)),()) w67)) (fun h68 w67=>R (.panicked h68) w67))) (fun h65 w64=>R (.panicked h65) w64)))
 (R (.returned (.bool false)) w56))) (fun h52 w51=>R (.panicked h52) w51)))))) fun J19=>
 Br ((((r6.2.1.n:Nat):Int):Int) == 0)
 (J19 ((Addr.mk b9 0 none),r6.2.1,(Addr.mk b16 0 none),r13.2.1,true,()) w18)
 (J19 ((Addr.mk b9 0 none),r6.2.1,(Addr.mk b16 0 none),r13.2.1,((((r13.2.1.n:Nat):Int):Int) == 0),()) w18)) (fun h15 w14=>R (.panicked h15) w14)) (fun h8 w7=>R (.panicked h8) w7)
theorem cayleyref21_Conjugates.calls (p0:Int)(p1_0:Int)(p1_1:Int)(p1_2:Sl)(p1_3:Sl)(p2_0:Int)(p2_1:Int)(p2_2:Sl)(p2_3:Sl){R:Ending→World→Prop}{w:World}(h:cayleyref21_Conjugates.sh p0 p1_0 p1_1 p1_2 p1_3 p2_0 p2_1 p2_2 p2_3 R w):Calls Tryd.prog 40 #[(.int .i64 p0),(.agg #[(.int .i64 p1_0),(.int .i64 p1_1),(.slice p1_2.a p1_2.n p1_2.c),(.slice p1_3.a p1_3.n p1_3.c)]),(.agg #[(.int .i64 p2_0),(.int .i64 p2_1),(.slice p2_2.a p2_2.n p2_2.c),(.slice p2_3.a p2_3.n p2_3.c)])] w R:=calls_of_wpc mixed Tryd.func40 (by kernel_rfl) (by kernel_rfl) ((show _=wpc Tryd.prog cayleyref21_Conjugates.ann cayleyref21_Conjugates.body (fnKs Tryd.prog Tryd.f40 R) [] (env0 #[(.int .i64 p0),(.agg #[(.int .i64 p1_0),(.int .i64 p1_1),(.slice p1_2.a p1_2.n p1_2.c),(.slice p1_3.a p1_3.n p1_3.c)]),(.agg #[(.int .i64 p2_0),(.int .i64 p2_1),(.slice p2_2.a p2_2.n p2_2.c),(.slice p2_3.a p2_3.n p2_3.c)])]) w by kernel_rfl).mp h)
noncomputable def cayleyref21_Conjugate.ann:Ann where
 loops:=fun | 5=>[(4,.sc .adr),(6,.sc .adr),(7,.sc .str),(8,.sc .adr),(9,.sc .adr),(10,.sc (.int .i64))] | 15=>[(4,.sc .adr),(6,.sc .adr),(7,.sc .str),(8,.sc .adr),(12,.sc (.int .i64)),(13,.sc (.int .i64))] | _=>[]
 joins:=fun | 20=>some [(4,.sc .adr),(6,.sc .adr),(7,.sc .str),(8,.sc .adr),(12,.sc (.int .i64)),(13,.sc (.int .i64)),(14,.sc (.int .i64))] | _=>none
noncomputable def cayleyref21_Conjugate.body:Code:=match Tryd.f41.body with | some c=>c | none=>.skip
def cayleyref21_Conjugate.sh (p0:Int)(p1_0:Int)(p1_1:Int)(p1_2:Sl)(p1_3:Sl)(p2:ByteArray)(R:Ending→World→Prop)(w:World):Prop:=
 New w (.cells #[(.int .i64 p1_0),(.int .i64 p1_1),(.slice p1_2.a p1_2.n p1_2.c),(.slice p1_3.a p1_3.n p1_3.c)] 27) fun b1 w2=>
 New w2 (.cells #[(.int .i64 0),(.int .i64 0),(.slice none 0 0),(.slice none 0 0)] 27) fun b3 w4=>
 CallT Tryd.prog 25 #[(.string p2)] (.sc .str) w4 (fun r5 w6=>
 LoadT (.sc .sl) w6 ((Addr.mk b1 0 none).add 2) fun x8=>
 New w6 (.cells #[(.int .i64 0),(.int .i64 0),(.slice none 0 0)] 54) fun b9 w10=>
 StoreN w10 (Addr.mk b9 0 none) [(.int .i64 p0),(.int .i64 (IntKind.wrap .i64 ((IntKind.wrap .i64 (1+((x8.n:Nat):Int)))+((r5.size:Nat):Int)))),(.slice none 0 0)] fun w11=>
 LoadT (.agg [.int .i64,.int .i64,.sl,.sl]) w11 (Addr.mk b1 0 none) fun x12=>
 CallT Tryd.prog 27 #[(.int .i64 p0),(.agg #[(.int .i64 x12.1),(.int .i64 x12.2.1),(.slice x12.2.2.1.a x12.2.2.1.n x12.2.2.1.c),(.slice x12.2.2.2.1.a x12.2.2.2.1.n x12.2.2.2.1.c)])] (.agg [.int .i64,.int .i64,.sl]) w11 (fun r13 w14=>
 New w14 (.cells #[(.int .i64 0),(.int .i64 0),(.slice none 0 0)] 54) fun b16 w17=>
 StoreN w17 (Addr.mk b16 0 none) [(.int .i64 r13.1),(.int .i64 r13.2.1),(.slice r13.2.2.1.a r13.2.2.1.n r13.2.2.1.c)] fun w18=>
 LoopT (σ:=Addr × Addr × ByteArray × Addr × Addr × Int × Unit) ((Addr.mk b1 0 none),(Addr.mk b3 0 none),r5,(Addr.mk b9 0 none),(Addr.mk b16 0 none),0,()) w18 fun l19 g20 w21 I22=>
 LoadT (.sc .sl) w21 (l19.2.2.2.2.1.add 2) fun x23=>
 Br (decide ((l19.2.2.2.2.2.1:Int)<((x23.n:Nat):Int)))
 (LoadT (.sc .sl) w21 (l19.2.2.2.2.1.add 2) fun x24=>
 Idx x24.a x24.n 3 l19.2.2.2.2.2.1 fun a25=>
 LoadT (.agg [.int .i64,.int .i64,.int .i64]) w21 a25 fun x26=>
 New w21 (.cells #[(.int .i64 0),(.int .i64 0),(.int .i64 0)] 100) fun b27 w28=>
 StoreN w28 (Addr.mk b27 0 none) [(.int .i64 x26.1),(.int .i64 x26.2.1),(.int .i64 x26.2.2.1)] fun w29=>
 LoadT (.sc (.int .i64)) w29 ((Addr.mk b27 0 none).add 0) fun x30=>
 Store1 w29 ((Addr.mk b27 0 none).add 0) (.int .i64 (IntKind.wrap .i64 (x30+1))) fun w31=>
 LoadT (.sc (.int .i64)) w31 ((Addr.mk b27 0 none).add 2) fun x32=>
 Store1 w31 ((Addr.mk b27 0 none).add 2) (.int .i64 (IntKind.wrap .i64 (x32+1))) fun w33=>
 LoadT (.sc .sl) w33 (l19.2.2.2.1.add 2) fun x34=>
 LoadT (.agg [.int .i64,.int .i64,.int .i64]) w33 (Addr.mk b27 0 none) fun x35=>
 New w33 (.cells #[(.int .i64 x35.1),(.int .i64 x35.2.1),(.int .i64 x35.2.2.1)] 100) fun b36 w37=>
 RunT Tryd.prog (.sc .sl) (Builtin.append_ #[52,52] 52 #[(.slice x34.a x34.n x34.c),(.slice (some (Addr.mk b36 0 none)) 1 1)]) w37 fun r38 w39=>
 Store1 w39 (l19.2.2.2.1.add 2) (.slice r38.a r38.n r38.c) fun w40=>
 I22 (l19.1,l19.2.1,l19.2.2.1,l19.2.2.2.1,l19.2.2.2.2.1,(IntKind.wrap .i64 (l19.2.2.2.2.2.1+1)),()) w40)
 (Br ((((l19.2.2.1.size:Nat):Int):Int) == 0)
 (LoadT (.agg [.int .i64,.int .i64,.sl,.sl]) w21 l19.1 fun x41=>
 StoreN w21 l19.2.1 [(.int .i64 x41.1),(.int .i64 x41.2.1),(.slice x41.2.2.1.a x41.2.2.1.n x41.2.2.1.c),(.slice x41.2.2.2.1.a x41.2.2.2.1.n x41.2.2.2.1.c)] fun w42=>
 LoadT (.agg [.int .i64,.int .i64,.sl,.sl]) w42 l19.2.1 fun x43=>
 R (.returned (.agg #[(.int .i64 x43.1),(.int .i64 x43.2.1),(.slice x43.2.2.1.a x43.2.2.1.n x43.2.2.1.c),(.slice x43.2.2.2.1.a x43.2.2.2.1.n x43.2.2.2.1.c)])) w42)
 (LoopT (σ:=Addr × Addr × ByteArray × Addr × Int × Int × Unit) (l19.1,l19.2.1,l19.2.2.1,l19.2.2.2.1,0,0,()) w21 fun l44 g45 w46 I47=>
 Br (decide ((l44.2.2.2.2.2.1:Int)<((l44.2.2.1.size:Nat):Int)))
 (Join (σ:=Addr × Addr × ByteArray × Addr × Int × Int × Int × Unit) (fun j50 g49 w52=>
 StrIdx j50.2.2.1 j50.2.2.2.2.2.1 fun c53=>
 CallT Tryd.prog 61 #[(.int .u8 c53)] (.sc (.int .i64)) w52 (fun r54 w55=>
 (2:Int)≠0 ∧
 Br (((Int.tmod r54 2):Int) == 0)
 (LoadT (.sc .sl) w55 (j50.2.2.2.1.add 2) fun x57=>
 New w55 (.cells #[(.int .i64 j50.2.2.2.2.1),(.int .i64 r54),(.int .i64 j50.2.2.2.2.2.2.1)] 100) fun b58 w59=>
 RunT Tryd.prog (.sc .sl) (Builtin.append_ #[52,52] 52 #[(.slice x57.a x57.n x57.c),(.slice (some (Addr.mk b58 0 none)) 1 1)]) w59 fun r60 w61=>
 Store1 w61 (j50.2.2.2.1.add 2) (.slice r60.a r60.n r60.c) fun w62=>
 I47 (j50.1,j50.2.1,j50.2.2.1,j50.2.2.2.1,j50.2.2.2.2.2.2.1,(IntKind.wrap .i64 (j50.2.2.2.2.2.1+1)),()) w62)
 (LoadT (.sc .sl) w55 (j50.2.2.2.1.add 2) fun x63=>
 New w55 (.cells #[(.int .i64 j50.2.2.2.2.2.2.1),(.int .i64 (IntKind.wrap .i64 (r54-1))),(.int .i64 j50.2.2.2.2.1)] 100) fun b64 w65=>
 RunT Tryd.prog (.sc .sl) (Builtin.append_ #[52,52] 52 #[(.slice x63.a x63.n x63.c),(.slice (some (Addr.mk b64 0 none)) 1 1)]) w65 fun r66 w67=>
 Store1 w67 (j50.2.2.2.1.add 2) (.slice r66.a r66.n r66.c) fun w68=>
 I47 (j50.1,j50.2.1,j50.2.2.1,j50.2.2.2.1,j50.2.2.2.2.2.2.1,(IntKind.wrap .i64 (j50.2.2.2.2.2.1+1)),()) w68)) (fun h56 w55=>R (.panicked h56) w55)) fun J48=>
 Br (decide ((l44.2.2.2.2.2.1:Int)<(IntKind.wrap .i64 (((l44.2.2.1.size:Nat):Int)-1))))
 (LoadT (.sc .sl) w46 (l44.1.add 2) fun x51=>
 J48 (l44.1,l44.2.1,l44.2.2.1,l44.2.2.2.1,l44.2.2.2.2.1,l44.2.2.2.2.2.1,(IntKind.wrap .i64 ((IntKind.wrap .i64 (1+((x51.n:Nat):Int)))+l44.2.2.2.2.2.1)),()) w46)
 (J48 (l44.1,l44.2.1,l44.2.2.1,l44.2.2.2.1,l44.2.2.2.2.1,l44.2.2.2.2.2.1,1,()) w46))
 (LoadT (.agg [.int .i64,.int .i64,.sl]) w46 l44.2.2.2.1 fun x69=>
 CallT Tryd.prog 51 #[(.agg #[(.int .i64 x69.1),(.int .i64 x69.2.1),(.slice x69.2.2.1.a x69.2.2.1.n x69.2.2.1.c)])] (.agg [.int .i64,.int .i64,.sl,.sl]) w46 (fun r70 w71=>
 StoreN w71 l44.2.1 [(.int .i64 r70.1),(.int .i64 r70.2.1),(.slice r70.2.2.1.a r70.2.2.1.n r70.2.2.1.c),(.slice r70.2.2.2.1.a r70.2.2.2.1.n r70.2.2.2.1.c)] fun w73=>
 LoadT (.agg [.int .i64,.int .i64,.sl,.sl]) w73 l44.2.1 fun x74=>
 R (.returned (.agg #[(.int .i64 x74.1),(.int .i64 x74.2.1),(.slice x74.2.2.1.a x74.2.2.1.n x74.2.2.1.c),(.slice x74.2.2.2.1.a x74.2.2.2.1.n x74.2.2.2.1.c)])) w73) (fun h72 w71=>R (.panicked h72) w71))))) (fun h15 w14=>R (.panicked h15) w14)) (fun h7 w6=>R (.panicked h7) w6)
theorem cayleyref21_Conjugate.calls (p0:Int)(p1_0:Int)(p1_1:Int)(p1_2:Sl)(p1_3:Sl)(p2:ByteArray){R:Ending→World→Prop}{w:World}(h:cayleyref21_Conjugate.sh p0 p1_0 p1_1 p1_2 p1_3 p2 R w):Calls Tryd.prog 41 #[(.int .i64 p0),(.agg #[(.int .i64 p1_0),(.int .i64 p1_1),(.slice p1_2.a p1_2.n p1_2.c),(.slice p1_3.a p1_3.n p1_3.c)]),(.string p2)] w R:=calls_of_wpc mixed Tryd.func41 (by kernel_rfl) (by kernel_rfl) ((show _=wpc Tryd.prog cayleyref21_Conjugate.ann cayleyref21_Conjugate.body (fnKs Tryd.prog Tryd.f41 R) [] (env0 #[(.int .i64 p0),(.agg #[(.int .i64 p1_0),(.int .i64 p1_1),(.slice p1_2.a p1_2.n p1_2.c),(.slice p1_3.a p1_3.n p1_3.c)]),(.string p2)]) w by kernel_rfl).mp h)
end Go.Proofs.YtffdjfkekdoeaaaDoor
end
section
namespace Go.Proofs.YtffdjfkekdoeaaaDoor.Fo
open Fw Wd Rf Pl
theorem rdS {w:World}{x:Sl}{l:List ByteArray}(h:RdT w tS x l){i:Int}{s:ByteArray}(h0:0≤i)(hs:l[i.toNat]? = some s){K:Addr→Prop}(k:∀ a,(∀ W,Chg Nil w W→W.cell? a=some (.string s))→K a):Idx x.a x.n 1 i K:=
 h.idx (t:=tS) i.toNat (by omega) hs fun a ha=>k a fun W hW=>hW.cell (by have:=ha 0 _ rfl;rwa [add0]at this) fun h=>h
theorem word_all {k:Int}{s:ByteArray}(hs:checkF k s=0):∀ x∈wordF s,x<2*k.toNat:=fun x hx=>by
 obtain⟨i,hi,rfl⟩:=List.getElem_of_mem hx;exact word_lt hs i hi
end Go.Proofs.YtffdjfkekdoeaaaDoor.Fo
end
