/- Parts of a proof, laid one behind the other by our own merge.py: RfEdge RfSlice RfClash RfFolded RfPruned RfNum2 PlRoot PlFold PlMade PlPrune RfIs PlAll PlTotal RfFold PlStall1 PlCheck PlTree PlBasis PlStall2 PlStall3 LwFinds PlWord PlLang PlUniq PlSame PlNum. -/
import Derived.Test.YtffdjfkekdoeaaaDoorZc3
import Derived.Laws.StructEq
import Derived.Test.YtffdjfkekdoeaaaDoorZc1
import Derived.Test.YtffdjfkekdoeaaaDoorZc2
set_option linter.unusedVariables false
set_option linter.unusedSimpArgs false
set_option maxRecDepth 10000
set_option maxHeartbeats 8000000
section
namespace Go.Proofs.YtffdjfkekdoeaaaDoor.Rf
open Fw Wd Fo
theorem under100:Tryd.prog.underlying 100=some (.struct (Tryd.prog.fieldsOf 100)):=by kernel_rfl
theorem held100:Tryd.prog.stoodInHeld 100=false:=by kernel_rfl
theorem guard100:Tryd.prog.eqGuardType Tryd.prog.depth 100=false:=by kernel_rfl
theorem under3i:Tryd.prog.underlying 3=some (.int .i64):=by kernel_rfl
theorem size3:(Tryd.prog.info? 3).map (·.size)=some 1:=by kernel_rfl
theorem fields100 : (Tryd.prog.fieldsOf 100).toList.map (fun f => (f.type, f.offset, f.name == "_")) = [(3, 0, false), (3, 1, false), (3, 2, false)] := by kernel_rfl
theorem part3 (w:World)(xs:Array Value)(o:Nat)(v:Value)(h:xs[o]? = some v):(part 3 xs o).run Tryd.prog w = .ok v w:=by
 obtain⟨i,hi,hs⟩:∃ i,Tryd.prog.info? 3=some i∧i.size=1:=by
  have:=size3;cases hh:Tryd.prog.info? 3 with
  | none=>rw[hh]at this;cases this
  | some i=>rw[hh]at this;exact⟨i,rfl,by simpa using this⟩
 simp[part,sizeOf,typeInfo,hi,hs,h,under3i,run_underlying under3i,Sem.run_bind,Result.andThen]
theorem eq_edge (w:World)(x y:Operand)(a b:Int × Int × Int × Unit) :
  (do eqGuard .eql 100 x y (.agg #[(.int .i64 a.1),(.int .i64 a.2.1),(.int .i64 a.2.2.1)]) (.agg #[(.int .i64 b.1),(.int .i64 b.2.1),(.int .i64 b.2.2.1)]);binOp .eql 100 (.agg #[(.int .i64 a.1),(.int .i64 a.2.1),(.int .i64 a.2.2.1)]) (.agg #[(.int .i64 b.1),(.int .i64 b.2.1),(.int .i64 b.2.2.1)]):Sem Value).run Tryd.prog w = .ok (.bool (a.1 == b.1 && (a.2.1 == b.2.1 && a.2.2.1 == b.2.2.1))) w:=by
 rw[Sem.run_bind,run_eqGuard_agg w _ _ _ _ _ _ guard100,Result.andThen_ok,run_eql_struct,run_equalIn_agg w 9999 100 _ _ under100 held100];obtain⟨f0,f1,f2,hf⟩:∃ f0 f1 f2,(Tryd.prog.fieldsOf 100).toList=[f0,f1,f2]:=by
  have:=fields100
  match hh:(Tryd.prog.fieldsOf 100).toList with
  | []=>rw[hh]at this;cases this
  | [_]=>rw[hh]at this;simp at this
  | [_,_]=>rw[hh]at this;simp at this
  | [a,b,c]=>exact⟨a,b,c,rfl⟩
  | _ :: _ :: _ :: _ :: _=>rw[hh]at this;simp at this
 have h:=fields100;rw[hf]at h;simp only[List.map_cons,List.map_nil,List.cons.injEq,Prod.mk.injEq,beq_eq_false_iff_ne,and_true]at h;obtain⟨⟨t0,o0,n0⟩,⟨t1,o1,n1⟩,t2,o2,n2⟩:=h;rw[hf];simp only[Op.eqFields,n0,n1,n2,t0,t1,t2,o0,o1,o2,ne_eq,not_false_eq_true,if_true,Sem.run_bind,Sem.run_ite,Sem.run_pure];have p0:∀ (u0 u1 u2:Value),(part 3 #[u0,u1,u2] 0).run Tryd.prog w = .ok u0 w:=fun u0 u1 u2=>part3 w _ 0 u0 rfl
 have p1:∀ (u0 u1 u2:Value),(part 3 #[u0,u1,u2] 1).run Tryd.prog w = .ok u1 w:=fun u0 u1 u2=>part3 w _ 1 u1 rfl
 have p2:∀ (u0 u1 u2:Value),(part 3 #[u0,u1,u2] 2).run Tryd.prog w = .ok u2 w:=fun u0 u1 u2=>part3 w _ 2 u2 rfl
 have q:∀ (u v:Int),(Op.equalIn 9999 3 (.int .i64 u) (.int .i64 v)).run Tryd.prog w = .ok (u == v) w:=fun u v=>run_equalIn_int w 9998 3 .i64 .i64 u v under3i
 simp only[p0,p1,p2,q,Result.andThen_ok];cases h0:(a.1 == b.1)
 ·simp
 ·simp only[p0,p1,p2,q,Result.andThen_ok,Bool.not_true,Bool.false_eq_true,if_false];cases h1:(a.2.1 == b.2.1)
  ·simp
  ·simp only[p0,p1,p2,q,Result.andThen_ok,Bool.not_true,Bool.false_eq_true,if_false];cases h2:(a.2.2.1 == b.2.2.1) <;> simp
theorem ofE_eq (a b:Ed):((ofE a).1 == (ofE b).1 && ((ofE a).2.1 == (ofE b).2.1 && (ofE a).2.2.1 == (ofE b).2.2.1))=decide (a=b):=by
 obtain⟨a1,a2,a3⟩:=a;obtain⟨b1,b2,b3⟩:=b;rw[Bool.eq_iff_iff];simp only[ofE,Bool.and_eq_true,beq_iff_eq,decide_eq_true_iff,Prod.mk.injEq];omega
def insertE (es:List Ed)(e:Ed):List Ed:=if e∈es then es else es ++ [e]
theorem insert_ret {w:World}{s:Sl}{es:List Ed}(h:OwnT w 100 tE s (es.map ofE))(hb:es.length≤1000000000)(e:Ed) :
  Ret Tryd.prog 69 #[s.v,.agg #[.int .i64 (ofE e).1,.int .i64 (ofE e).2.1,.int .i64 (ofE e).2.2.1]] (.sc .sl) w fun y w'=>OwnT w' 100 tE y ((insertE es e).map ofE)∧Chg s.own w w'∧∀ k,y.own k→s.own k∨w.heap.size≤k:=by
 refine cayleyref21_insert.calls s (ofE e).1 (ofE e).2.1 (ofE e).2.2.1 ?_;unfold cayleyref21_insert.sh;refine New.mk fun b1 w1 hb1 hn1 hs1 hc1=>?_
 have hn:s.n=es.length:=by rw[h.len,List.length_map]
 refine LoopT.mk (fun y W=>∃ i:Nat,i≤es.length∧y=(s,at0 b1,(i:Int),())∧Chg Nil w1 W∧e ∉ es.take i) (fun y _=>es.length-y.2.2.1.toNat) ⟨0,Nat.zero_le _,rfl,Chg.refl _,by simp⟩ ?_
 rintro y g W ⟨i,hi,rfl,hc,hni⟩
 dsimp only;have hcW:=hc1.then hc
 have hz:=hc.size;have hz1:=hc1.size;have ld:∀ {V:World} {K:(Ty.agg [.int .i64,.int .i64,.int .i64]).den→Prop},Chg Nil W V→K (ofE e)→LoadT (.agg [.int .i64,.int .i64,.int .i64]) V (at0 b1) K:=fun hV k=>by
  refine LoadT.mk (.agg [.int .i64,.int .i64,.int .i64]) (x:=ofE e) (fun j v hv=>?_) k
  rw[cellOf ((hc.then hV).heap hn1 fun h=>h)]
  simpa[Ty.cells] using hv
 refine Br.dec (fun hlt=>?_) (fun hge=>?_)
 ·have hlt':i<es.length:=by omega
  have hei:(es.map ofE)[i]? = some (ofE es[i]):=by rw[List.getElem?_map,List.getElem?_eq_getElem hlt'];rfl
  have hd:Chg Nil W W.drew:=Chg.drew W;refine(h.rd.chg (hcW.then hd) fun _ _ h=>h).get (t:=tE) i rfl hei ?_
  refine ld hd ?_;refine⟨_,eq_edge W.drew _ _ (ofE es[i]) (ofE e),?_⟩;rw[ofE_eq];have htk:es.take (i+1)=es.take i ++ [es[i]]:=by rw[List.take_add_one,List.getElem?_eq_getElem hlt'];rfl
  refine Br.dec (fun he=>?_) (fun he=>?_)
  ·refine⟨s,rfl,?_,(hcW.then hd).nil,fun k hk=>.inl hk⟩
   have hm:e∈es:=he ▸ List.getElem_mem hlt';rw[insertE,if_pos hm];exact h.chg (hcW.then hd) fun _ _ h=>h
  ·refine⟨⟨i+1,hlt',by rw[wrap64 (by omega) (by omega)];rfl,hc.then hd,?_⟩,?_⟩
   ·rw[htk];intro hm;rcases List.mem_append.1 hm with hm|hm
    ·exact hni hm
    ·simp only[List.mem_singleton]at hm;exact he hm.symm
   ·rw[wrap64 (by omega) (by omega)]
    show es.length-(i+1)<es.length-i
    omega
 ·have hin:i=es.length:=by omega
  subst hin;rw[List.take_length]at hni;refine ld (Chg.refl _) ?_;refine New.mk fun b2 W1 hb2 hn2 hs2 hc2=>?_
  refine OwnT.append (t:=tE) (m:=1) ok52 rfl (by decide) (h.chg (hcW.then hc2) fun _ _ h=>h) [ofE e] rfl (by decide) (fun j v hv=>by rw[cellOf hn2];simpa[Ty.cells] using hv) ?_ ?_ fun so' W2 ho2 hcA hownA=>?_
  ·rw[List.length_map];omega
  ·rw[List.length_map];have:maxLen=9223372036854775807:=rfl;omega
  ·refine⟨so',rfl,?_,(hcW.then hc2).nil.then hcA,fun k hk=>?_⟩
   ·rw[insertE,if_neg hni,List.map_append];exact ho2
   ·rcases hownA k hk with h1|h1
    ·exact .inl h1
    ·have:=hc2.size;exact .inr (by omega)
def degE (es:List Ed)(v:Nat):Nat:=match es with
 | []=>0
 | (f,_,t) :: l=>(if f=v then 1 else 0)+(if t=v then 1 else 0)+degE l v
theorem degE_le (v:Nat):∀ es:List Ed,degE es v≤2*es.length
 | []=>by simp[degE]
 | (f,x,t) :: l=>by have:=degE_le v l;simp only[degE,List.length_cons];split <;> split <;> omega
theorem degE_app (v:Nat):∀ es es':List Ed,degE (es ++ es') v=degE es v+degE es' v
 | [],es'=>by simp[degE]
 | (f,x,t) :: l,es'=>by have:=degE_app v l es';simp only[degE,List.cons_append];omega
theorem degree_ret {w:World}{g1 g2:Int}{s:Sl}{es:List Ed}(h:RdT w tE s (es.map ofE))(hb:es.length≤1000000000)(v:Nat) :
  Ret Tryd.prog 92 #[.agg #[.int .i64 g1,.int .i64 g2,s.v],.int .i64 (v:Int)] tI w fun y w'=>y=(degE es v:Int)∧Chg Nil w w':=by
 refine cayleyref21_degree.calls g1 g2 s (v:Int) ?_;unfold cayleyref21_degree.sh;refine New.mk fun b1 w1 hb1 hn1 hs1 hc1=>?_
 have hn:s.n=es.length:=by rw[h.len,List.length_map]
 refine LoopT.mk (fun y W=>∃ i:Nat,i≤es.length∧y=((v:Int),at0 b1,((degE (es.take i) v:Nat):Int),(i:Int),())∧W=w1) (fun y _=>es.length-y.2.2.2.1.toNat) ⟨0,Nat.zero_le _,rfl,rfl⟩ ?_
 rintro y g W ⟨i,hi,rfl,hW⟩
 rw[hW];clear hW;dsimp only;have ld:∀ {K:Sl→Prop},K s→LoadT (.sc .sl) w1 ((at0 b1).add 2) K:=fun k=>LoadT.sc (s:=.sl) (x:=s) (by rw[cellOf hn1];rfl) k
 refine ld ?_;refine Br.dec (fun hlt=>?_) (fun hge=>?_)
 ·have hlt':i<es.length:=by omega
  have hei:(es.map ofE)[i]? = some (ofE es[i]):=by rw[List.getElem?_map,List.getElem?_eq_getElem hlt'];rfl
  have htk:es.take (i+1)=es.take i ++ [es[i]]:=by rw[List.take_add_one,List.getElem?_eq_getElem hlt'];rfl
  have hd1:degE (es.take (i+1)) v=degE (es.take i) v+degE [es[i]] v:=by rw[htk,degE_app]
  have hle:=degE_le v (es.take (i+1));have hll:(es.take (i+1)).length≤es.length:=by simp;omega
  generalize es[i]=e at hei hd1;obtain⟨f,x,t⟩:=e;simp only[degE]at hd1;have hr:RdT w1 tE s (es.map ofE):=h.chg hc1 fun _ _ h=>h
  have hmu:es.length-((i+1:Nat):Int).toNat<es.length-((i:Nat):Int).toNat:=by omega
  refine Join.by' (fun y V=>V=w1∧y=((v:Int),at0 b1,(((degE (es.take i) v+if f=v then 1 else 0:Nat)):Int),(i:Int),())) ?_ ?_
  ·rintro y V g2 ⟨hV,rfl⟩
   rw[hV];clear hV;dsimp only;refine ld ?_;refine hr.idx (t:=tE) i rfl hei fun a ha=>?_
   refine LoadT.sc (s:=.int .i64) (x:=(t:Int)) (ha 2 _ rfl) ?_;have hw1:IntKind.wrap .i64 ((i:Int)+1)=((i+1:Nat):Int):=wrap64 (by omega) (by omega)
   rw[hw1];refine Br.mk (fun he=>?_) (fun he=>?_)
   ·have he:t=v:=by have:(t:Int)=(v:Int):=by simpa using he
                    omega
    refine⟨⟨i+1,hlt',?_,rfl⟩,hmu⟩;rw[hd1,if_pos he,wrap64 (by split <;> omega) (by split <;> omega)]
    congr 3
   ·have he:¬ t=v:=fun h=>by subst h;simp at he
    refine⟨⟨i+1,hlt',?_,rfl⟩,hmu⟩;rw[hd1,if_neg he];simp
  ·intro J hJ;refine ld ?_;refine hr.idx (t:=tE) i rfl hei fun a ha=>?_
   refine LoadT.sc (s:=.int .i64) (x:=(f:Int)) (ha 0 _ rfl) ?_;refine Br.mk (fun he=>?_) (fun he=>?_)
   ·have he:f=v:=by have:(f:Int)=(v:Int):=by simpa using he
                    omega
    refine hJ _ _ ⟨rfl,?_⟩;rw[if_pos he,wrap64 (by omega) (by omega)];rfl
   ·have he:¬ f=v:=fun h=>by subst h;simp at he
    exact hJ _ _ ⟨rfl,by rw[if_neg he];rfl⟩
 ·have hin:i=es.length:=by omega
  rw[hin,List.take_length];exact⟨_,rfl,rfl,hc1⟩
theorem flat_at (t:Ty):∀ (xs:List t.den)(j:Nat)(v:Value),(xs.flatMap t.cells)[j]? = some v→∃ i x k,xs[i]? = some x∧(t.cells x)[k]? = some v∧j=i*t.sz+k
 | [],j,v,h=>by simp at h
 | x :: xs,j,v,h=>by
  rw[List.flatMap_cons]at h
  by_cases hj:j<(t.cells x).length
  ·rw[List.getElem?_append_left hj]at h;exact⟨0,x,j,rfl,h,by omega⟩
  ·rw[List.getElem?_append_right (by omega)]at h
   obtain⟨i,y,k,h1,h2,h3⟩:=flat_at t xs _ v h;refine⟨i+1,y,k,h1,h2,?_⟩;rw[Ty.cells_length]at h3 hj;rw[Nat.add_mul];omega
theorem RdT.flat {w:World}{t:Ty}{s:Sl}{xs:List t.den}(h:RdT w t s xs){b:Addr}(hb:s.a=some b):∀ j v,(xs.flatMap t.cells)[j]? = some v→w.cell? (b.add j)=some v:=fun j v hj=>by
 obtain⟨i,x,k,h1,h2,rfl⟩:=flat_at t xs j v hj;obtain⟨a,ha,hc⟩:=h.at' i x h1;rw[hb]at ha;cases ha;have:=hc k v h2;rw[Fw.add_add]at this;exact this
theorem OwnT.appendR {P:Program}{w:World}{st ty e:TypeId}{t:Ty}{bytes:Nat}(ok:slOk P st e t.sz bytes=true)(ht:t.one=true)(hsz:0<t.sz){s:Sl}{xs:List t.den}(h:OwnT w e t s xs)(hs:s.a≠none)
  {s2:Sl} {ys:List t.den} (h2:RdT w t s2 ys) (hs2:s2.a≠none)
  (hb:(xs.length+ys.length)*bytes≤140737488355328) (h63:xs.length+ys.length≤maxLen) {K:Sl→World→Prop}
  (k:∀ s' w',OwnT w' e t s' (xs ++ ys)→s'.a≠none→Chg s.own w w'→(∀ i,s'.own i→s.own i∨w.heap.size≤i)→K s' w') :
  RunT P (.sc .sl) (Builtin.append_ #[st,st] ty #[s.v,s2.v]) w K:=by
 obtain⟨b,hb2⟩:∃ b,s2.a=some b:=by cases hh:s2.a with|none=>exact absurd hh hs2|some b=>exact⟨b,rfl⟩
 have hv2:s2.v = .slice (some b) s2.n s2.c:=by simp only[Sl.v];rw[hb2]
 rw[hv2];have hn2:=h2.len;cases ys with
 | cons y l=>
  refine Fw.OwnT.append (t:=t) (m:=s2.n) ok ht hsz h (y :: l) hn2 (by rw[hn2];simp) (RdT.flat h2 hb2) (by rw[hn2];exact hb) (by rw[hn2];exact h63) fun s' w' a1 a2 a3=>k s' w' a1 ?_ a2 a3
  rcases a1.block with ⟨_,hx⟩|⟨g,cur,hg,_⟩
  ·simp at hx
  ·rw[hg];simp
 | nil=>
  obtain⟨i,z,h1,h2',h3,h4,h5,h6⟩:=slOk_spec ok;rw[show s2.n=0 from hn2]
  rcases h.block with ⟨ha,hx⟩|⟨g,cur,ha,hcur,hnc,hcm,hcs,htake⟩
  ·exact absurd ha hs
  ·have hv:s.v = .slice (some ⟨g,0,none⟩) s.n s.c:=by simp only[Sl.v];rw[ha]
   obtain⟨w',hr,ho,hg⟩:=run_append_fits (P:=P) w 0 st ty e i t.sz h1 h2' h3 g s.n s.c (xs.flatMap t.cells) (hv ▸ h.row) b 0 s2.c [] (by simp) (by simp) (by simp) (by omega)
   rw[← hv,Nat.add_zero]at hr;refine⟨s,w',by rw[hr];exact congrArg (fun v=>Result.ok v w') hv.symm,k s w' ⟨?_,?_⟩ hs (Chg.grown hg fun q hq=>?_) fun i hi=>.inl hi⟩
   ·rw[List.append_nil]at ho ⊢;rw[Nat.add_zero]at ho;rw[hv];exact ho
   ·rw[List.append_nil];exact h.len
   ·cases hq
    exact⟨_,ha,rfl⟩
theorem RdT.upto {P:Program}{w:World}{st e:TypeId}{t:Ty}{bytes:Nat}(ok:slOk P st e t.sz bytes=true){s:Sl}{xs:List t.den}(h:RdT w t s xs)(hc:s.n≤s.c){n:Int} (n':Nat)(hn:n=(n':Int))(hle:n'≤xs.length){K:Sl→World→Prop}
  (k:RdT w t ⟨s.a,n',s.c⟩ (xs.take n')→K ⟨s.a,n',s.c⟩ w):RunT P (.sc .sl) (Instr.sliceAt st s.v none (some (.int .i64 n)) none) w K:=by
 obtain⟨i,z,h1,h2,h3,h4,h5,h6⟩:=slOk_spec ok;have hel:P.underlying st=some (.slice (P.elem st)):=by unfold Program.elem;rw[h1]
 have hele:P.elem st=e:=by unfold Program.elem;rw[h1]
 have hcap:n'≤s.c:=by have:=h.len;omega
 have hrun:(Instr.sliceAt st s.v none (some (.int .i64 n)) none).run P w = .ok (sliced s.a 0 n' s.c i.size) w:=by
  rw[run_sliceAt_slice w st _ _ _ _ hel];rw[show s.v = .slice s.a s.n s.c from rfl,run_slice_h w st s.a s.n s.c hel .i64 n (by omega) (by omega),hele]
  simp[sizeOf,typeInfo,h2,hn]
 have hsl:sliced s.a 0 n' s.c i.size = .slice s.a n' s.c:=by
  unfold sliced;rw[Nat.zero_mul];cases ha:s.a with
  | none=>simp
  | some a=>simp[add0]
 rw[hsl]at hrun;refine⟨⟨s.a,n',s.c⟩,w,hrun,k ⟨?_,fun i x hx=>?_⟩⟩
 ·rw[List.length_take];show n'=_;omega
 ·rw[List.getElem?_take]at hx;split at hx
  ·exact h.at' i x hx
  ·cases hx
theorem RdT.from {P:Program}{w:World}{st e:TypeId}{t:Ty}{bytes:Nat}(ok:slOk P st e t.sz bytes=true){s:Sl}{xs:List t.den}(h:RdT w t s xs)(hcap:s.n≤s.c){n:Int} (n':Nat)(hn:n=(n':Int))(hle:n'≤xs.length){K:Sl→World→Prop}
  (k:∀ s',RdT w t s' (xs.drop n')→(s.a≠none→s'.a≠none)→K s' w):RunT P (.sc .sl) (Instr.sliceAt st s.v (some (.int .i64 n)) none none) w K:=by
 obtain⟨i,z,h1,h2,h3,h4,h5,h6⟩:=slOk_spec ok;have hel:P.underlying st=some (.slice (P.elem st)):=by unfold Program.elem;rw[h1]
 have hele:P.elem st=e:=by unfold Program.elem;rw[h1]
 have hrun:(Instr.sliceAt st s.v (some (.int .i64 n)) none none).run P w = .ok (sliced s.a n' s.n s.c i.size) w:=by
  rw[run_sliceAt_slice w st _ _ _ _ hel];rw[show s.v = .slice s.a s.n s.c from rfl,run_slice_l w st s.a s.n s.c hel .i64 n (by omega) (by have:=h.len;omega),hele]
  simp[sizeOf,typeInfo,h2,hn]
 let s':Sl:=⟨if s.c=n' then s.a else s.a.map (·.add (n'*i.size)),s.n-n',s.c-n'⟩
 refine⟨s',w,hrun,k s' ⟨?_,fun j x hx=>?_⟩ fun hne=>?_⟩
 ·rw[List.length_drop,← h.len]
 ·rw[List.getElem?_drop]at hx;obtain⟨a,ha,hc⟩:=h.at' (n'+j) x hx
  by_cases hcn:s.c=n'
  ·have:=(List.getElem?_eq_some_iff.1 hx).1;have:=h.len;omega
  ·refine⟨a.add (n'*i.size),by show(if s.c=n' then s.a else s.a.map (·.add (n'*i.size)))=_;rw[if_neg hcn,ha];rfl,fun q v hq=>?_⟩
   have:=hc q v hq;rw[Fw.add_add,Nat.add_mul,Nat.add_assoc]at this;rw[h3,Fw.add_add,Fw.add_add];exact this
 ·show(if s.c=n' then s.a else s.a.map (·.add (n'*i.size)))≠none
  split
  ·exact hne
  ·cases hh:s.a with
   | none=>exact absurd hh hne
   | some a=>simp
theorem OwnT.cap {w:World}{e:TypeId}{t:Ty}{s:Sl}{xs:List t.den}(h:OwnT w e t s xs):s.n≤s.c:=by
 rcases h.block with ⟨_,hx⟩|⟨g,cur,_,_,h1,_⟩
 ·have:=h.len;rw[hx]at this;simp at this;omega
 ·exact h1
def pairC (a b:Ed):Option (Nat × Nat):=
 if a.2.1=b.2.1∧a.1=b.1∧a.2.2≠b.2.2 then some (min a.2.2 b.2.2,max a.2.2 b.2.2)
 else if a.2.1=b.2.1∧a.2.2=b.2.2∧a.1≠b.1 then some (min a.1 b.1,max a.1 b.1) else none
def clashI (a:Ed):List Ed→Option (Nat × Nat)
 | []=>none
 | b :: l=>match pairC a b with
  | some r=>some r
  | none=>clashI a l
def clashG:List Ed→List Ed→Option (Nat × Nat)
 | _,[]=>none
 | seen,a :: l=>match clashI a seen with
  | some r=>some r
  | none=>clashG (seen ++ [a]) l
theorem min_run {w:World}{x y:Nat}{K:Int→World→Prop}(k:K ((min x y:Nat):Int) w):RunT Tryd.prog (.sc (.int .i64)) (Builtin.min_ #[3,3] 3 #[(.int .i64 (x:Int)),(.int .i64 (y:Int))]) w K:=by
 refine⟨((min x y:Nat):Int),w,?_,k⟩;rw[run_min_int2];have:(if (y:Int)<(x:Int) then (y:Int) else (x:Int))=((min x y:Nat):Int):=by split <;> omega
 rw[this]
theorem max_run {w:World}{x y:Nat}{K:Int→World→Prop}(k:K ((max x y:Nat):Int) w):RunT Tryd.prog (.sc (.int .i64)) (Builtin.max_ #[3,3] 3 #[(.int .i64 (x:Int)),(.int .i64 (y:Int))]) w K:=by
 refine⟨((max x y:Nat):Int),w,?_,k⟩;rw[run_max_int2];have:(if (x:Int)<(y:Int) then (y:Int) else (x:Int))=((max x y:Nat):Int):=by split <;> omega
 rw[this]
theorem clash_ret {w:World}{g1 g2:Int}{s:Sl}{es:List Ed}(h:RdT w tE s (es.map ofE))(hb:es.length≤1000000000) :
  RetN Tryd.prog 96 #[.agg #[.int .i64 g1,.int .i64 g2,s.v]] [tE,.sc .bool] w fun y w'=>Chg Nil w w'∧match clashG [] es with
   | none=>y.2.1=false
   | some (a,b)=>y.2.1=true∧y.1=((a:Int),(0:Int),(b:Int),()):=by
 refine cayleyref21_clash.calls g1 g2 s ?_;unfold cayleyref21_clash.sh;have hn:s.n=es.length:=by rw[h.len,List.length_map]
 refine New.mk fun b1 w1 hb1 hn1 hs1 hc1=>?_
 refine New.mk fun b3 w2 hb3 hn3 hs3 hc3=>?_
 have hn1':=hc3.heap hn1 fun h=>h
 have h12:=hc1.then hc3
 have s1:=hc1.size;have s3:=hc3.size
 -- the end
 have done:∀ (V:World) (a b:Nat) (f:Bool),Chg Nil w2 V→((f=false∧a=0∧b=0∧clashG [] es=none)∨f=true∧clashG [] es=some (a,b)) →
   StoreN V (at0 b3) [(.int .i64 (a:Int)),(.int .i64 0),(.int .i64 (b:Int))] fun w65=>
    LoadT (.agg [.int .i64,.int .i64,.int .i64]) w65 (at0 b3) fun x66=>
    ∃ x,Ending.returned (.tuple #[(.agg #[(.int .i64 x66.1),(.int .i64 x66.2.1),(.int .i64 x66.2.2.1)]),(.bool f)]) = .returned (.tuple (tvals [tE,.sc .bool] x).toArray)∧(Chg Nil w w65∧match clashG [] es with
   | none=>x.2.1=false
   | some (a,b)=>x.2.1=true∧x.1=((a:Int),(0:Int),(b:Int),())):=fun V a b f hV hf=>by
  refine StoreN.whole (vs:=[.int .i64 (a:Int),.int .i64 0,.int .i64 (b:Int)]) (hV.heap hn3 fun h=>h) rfl fun w6 hh6 hc6 _=>?_
  refine LoadT.mk (.agg [.int .i64,.int .i64,.int .i64]) (x:=((a:Int),(0:Int),(b:Int),())) (fun j v hv=>by rw[cellOf hh6];simpa[Ty.cells] using hv) ?_
  refine⟨(((a:Int),(0:Int),(b:Int),()),f,()),rfl,(h12.then hV).trans hc6 (fun _ _ h=>h) fun i hi he=>(by have he:i=b3:=he;omega),?_⟩
  rcases hf with ⟨rfl,rfl,rfl,hf⟩|⟨rfl,hf⟩
  ·rw[hf]
  ·rw[hf];exact⟨rfl,rfl⟩
 refine LoopT.mk (fun y W=>∃ i:Nat,i≤es.length∧y=(at0 b1,at0 b3,(i:Int),())∧Chg Nil w2 W∧clashG (es.take i) (es.drop i)=clashG [] es) (fun y _=>es.length-y.2.2.1.toNat) ⟨0,Nat.zero_le _,rfl,Chg.refl _,by simp⟩ ?_
 rintro y g W ⟨i,hi,rfl,hc,hcl⟩
 dsimp only;refine LoadT.sc (s:=.sl) (x:=s) (by rw[cellOf (hc.heap hn1' fun h=>h)];rfl) ?_
 refine Br.dec (fun hlt=>?_) (fun hge=>?_)
 rotate_left
 ·have hin:i=es.length:=by omega
  rw[hin,List.drop_eq_nil_of_le (Nat.le_refl _)]at hcl;exact done W 0 0 false hc (.inl ⟨rfl,rfl,rfl,hcl.symm⟩)
 have hlt':i<es.length:=by omega
 have hei:(es.map ofE)[i]? = some (ofE es[i]):=by rw[List.getElem?_map,List.getElem?_eq_getElem hlt'];rfl
 have htk:es.take (i+1)=es.take i ++ [es[i]]:=by rw[List.take_add_one,List.getElem?_eq_getElem hlt'];rfl
 rw[List.drop_eq_getElem_cons hlt']at hcl;simp only[clashG]at hcl;refine LoopT.mk (fun y W=>∃ j:Nat,j≤i∧y=(at0 b1,at0 b3,(i:Int),(j:Int),())∧Chg Nil w2 W∧clashI es[i] ((es.take i).drop j)=clashI es[i] (es.take i)) (fun y _=>i-y.2.2.2.1.toNat) ⟨0,Nat.zero_le _,rfl,hc,rfl⟩ ?_
 clear hc W
 rintro y g2 W ⟨j,hj,rfl,hc,hcj⟩
 dsimp only;refine Br.dec (fun hlt2=>?_) (fun hge2=>?_)
 rotate_left
 ·have hji:j=i:=by omega
  rw[hji,List.drop_eq_nil_of_le (by simp;omega)]at hcj
  rw[← hcj]at hcl;simp only[clashI]at hcl;refine⟨⟨i+1,hlt',by rw[wrap64 (by omega) (by omega)];rfl,hc,by rw[htk];exact hcl⟩,?_⟩
  rw[wrap64 (by omega) (by omega)]
  show es.length-(i+1)<es.length-i
  omega
 have hlt2':j<i:=by omega
 have hej:(es.map ofE)[j]? = some (ofE es[j]):=by rw[List.getElem?_map,List.getElem?_eq_getElem (by omega)];rfl
 have hdj:(es.take i).drop j=es[j] :: (es.take i).drop (j+1):=by
  rw[List.drop_eq_getElem_cons (by simp;omega)]
  simp
 rw[hdj]at hcj;simp only[clashI]at hcj;generalize hea:es[i]=ea at hei hcj hcl htk;generalize heb:es[j]=eb at hej hcj;obtain⟨f,x,t⟩:=ea;obtain⟨f',x',t'⟩:=eb;have hd:Chg Nil W W.drew:=Chg.drew W;have ldg:∀ {K:Sl→Prop},K s→LoadS (fun V=>Chg Nil W.drew V) (.sc .sl) ((at0 b1).add 2) K:=fun k=>LoadS.sc (s:=.sl) (x:=s) (fun V hV=>by rw[cellOf (((hc.then hd).then hV).heap hn1' fun h=>h)];rfl) k
 have hrd:∀ V,Chg Nil W.drew V→RdT V tE s (es.map ofE):=fun V hV=>h.chg (h12.then ((hc.then hd).then hV)) fun _ _ h=>h
 refine⟨fun V=>Chg Nil W.drew V,Chg.refl _,?_⟩
 refine ldg ?_;refine rd_idxA (t:=tE) h i rfl hei fun ad had=>?_
 refine LoadS.mk tE (x:=ofE (f,x,t)) (fun V hV=>(hrd V hV).cellAt had hei) ?_
 refine ldg ?_;refine rd_idxA (t:=tE) h j rfl hej fun ad2 had2=>?_
 refine LoadS.mk tE (x:=ofE (f',x',t')) (fun V hV=>(hrd V hV).cellAt had2 hej) ?_
 -- both orders
 refine⟨?_,?_⟩
 focus
  refine New.mk fun bA V1 hbA hnA hsA hcA=>⟨hcA,?_⟩
  refine New.mk fun bB V2 hbB hnB hsB hcB=>⟨hcA.then hcB,?_⟩
  have hnA':=hcB.heap hnA fun h=>h
  refine StoreN.whole (vs:=[.int .i64 (f:Int),.int .i64 (x:Int),.int .i64 (t:Int)]) hnA' rfl fun V3 hA hcA2 _=>⟨?_,?_⟩
  ·exact(hcA.then hcB).trans hcA2 (fun _ _ h=>h) fun k hk he=>by have he:k=bA:=he;omega
  have hz:=hcA.size;have hnB':=hcA2.heap hnB fun he=>by have he:bB=bA:=he;omega
  refine StoreN.whole (vs:=[.int .i64 (f':Int),.int .i64 (x':Int),.int .i64 (t':Int)]) hnB' rfl fun V4 hB hcB2 _=>?_
  have hA4:=hcB2.heap hA fun he=>by have he:bA=bB:=he;omega
  have hcV:Chg Nil W V4:=hd.then (((hcA.then hcB).trans hcA2 (fun _ _ h=>h) fun k hk he=>(by have he:k=bA:=he;omega)).trans hcB2 (fun _ _ h=>h) fun k hk he=>(by have he:k=bB:=he;omega))
  clear hnA hnB hnA' hnB' hcA hcB hcA2 hcB2 hA hsA hsB hbA hbB hz
 rotate_left
 focus
  refine New.mk fun bB V1 hbB hnB hsB hcB=>⟨hcB,?_⟩
  refine New.mk fun bA V2 hbA hnA hsA hcA=>⟨hcB.then hcA,?_⟩
  have hnB':=hcA.heap hnB fun h=>h
  refine StoreN.whole (vs:=[.int .i64 (f:Int),.int .i64 (x:Int),.int .i64 (t:Int)]) hnA rfl fun V3 hA hcA2 _=>⟨?_,?_⟩
  ·exact(hcB.then hcA).trans hcA2 (fun _ _ h=>h) fun k hk he=>by have he:k=bA:=he;have:=hcB.size;omega
  have hz:=hcB.size;have hnB':=hcA2.heap hnB' fun he=>by have he:bB=bA:=he;omega
  refine StoreN.whole (vs:=[.int .i64 (f':Int),.int .i64 (x':Int),.int .i64 (t':Int)]) hnB' rfl fun V4 hB hcB2 _=>?_
  have hA4:=hcB2.heap hA fun he=>by have he:bA=bB:=he;omega
  have hcV:Chg Nil W V4:=hd.then (((hcB.then hcA).trans hcA2 (fun _ _ h=>h) fun k hk he=>(by have he:k=bA:=he;omega)).trans hcB2 (fun _ _ h=>h) fun k hk he=>(by have he:k=bB:=he;omega))
  clear hnA hnB hnB' hcA hcB hcA2 hcB2 hA hsA hsB hbA hbB hz
 all_goals
  have hcW:=hc.then hcV
  have A0:∀ {K:Int→Prop},K (f:Int)→LoadT tI V4 ((at0 bA).add 0) K:=fun k=>LoadT.sc (s:=.int .i64) (by rw[cellOf hA4];rfl) k
  have A1:∀ {K:Int→Prop},K (x:Int)→LoadT tI V4 ((at0 bA).add 1) K:=fun k=>LoadT.sc (s:=.int .i64) (by rw[cellOf hA4];rfl) k
  have A2:∀ {K:Int→Prop},K (t:Int)→LoadT tI V4 ((at0 bA).add 2) K:=fun k=>LoadT.sc (s:=.int .i64) (by rw[cellOf hA4];rfl) k
  have B0:∀ {K:Int→Prop},K (f':Int)→LoadT tI V4 ((at0 bB).add 0) K:=fun k=>LoadT.sc (s:=.int .i64) (by rw[cellOf hB];rfl) k
  have B1:∀ {K:Int→Prop},K (x':Int)→LoadT tI V4 ((at0 bB).add 1) K:=fun k=>LoadT.sc (s:=.int .i64) (by rw[cellOf hB];rfl) k
  have B2:∀ {K:Int→Prop},K (t':Int)→LoadT tI V4 ((at0 bB).add 2) K:=fun k=>LoadT.sc (s:=.int .i64) (by rw[cellOf hB];rfl) k
  have eqb:∀ u v:Nat,((u:Int) == (v:Int))=decide (u=v):=fun u v=>by
   rw[Bool.eq_iff_iff];simp;omega
  have neb:∀ u v:Nat,((u:Int) != (v:Int))=decide (u≠v):=fun u v=>by
   rw[Bool.eq_iff_iff];simp;omega
  refine Join.by' (fun y V=>V=V4∧y=(at0 b1,at0 b3,(i:Int),(j:Int),at0 bA,at0 bB,decide (x=x'∧f=f'∧t≠t'),())) ?_ ?_
  ·rintro y V g3 ⟨hV,rfl⟩
   rw[hV];clear hV;dsimp only;refine Br.dec (fun h1=>?_) (fun h1=>?_)
   ·refine A2 (B2 (min_run (A2 (B2 (max_run ?_)))));refine done V4 _ _ true hcW (.inr ⟨rfl,?_⟩);have hp:pairC (f,x,t) (f',x',t')=some (min t t',max t t'):=by simp[pairC,h1]
    rw[hp]at hcj;rw[← hcj]at hcl;exact hcl.symm
   refine Join.by' (fun y V=>V=V4∧y=(at0 b1,at0 b3,(i:Int),(j:Int),at0 bA,at0 bB,decide (x=x'∧t=t'∧f≠f'),())) ?_ ?_
   ·rintro y V g4 ⟨hV,rfl⟩
    rw[hV];clear hV;dsimp only;refine Br.dec (fun h2=>?_) (fun h2=>?_)
    ·refine A0 (B0 (min_run (A0 (B0 (max_run ?_)))));refine done V4 _ _ true hcW (.inr ⟨rfl,?_⟩);have hp:pairC (f,x,t) (f',x',t')=some (min f f',max f f'):=by
      unfold pairC;rw[if_neg h1,if_pos h2]
     rw[hp]at hcj;rw[← hcj]at hcl;exact hcl.symm
    ·have hp:pairC (f,x,t) (f',x',t')=none:=by
      unfold pairC;rw[if_neg h1,if_neg h2]
     rw[hp]at hcj;refine⟨⟨j+1,hlt2',by rw[wrap64 (by omega) (by omega)];rfl,hcW,hcj⟩,?_⟩
     rw[wrap64 (by omega) (by omega)]
     show i-(j+1)<i-j
     omega
   ·intro J hJ;refine A1 (B1 ?_);rw[eqb];refine Br.dec (fun e1=>A2 (B2 ?_)) (fun e1=>hJ _ _ ⟨rfl,by simp[e1]⟩)
    rw[eqb];refine Br.dec (fun e2=>A0 (B0 ?_)) (fun e2=>hJ _ _ ⟨rfl,by simp[e2]⟩)
    rw[neb];exact hJ _ _ ⟨rfl,by simp[e1,e2]⟩
  ·intro J hJ;refine A1 (B1 ?_);rw[eqb];refine Br.dec (fun e1=>A0 (B0 ?_)) (fun e1=>hJ _ _ ⟨rfl,by simp[e1]⟩)
   rw[eqb];refine Br.dec (fun e2=>A2 (B2 ?_)) (fun e2=>hJ _ _ ⟨rfl,by simp[e2]⟩)
   rw[neb];exact hJ _ _ ⟨rfl,by simp[e1,e2]⟩
def ren (a b v:Nat):Nat:=if v=b then a else v
def renE (a b:Nat)(e:Ed):Ed:=(ren a b e.1,e.2.1,ren a b e.2.2)
def mergedE (a b:Nat)(es out:List Ed):List Ed:=es.foldl (fun out e=>insertE out (renE a b e)) out
theorem insertE_len (es:List Ed)(e:Ed):(insertE es e).length≤es.length+1:=by unfold insertE;split <;> simp
theorem mergedE_len (a b:Nat):∀ (es out:List Ed),(mergedE a b es out).length≤out.length+es.length
 | [],out=>by simp[mergedE]
 | e :: l,out=>by
  have h1:=mergedE_len a b l (insertE out (renE a b e));have h2:=insertE_len out (renE a b e);have h3:mergedE a b (e :: l) out=mergedE a b l (insertE out (renE a b e)):=rfl;rw[h3,List.length_cons];omega
abbrev tG:Ty:=.agg [.int .i64,.int .i64,.sl]
theorem merged_ret {w:World}{g1 g2:Int}{s:Sl}{es:List Ed}(h:RdT w tE s (es.map ofE))(hb:es.length≤1000000000)(a b:Nat) :
  Ret Tryd.prog 97 #[.agg #[.int .i64 g1,.int .i64 g2,s.v],.int .i64 (a:Int),.int .i64 (b:Int)] tG w fun y w'=>y.1=g1∧y.2.1=g2∧OwnT w' 100 tE y.2.2.1 ((mergedE a b es []).map ofE)∧Chg Nil w w'∧∀ k,y.2.2.1.own k→w.heap.size≤k:=by
 refine cayleyref21_merged.calls g1 g2 s (a:Int) (b:Int) ?_;unfold cayleyref21_merged.sh;have hn:s.n=es.length:=by rw[h.len,List.length_map]
 refine New.mk fun b1 w1 hb1 hn1 hs1 hc1=>?_
 refine New.mk fun b3 w2 hb3 hn3 hs3 hc3=>?_
 have h12:=hc3.heap hn1 fun h=>h
 refine LoadT.sc (s:=.int .i64) (x:=g1) (by rw[cellOf h12];rfl) ?_
 refine LoadT.sc (s:=.int .i64) (x:=g2) (by rw[cellOf h12];rfl) ?_
 refine New.mk fun b7 w3 hb7 hn7 hs7 hc7=>?_
 refine StoreN.whole (vs:=[.int .i64 g1,.int .i64 g2,.slice none 0 0]) hn7 rfl fun w4 h74 hc7' _=>?_
 have hN:Chg Nil w2 w4:=hc7.trans hc7' (fun _ _ h=>h) fun i hi he=>by have he:i=b7:=he;omega
 have h14:=hN.heap h12 fun h=>h
 have h34:=hN.heap hn3 fun h=>h
 have hc04:=(hc1.then hc3).then hN
 have s1:=hc1.size;have s3:=hc3.size;have hml:maxLen=9223372036854775807:=rfl
 let Inv:Sl→List Ed→World→Prop:=fun so out W=>Chg Nil w W∧W.heap[b1]? = some (.cells #[.int .i64 g1,.int .i64 g2,s.v] 54 (0,0))∧W.heap[b3]? = some (.cells #[.int .i64 0,.int .i64 0,.slice none 0 0] 54 (0,0)) ∧
  W.heap[b7]? = some (.cells #[.int .i64 g1,.int .i64 g2,so.v] 54 (0,0))∧OwnT W 100 tE so (out.map ofE)∧∀ k,so.own k→w.heap.size≤k
 refine LoopT.mk (fun y W=>∃ (i:Nat) (so:Sl) (out:List Ed),i≤es.length∧y=((a:Int),(b:Int),at0 b1,at0 b3,at0 b7,(i:Int),())∧Inv so out W∧out.length≤i∧mergedE a b (es.drop i) out=mergedE a b es []) (fun y _=>es.length-y.2.2.2.2.2.1.toNat)
  ⟨0,⟨none,0,0⟩,[],Nat.zero_le _,rfl,⟨hc04,h14,h34,h74,OwnT.nil _ _ _,fun k hk=>Own.nilk k hk⟩,Nat.le_refl _,rfl⟩ ?_
 rintro y g W ⟨i,so,out,hi,rfl,⟨i1,i2,i3,i4,i5,i6⟩,hol,hmg⟩
 dsimp only;refine LoadT.sc (s:=.sl) (x:=s) (by rw[cellOf i2];rfl) ?_
 refine Br.dec (fun hlt=>?_) (fun hge=>?_)
 rotate_left
 ·have hin:i=es.length:=by omega
  rw[hin,List.drop_eq_nil_of_le (Nat.le_refl _)]at hmg;have hmg:out=mergedE a b es []:=hmg;refine LoadT.mk (.agg [.int .i64,.int .i64,.sl]) (x:=(g1,g2,so,())) (fun j v hv=>by rw[cellOf i4];simpa[Ty.cells] using hv) ?_
  refine StoreN.whole (vs:=[.int .i64 g1,.int .i64 g2,so.v]) i3 rfl fun w5 h35 hc5 _=>?_
  refine LoadT.mk (.agg [.int .i64,.int .i64,.sl]) (x:=(g1,g2,so,())) (fun j v hv=>by rw[cellOf h35];simpa[Ty.cells] using hv) ?_
  refine⟨(g1,g2,so,()),rfl,rfl,rfl,?_,i1.trans hc5 (fun _ _ h=>h) fun k hk he=>(by have he:k=b3:=he;omega),i6⟩
  rw[← hmg];exact OwnT.chgT i5 hc5 (e:=54) (fun k hk=>by have hk:k=b3:=hk;subst hk;exact⟨_,_,i3⟩) (by decide)
 have hlt':i<es.length:=by omega
 have hei:(es.map ofE)[i]? = some (ofE es[i]):=by rw[List.getElem?_map,List.getElem?_eq_getElem hlt'];rfl
 rw[List.drop_eq_getElem_cons hlt']at hmg;generalize es[i]=e at hei hmg;have hmg:mergedE a b (es.drop (i+1)) (insertE out (renE a b e))=mergedE a b es []:=hmg;obtain⟨f,x,t⟩:=e;refine LoadT.sc (s:=.sl) (x:=s) (by rw[cellOf i2];rfl) ?_
 refine(h.chg i1 fun _ _ h=>h).get (t:=tE) i rfl hei ?_
 refine New.mk fun b18 W1 hb18 hn18 hs18 hc18=>?_
 refine StoreN.whole (vs:=[.int .i64 (f:Int),.int .i64 (x:Int),.int .i64 (t:Int)]) hn18 rfl fun W2 h182 hc182 _=>?_
 have hW2:Chg Nil W W2:=hc18.trans hc182 (fun _ _ h=>h) fun k hk he=>by have he:k=b18:=he;omega
 have lt1:=lt_of_heap i2;have lt3:=lt_of_heap i3;have lt7:=lt_of_heap i4;have eqb:∀ u v:Nat,((u:Int) == (v:Int))=decide (u=v):=fun u v=>by
  rw[Bool.eq_iff_iff];simp;omega
 refine Join.by' (fun y V=>y=((a:Int),(b:Int),at0 b1,at0 b3,at0 b7,(i:Int),at0 b18,())∧Chg Nil W V∧V.heap[b18]? = some (.cells #[.int .i64 ((ren a b f:Nat):Int),.int .i64 (x:Int),.int .i64 (t:Int)] 100 (0,0))) ?_ ?_
 rotate_left
 ·intro J hJ;refine LoadT.sc (s:=.int .i64) (x:=(f:Int)) (by rw[cellOf h182];rfl) ?_
  rw[eqb];refine Br.dec (fun he=>?_) (fun he=>hJ _ _ ⟨rfl,hW2,by rw[h182,ren,if_neg he]⟩)
  refine Store1.at h182 0 (by show 0<3;decide) rfl fun W3 h3 hc3 _=>?_
  exact hJ _ _ ⟨rfl,hW2.trans hc3 (fun _ _ h=>h) fun k hk he=>(by have he:k=b18:=he;omega),by rw[h3,ren,if_pos he];rfl⟩
 rintro y V g2 ⟨rfl,hWV,hV18⟩
 dsimp only;refine Join.by' (fun y V=>y=((a:Int),(b:Int),at0 b1,at0 b3,at0 b7,(i:Int),at0 b18,())∧Chg Nil W V∧V.heap[b18]? = some (.cells #[.int .i64 ((ren a b f:Nat):Int),.int .i64 (x:Int),.int .i64 ((ren a b t:Nat):Int)] 100 (0,0))) ?_ ?_
 rotate_left
 ·intro J hJ;refine LoadT.sc (s:=.int .i64) (x:=(t:Int)) (by rw[cellOf hV18];rfl) ?_
  rw[eqb];refine Br.dec (fun he=>?_) (fun he=>hJ _ _ ⟨rfl,hWV,by rw[hV18,ren,ren,if_neg he]⟩)
  refine Store1.at hV18 2 (by show 2<3;decide) rfl fun W3 h3 hc3 _=>?_
  exact hJ _ _ ⟨rfl,hWV.trans hc3 (fun _ _ h=>h) fun k hk he=>(by have he:k=b18:=he;omega),by rw[h3,ren,ren,if_pos he];rfl⟩
 clear hWV hV18 V
 rintro y V g3 ⟨rfl,hWV,hV18⟩
 dsimp only;refine LoadT.sc (s:=.sl) (x:=so) (by rw[cellOf (hWV.heap i4 fun h=>h)];rfl) ?_
 refine LoadT.mk (.agg [.int .i64,.int .i64,.int .i64]) (x:=ofE (renE a b (f,x,t))) (fun j v hv=>by rw[cellOf hV18];simpa[Ty.cells,ofE,renE,vals,Sc.val] using hv) ?_
 refine Ret.call (insert_ret (i5.chg hWV fun _ _ h=>h) (by omega) (renE a b (f,x,t))) ?_
 rintro so' W3 ⟨ho',hcI,hown⟩
 have hk:∀ k,so.own k→∃ c fl,V.heap[k]? = some (.cells c 100 fl):=OwnT.kind (i5.chg hWV fun _ _ h=>h)
 have h1':=Chg.heapT hcI hk (hWV.heap i2 fun h=>h) (by decide)
 have h3':=Chg.heapT hcI hk (hWV.heap i3 fun h=>h) (by decide)
 have h7':=Chg.heapT hcI hk (hWV.heap i4 fun h=>h) (by decide)
 have hwV:=i1.then hWV
 have hw3:Chg Nil w W3:=hwV.trans hcI (fun _ _ h=>h) fun k hk ho=>by have:=i6 k ho;omega
 refine Store1.at h7' 2 (by show 2<3;decide) rfl fun W4 h74 hc4 _=>?_
 have sz:=hwV.size;refine⟨⟨i+1,so',insertE out (renE a b (f,x,t)),hlt',by rw[wrap64 (by omega) (by omega)];rfl,⟨?_,?_,?_,h74,?_,fun k hk=>?_⟩,?_,hmg⟩,?_⟩
 ·exact hw3.trans hc4 (fun _ _ h=>h) fun k hk he=>by have he:k=b7:=he;omega
 ·exact hc4.heap h1' fun he=>by have he:b1=b7:=he;omega
 ·exact hc4.heap h3' fun he=>by have he:b3=b7:=he;omega
 ·exact OwnT.chgT ho' hc4 (e:=54) (fun k hk=>by have hk:k=b7:=hk;subst hk;exact⟨_,_,h7'⟩) (by decide)
 ·rcases hown k hk with h1|h1
  ·exact i6 k h1
  ·omega
 ·have:=insertE_len out (renE a b (f,x,t));omega
 ·rw[wrap64 (by omega) (by omega)]
  show es.length-(i+1)<es.length-i
  omega
def foldedE:Nat→List Ed→Option (List Ed)
 | 0,_=>none
 | n+1,es=>match clashG [] es with
  | none=>some es
  | some (a,b)=>foldedE n (mergedE a b es [])
theorem Folded_ret {w:World}{g1 g2:Int}{s:Sl}{es:List Ed}(h:RdT w tE s (es.map ofE))(hs:∀ k,s.own k→k<w.heap.size)(hcap:s.n≤s.c)(hb:es.length≤1000000000){K:Nat}{res:List Ed}(hf:foldedE K es=some res) :
  Ret Tryd.prog 85 #[.agg #[.int .i64 g1,.int .i64 g2,s.v]] tG w fun y w'=>y.1=g1∧y.2.1=g2∧RdT w' tE y.2.2.1 (res.map ofE)∧(∀ k,y.2.2.1.own k→k<w'.heap.size)∧y.2.2.1.n≤y.2.2.1.c∧Chg Nil w w'∧res.length≤es.length:=by
 refine cayleyref21_Folded.calls g1 g2 s ?_;unfold cayleyref21_Folded.sh;refine New.mk fun b1 w1 hb1 hn1 hs1 hc1=>?_
 refine New.mk fun b3 w2 hb3 hn3 hs3 hc3=>?_
 have h12:=hc3.heap hn1 fun h=>h
 have s1:=hc1.size;have s3:=hc3.size;have hc02:=hc1.then hc3
 have hlt3:=lt_of_heap hn3;have nown:∀ {so:Sl} {c:Nat},(∀ k,so.own k→k<w.heap.size∨b3<k∧k<c)→∀ k,so.own k→k≠b1∧k≠b3:=fun ho k hk=>by
  have:=ho k hk;omega
 refine LoopT.fuel (fun n y W=>∃ (so:Sl) (out:List Ed),y=(at0 b1,at0 b3,())∧Chg Nil w W∧W.heap[b1]? = some (.cells #[.int .i64 g1,.int .i64 g2,so.v] 54 (0,0))∧W.heap[b3]? = some (.cells #[.int .i64 0,.int .i64 0,.slice none 0 0] 54 (0,0))∧RdT W tE so (out.map ofE)∧(∀ k,so.own k→k<w.heap.size∨b3<k∧k<W.heap.size)∧so.n≤so.c∧out.length≤es.length∧foldedE n out=some res) K
  ⟨s,es,rfl,hc02,h12,hn3,h.chg hc02 fun _ _ h=>h,fun k hk=>.inl (hs k hk),hcap,Nat.le_refl _,hf⟩ ?_
 rintro n y g W C ⟨so,out,rfl,i1,i2,i3,i4,i5,icap,i6,hfo⟩ hC
 dsimp only;cases n with
 | zero=>cases hfo
 | succ n=>
 simp only[foldedE]at hfo;refine LoadT.mk (.agg [.int .i64,.int .i64,.sl]) (x:=(g1,g2,so,())) (fun j v hv=>by rw[cellOf i2];simpa[Ty.cells] using hv) ?_
 refine RetN.call (clash_ret i4 (by omega)) fun y W1 ⟨hcl,hy⟩=>?_
 refine New.mk fun b13 W2 hb13 hn13 hs13 hc13=>?_
 refine StoreN.whole (vs:=[.int .i64 y.1.1,.int .i64 y.1.2.1,.int .i64 y.1.2.2.1]) hn13 rfl fun W3 h133 hc133 _=>?_
 have hW3:Chg Nil W W3:=(hcl.then hc13).trans hc133 (fun _ _ h=>h) fun k hk he=>by have he:k=b13:=he;have:=hcl.size;omega
 have j2:=hW3.heap i2 fun h=>h
 have j3:=hW3.heap i3 fun h=>h
 have sz3:=hW3.size;have ld:∀ {K:tG.den→Prop},K (g1,g2,so,())→LoadT (.agg [.int .i64,.int .i64,.sl]) W3 (at0 b1) K:=fun k=>LoadT.mk (.agg [.int .i64,.int .i64,.sl]) (x:=(g1,g2,so,())) (fun j v hv=>by rw[cellOf j2];simpa[Ty.cells] using hv) k
 split at hfo
 ·rename_i hno
  cases hfo
  rw[hno]at hy;refine Br.t (by rw[hy];rfl) (ld ?_)
  refine StoreN.whole (vs:=[.int .i64 g1,.int .i64 g2,so.v]) j3 rfl fun W4 h34 hc4 _=>?_
  refine LoadT.mk (.agg [.int .i64,.int .i64,.sl]) (x:=(g1,g2,so,())) (fun j v hv=>by rw[cellOf h34];simpa[Ty.cells] using hv) ?_
  have sz4:=hc4.size;refine⟨(g1,g2,so,()),rfl,rfl,rfl,?_,fun k hk=>?_,icap,(i1.then hW3).trans hc4 (fun _ _ h=>h) fun k hk he=>(by have he:k=b3:=he;omega),i6⟩
  ·exact(i4.chg hW3 fun _ _ h=>h).chg hc4 fun ad had he=>(nown i5 _ ⟨ad,had,rfl⟩).2 he
  ·have:=i5 k hk;have:=i1.size
   show k<W4.heap.size
   omega
 ·rename_i a b hab
  rw[hab]at hy;obtain⟨hy1,hy2⟩:=hy;refine Br.f (by rw[hy1];rfl) (ld ?_)
  rw[hy2]at h133;refine LoadT.sc (s:=.int .i64) (x:=(a:Int)) (by rw[cellOf h133];rfl) ?_
  refine LoadT.sc (s:=.int .i64) (x:=(b:Int)) (by rw[cellOf h133];rfl) ?_
  refine Ret.call (merged_ret (i4.chg hW3 fun _ _ h=>h) (by omega) a b) ?_
  rintro⟨q1,q2,so',_⟩ W4 ⟨e1,e2,ho,hcm,hown⟩
  have e1:q1=g1:=e1;have e2:q2=g2:=e2;subst e1 e2;have hW4:=hW3.then hcm
  refine StoreN.whole (vs:=[.int .i64 q1,.int .i64 q2,so'.v]) (hcm.heap j2 fun h=>h) rfl fun W5 h15 hc5 _=>?_
  have k5:=hc5.size;have k1:=i1.size;have own':∀ k,so'.own k→b3<k∧k<W4.heap.size:=fun k hk=>by
   have h1:=hown k hk;have h2:=OwnT.ltk ho hk;have:=lt_of_heap i3;omega
  refine hC _ _ n (Nat.lt_succ_self n) ⟨so',mergedE a b out [],rfl,(i1.then hW4).trans hc5 (fun _ _ h=>h) fun k hk he=>(by have he:k=b1:=he;omega),h15,hc5.heap (hcm.heap j3 fun h=>h) fun he=>(by have he:b3=b1:=he;omega),?_,fun k hk=>?_,OwnT.cap ho,?_,hfo⟩
  ·exact ho.rd.chg hc5 fun ad had he=>by have:=own' _ ⟨ad,had,rfl⟩;have he:ad.block=b1:=he;omega
  ·have:=own' k hk;right;omega
  ·have:=mergedE_len a b out [];simp only[List.length_nil]at this;omega
def leafE (all:Bool)(es:List Ed)(e:Ed):Bool:=
 decide (degE es e.1=1∧(e.1≠0∨all=true)) || decide (degE es e.2.2=1∧(e.2.2≠0∨all=true))
def leafI (all:Bool)(es:List Ed):List Ed→List Ed→Option (List Ed)
 | _,[]=>none
 | pre,e :: l=>if leafE all es e=true then some (pre ++ l) else leafI all es (pre ++ [e]) l
def prunedE (all:Bool):Nat→List Ed→Option (List Ed)
 | 0,_=>none
 | n+1,es=>match leafI all es [] es with
  | none=>some es
  | some es'=>prunedE all n es'
theorem Pruned_ret {w:World}{g1 g2:Int}{s:Sl}{es:List Ed}(all:Bool)(h:RdT w tE s (es.map ofE))(hs:∀ k,s.own k→k<w.heap.size)(hcap:s.n≤s.c)(hb:es.length≤1000000000){K:Nat}{res:List Ed}(hf:prunedE all K es=some res) :
  Ret Tryd.prog 71 #[.agg #[.int .i64 g1,.int .i64 g2,s.v],.bool all] tG w fun y w'=>y.1=g1∧y.2.1=g2∧RdT w' tE y.2.2.1 (res.map ofE)∧(∀ k,y.2.2.1.own k→k<w'.heap.size)∧y.2.2.1.n≤y.2.2.1.c∧Chg Nil w w'∧res.length≤es.length:=by
 refine cayleyref21_Pruned.calls g1 g2 s all ?_;unfold cayleyref21_Pruned.sh;refine New.mk fun b1 w1 hb1 hn1 hs1 hc1=>?_
 refine New.mk fun b3 w2 hb3 hn3 hs3 hc3=>?_
 have h12:=hc3.heap hn1 fun h=>h
 have s1:=hc1.size;have s3:=hc3.size;have hc02:=hc1.then hc3
 have hlt3:=lt_of_heap hn3;have hml:maxLen=9223372036854775807:=rfl
 let Inv:World→Sl→List Ed→Prop:=fun W so out=>Chg Nil w W∧W.heap[b1]? = some (.cells #[.int .i64 g1,.int .i64 g2,so.v] 54 (0,0))∧W.heap[b3]? = some (.cells #[.int .i64 0,.int .i64 0,.slice none 0 0] 54 (0,0))∧RdT W tE so (out.map ofE)∧(∀ k,so.own k→k<w.heap.size∨b3<k∧k<W.heap.size)∧so.n≤so.c∧out.length≤es.length
 refine LoopT.fuel (fun n y W=>∃ (so:Sl) (out:List Ed) (again:Bool),y=(all,at0 b1,at0 b3,again,())∧Inv W so out∧(again=true→prunedE all n out=some res)∧(again=false→out=res)) K
  ⟨s,es,true,rfl,⟨hc02,h12,hn3,h.chg hc02 fun _ _ h=>h,fun k hk=>.inl (hs k hk),hcap,Nat.le_refl _⟩,fun _=>hf,fun h=>by cases h⟩ ?_
 rintro n y g W C ⟨so,out,again,rfl,⟨i1,i2,i3,i4,i5,icap,i6⟩,hp1,hp2⟩ hC
 dsimp only;cases again with
 | false=>
  have hp2:=hp2 rfl;subst hp2;refine Br.f rfl ?_;refine LoadT.mk (.agg [.int .i64,.int .i64,.sl]) (x:=(g1,g2,so,())) (fun j v hv=>by rw[cellOf i2];simpa[Ty.cells] using hv) ?_
  refine StoreN.whole (vs:=[.int .i64 g1,.int .i64 g2,so.v]) i3 rfl fun W4 h34 hc4 _=>?_
  refine LoadT.mk (.agg [.int .i64,.int .i64,.sl]) (x:=(g1,g2,so,())) (fun j v hv=>by rw[cellOf h34];simpa[Ty.cells] using hv) ?_
  have sz4:=hc4.size;refine⟨(g1,g2,so,()),rfl,rfl,rfl,?_,fun k hk=>?_,icap,i1.trans hc4 (fun _ _ h=>h) fun k hk he=>(by have he:k=b3:=he;omega),i6⟩
  ·exact i4.chg hc4 fun ad had he=>by have:=i5 _ ⟨ad,had,rfl⟩;have he:ad.block=b3:=he;omega
  ·have:=i5 k hk;have:=i1.size
   show k<W4.heap.size
   omega
 | true=>
 have hp1:=hp1 rfl;clear hp2;cases n with
 | zero=>cases hp1
 | succ n=>
 simp only[prunedE]at hp1;refine Br.t rfl ?_;refine LoopT.mk (fun y V=>∃ (i:Nat) (ag:Bool) (so1:Sl) (out1:List Ed),y=(all,at0 b1,at0 b3,ag,(i:Int),())∧i≤out.length∧Inv V so1 out1∧(ag=false→out1=out∧leafI all out (out.take i) (out.drop i)=leafI all out [] out)∧(ag=true→leafI all out [] out=some out1)) (fun y _=>if y.2.2.2.1=true then 0 else out.length-y.2.2.2.2.1.toNat+1)
  ⟨0,false,so,out,rfl,Nat.zero_le _,⟨i1,i2,i3,i4,i5,icap,i6⟩,fun _=>⟨rfl,rfl⟩,fun h=>by cases h⟩ ?_
 clear i1 i2 i3 i4 i5 icap i6 so W
 rintro y g2' W ⟨i,ag,so,out1,rfl,hi,⟨i1,i2,i3,i4,i5,icap,i6⟩,hag1,hag2⟩
 dsimp only;have hn:so.n=out1.length:=by rw[i4.len,List.length_map]
 refine LoadT.sc (s:=.sl) (x:=so) (by rw[cellOf i2];rfl) ?_
 cases ag with
 | true=>
  have hag2:=hag2 rfl;rw[hag2]at hp1;have fin:C (all,at0 b1,at0 b3,true,()) W:=hC _ _ n (Nat.lt_succ_self n) ⟨so,out1,true,rfl,⟨i1,i2,i3,i4,i5,icap,i6⟩,fun _=>hp1,fun h=>by cases h⟩
  refine Br.dec (fun _=>Br.f rfl fin) (fun _=>Br.f rfl fin)
 | false=>
 obtain⟨rfl,hlf⟩:=hag1 rfl;clear hag1 hag2;refine Br.dec (fun hlt=>?_) (fun hge=>?_)
 rotate_left
 ·have hin:i=out1.length:=by omega
  rw[hin,List.drop_eq_nil_of_le (Nat.le_refl _)]at hlf;simp only[leafI]at hlf;rw[← hlf]at hp1;cases hp1
  exact Br.f rfl (hC _ _ n (Nat.lt_succ_self n) ⟨so,res,false,rfl,⟨i1,i2,i3,i4,i5,icap,i6⟩,fun h=>(by cases h),fun _=>rfl⟩)
 have hlt':i<out1.length:=by omega
 refine Br.t rfl ?_;intro g9;dsimp only;have hei:(out1.map ofE)[i]? = some (ofE out1[i]):=by rw[List.getElem?_map,List.getElem?_eq_getElem hlt'];rfl
 have htk:out1.take (i+1)=out1.take i ++ [out1[i]]:=by rw[List.take_add_one,List.getElem?_eq_getElem hlt'];rfl
 rw[List.drop_eq_getElem_cons hlt']at hlf;simp only[leafI]at hlf;rw[← htk]at hlf;generalize out1[i]=e at hei hlf;obtain⟨f,x,t⟩:=e;have sne:so.a≠none:=by obtain⟨ad,had,_⟩:=i4.at' i _ hei;rw[had];simp
 refine LoadT.sc (s:=.sl) (x:=so) (by rw[cellOf i2];rfl) ?_
 refine i4.get (t:=tE) i rfl hei ?_;refine New.mk fun b21 W1 hb21 hn21 hs21 hc21=>?_
 refine StoreN.whole (vs:=[.int .i64 (f:Int),.int .i64 (x:Int),.int .i64 (t:Int)]) hn21 rfl fun W2 h212 hc212 _=>?_
 have hW2:Chg Nil W W2:=hc21.trans hc212 (fun _ _ h=>h) fun k hk he=>by have he:k=b21:=he;omega
 have hw1:IntKind.wrap .i64 ((i:Int)+1)=((i+1:Nat):Int):=wrap64 (by omega) (by omega)
 have ldG:∀ {V:World},Chg Nil W V→∀ {K:tG.den→Prop},K (g1,g2,so,())→LoadT (.agg [.int .i64,.int .i64,.sl]) V (at0 b1) K:=fun hV K k=>LoadT.mk (.agg [.int .i64,.int .i64,.sl]) (x:=(g1,g2,so,())) (fun j v hv=>by rw[cellOf (hV.heap i2 fun h=>h)];simpa[Ty.cells] using hv) k
 have ld0:∀ {V:World},Chg Nil W2 V→∀ {K:Int→Prop},K (f:Int)→LoadT tI V ((at0 b21).add 0) K:=fun hV K k=>LoadT.sc (s:=.int .i64) (by rw[cellOf (hV.heap h212 fun h=>h)];rfl) k
 have ld2:∀ {V:World},Chg Nil W2 V→∀ {K:Int→Prop},K (t:Int)→LoadT tI V ((at0 b21).add 2) K:=fun hV K k=>LoadT.sc (s:=.int .i64) (by rw[cellOf (hV.heap h212 fun h=>h)];rfl) k
 have eqb:∀ u v:Nat,((u:Int) == (v:Int))=decide (u=v):=fun u v=>by
  rw[Bool.eq_iff_iff];simp;omega
 have e1:∀ u:Nat,((u:Int) == 1)=decide (u=1):=fun u=>by rw[Bool.eq_iff_iff];simp;omega
 have e0:∀ u:Nat,((u:Int) != 0)=decide (u≠0):=fun u=>by rw[Bool.eq_iff_iff];simp
 refine Join.by' (fun y V=>y=(all,at0 b1,at0 b3,false,(i:Int),leafE all out1 (f,x,t),())∧Chg Nil W V) ?_ ?_
 ·rintro y V g4 ⟨rfl,hV⟩
  dsimp only;rw[hw1];have j2:=hV.heap i2 fun h=>h
  have j3:=hV.heap i3 fun h=>h
  refine Br.mk (fun hl=>?_) (fun hl=>?_)
  ·rw[if_pos hl]at hlf;refine New.mk fun b46 W3 hb46 hn46 hs46 hc46=>?_
   have j22:=hc46.heap j2 fun h=>h
   refine LoadT.sc (s:=.sl) (x:=so) (by rw[cellOf j22];rfl) ?_
   have hr3:RdT W3 tE so (out1.map ofE):=(i4.chg hV fun _ _ h=>h).chg hc46 fun _ _ h=>h
   have hle1:i≤(out1.map ofE).length:=by rw[List.length_map];omega
   have hle2:i+1≤(out1.map ofE).length:=by rw[List.length_map];omega
   refine RdT.upto (t:=tE) ok52 hr3 icap i rfl hle1 fun hup=>?_
   have hl1:((out1.map ofE).take i).length=i:=by rw[List.length_take,List.length_map];omega
   have hl2:((out1.map ofE).drop (i+1)).length≤out1.length:=by rw[List.length_drop,List.length_map];omega
   refine OwnT.appendR (t:=tE) ok52 rfl (by decide) (own_empty (t:=tE) hn46 (by decide)) (by simp) hup sne (by rw[hl1];simp;omega) (by rw[hl1];simp;omega) fun s1' W4 ho4 hne4 hc4 hown4=>?_
   rw[List.nil_append]at ho4;have hc3:Chg Nil V W4:=hc46.trans hc4 (fun _ _ h=>h) fun k hk ⟨ad,had,he⟩=>by cases had;dsimp only at he;omega
   have j24:=hc3.heap j2 fun h=>h
   refine LoadT.sc (s:=.sl) (x:=so) (by rw[cellOf j24];rfl) ?_
   have hr4:RdT W4 tE so (out1.map ofE):=(i4.chg hV fun _ _ h=>h).chg hc3 fun _ _ h=>h
   refine RdT.from (t:=tE) ok52 hr4 icap (i+1) rfl hle2 fun s2' hdr hne2=>?_
   have own4:∀ k,s1'.own k→V.heap.size≤k:=fun k hk=>by
    rcases hown4 k hk with ⟨ad,had,he⟩|h1
    ·cases had;dsimp only at he;omega
    ·have:=hc46.size;omega
   refine OwnT.appendR (t:=tE) ok52 rfl (by decide) ho4 hne4 hdr (hne2 sne) (by rw[hl1];omega) (by rw[hl1];omega) fun s3' W5 ho5 hne5 hc5 hown5=>?_
   have hc35:Chg Nil V W5:=hc3.trans hc5 (fun _ _ h=>h) fun k hk ho=>by have:=own4 k ho;omega
   have own5:∀ k,s3'.own k→V.heap.size≤k:=fun k hk=>by
    rcases hown5 k hk with h1|h1
    ·exact own4 k h1
    ·have:=hc3.size;omega
   have j25:=hc35.heap j2 fun h=>h
   have lV1:=lt_of_heap j2;have lV3:=lt_of_heap j3;refine Store1.at j25 2 (by show 2<3;decide) rfl fun W6 h16 hc6 _=>?_
   have hz5:=hc35.size;have hz6:=hc6.size;have hmap:(out1.map ofE).take i ++ (out1.map ofE).drop (i+1)=(out1.take i ++ out1.drop (i+1)).map ofE:=by rw[List.map_append,List.map_take,List.map_drop]
   rw[hmap]at ho5;refine⟨⟨i+1,true,s3',out1.take i ++ out1.drop (i+1),rfl,hlt',⟨?_,h16,?_,?_,fun k hk=>?_,OwnT.cap ho5,?_⟩,fun h=>(by cases h),fun _=>hlf.symm⟩,?_⟩
   ·exact((i1.then hV).then hc35).trans hc6 (fun _ _ h=>h) fun k hk he=>by have he:k=b1:=he;omega
   ·exact hc6.heap (hc35.heap j3 fun h=>h) fun he=>by have he:b3=b1:=he;omega
   ·exact ho5.rd.chg hc6 fun ad had he=>by have:=own5 _ ⟨ad,had,rfl⟩;have he:ad.block=b1:=he;omega
   ·have h1:=own5 k hk;have h2:=OwnT.ltk ho5 hk
    right
    omega
   ·simp only[List.length_append,List.length_take,List.length_drop];omega
   ·simp
  ·rw[if_neg (by rw[hl];simp)]at hlf
   have hz:=hV.size;refine⟨⟨i+1,false,so,out1,rfl,hlt',⟨i1.then hV,j2,j3,i4.chg hV fun _ _ h=>h,fun k hk=>?_,icap,i6⟩,fun _=>⟨rfl,hlf⟩,fun h=>by cases h⟩,?_⟩
   ·have:=i5 k hk;omega
   ·simp only[Bool.false_eq_true,if_false]
    show out1.length-((i+1:Nat):Int).toNat+1<out1.length-((i:Nat):Int).toNat+1
    omega
 ·intro J hJ;refine ldG hW2 ?_;refine ld0 (Chg.refl _) ?_;refine Ret.call (degree_ret (i4.chg hW2 fun _ _ h=>h) (by omega) f) ?_
  rintro _ W3 ⟨rfl,hc3⟩
  rw[e1]
  -- the second end
  have second:∀ V,Chg Nil W2 V→¬ (degE out1 f=1∧(f≠0∨all=true))→LoadT (.agg [.int .i64,.int .i64,.sl]) V (at0 b1) fun x39=>
    LoadT (.sc (.int .i64)) V ((at0 b21).add 2) fun x40=>
    CallT Tryd.prog 92 #[(.agg #[(.int .i64 x39.1),(.int .i64 x39.2.1),(.slice x39.2.2.1.a x39.2.2.1.n x39.2.2.1.c)]),(.int .i64 x40)] (.sc (.int .i64)) V (fun r41 w42=>
     Br ((r41:Int) == 1)
      (LoadT (.sc (.int .i64)) w42 ((at0 b21).add 2) fun x44=>
      Br ((x44:Int) != 0)
       (J (all,at0 b1,at0 b3,false,(i:Int),true,()) w42)
       (J (all,at0 b1,at0 b3,false,(i:Int),all,()) w42))
      (J (all,at0 b1,at0 b3,false,(i:Int),false,()) w42)) (fun h31 w30=>∃ x,Ending.panicked h31 = .returned (tG.val x)∧x.1=g1∧x.2.1=g2∧RdT w30 tE x.2.2.1 (res.map ofE)∧(∀ k,x.2.2.1.own k→k<w30.heap.size)∧x.2.2.1.n≤x.2.2.1.c∧Chg Nil w w30∧res.length≤es.length):=fun V hV hno=>by
   have hWV:=hW2.then hV
   refine ldG hWV ?_;refine ld2 hV ?_;refine Ret.call (degree_ret (i4.chg hWV fun _ _ h=>h) (by omega) t) ?_
   rintro _ W4 ⟨rfl,hc4⟩
   have hW4:=hWV.then hc4
   rw[e1];refine Br.dec (fun hd=>?_) (fun hd=>?_)
   ·refine ld2 (hV.then hc4) ?_
    rw[e0];refine Br.dec (fun ht=>hJ _ _ ⟨?_,hW4⟩) (fun ht=>hJ _ _ ⟨?_,hW4⟩)
    ·have:leafE all out1 (f,x,t)=true:=by simp[leafE,hd,ht]
     rw[this]
    ·have:leafE all out1 (f,x,t)=all:=by
      unfold leafE;rw[decide_eq_false hno];cases all <;> simp_all
     rw[this]
   ·refine hJ _ _ ⟨?_,hW4⟩;have:leafE all out1 (f,x,t)=false:=by
     unfold leafE;rw[decide_eq_false hno];simp[hd]
    rw[this]
  refine Br.dec (fun hd=>?_) (fun hd=>second W3 hc3 (fun h=>hd h.1))
  refine ld0 hc3 ?_;rw[e0];refine Br.dec (fun hf0=>hJ _ _ ⟨?_,hW2.then hc3⟩) (fun hf0=>Br.mk (fun ha=>hJ _ _ ⟨?_,hW2.then hc3⟩) (fun ha=>second W3 hc3 fun h=>?_))
  ·have:leafE all out1 (f,x,t)=true:=by simp[leafE,hd,hf0]
   rw[this]
  ·have:leafE all out1 (f,x,t)=true:=by simp[leafE,hd,ha]
   rw[this]
  ·rcases h.2 with h|h
   ·exact hf0 h
   ·rw[h]at ha;cases ha
theorem rowE_get {k:Nat}{es:List Ed}{v x:Nat}(h:x<2*k):(rowE k es v)[x]? = some (stepE es v x):=by
 unfold rowE;rw[List.getElem?_map,List.getElem?_range h];rfl
theorem rowE_len (k:Nat)(es:List Ed)(v:Nat):(rowE k es v).length=2*k:=by unfold rowE;simp
theorem Numbered_ret {w:World}{k:Nat}(hk:k≤8){g2:Int}{s:Sl}{es:List Ed}(h:RdT w tE s (es.map ofE))(hb:es.length≤1000000000){B base:Nat}(hB:B≤1000000)(hes:∀ e∈es,e.1<B∧e.2.2<B)(hbase:base<B){K:Nat}{res:List Row}(hf:numE k es K 0 [base] []=some res) :
  Ret Tryd.prog 70 #[.agg #[.int .i64 (k:Int),.int .i64 g2,s.v],.int .i64 (base:Int)] tA w fun y w'=>y.1=((2*k:Nat):Int)∧y.2.1=0∧AutR w.heap.size w' y.2.2.1 y.2.2.2.1 (accF res.length) (res.map (·.map ofO))∧Chg Nil w w'∧res.length≤B:=by
 refine cayleyref21_Numbered.calls (k:Int) g2 s (base:Int) ?_;unfold cayleyref21_Numbered.sh;generalize hgc:(#[.int .i64 (k:Int),.int .i64 g2,.slice s.a s.n s.c]:Array Value)=gc;refine New.mk fun b1 w1 hb1 hn1 hs1 hc1=>?_
 refine New.mk fun b3 w2 hb3 hn3 hs3 hc3=>?_
 refine New.mk fun b5 w3 hb5 hn5 hs5 hc5=>?_
 have h13:=hc5.heap (hc3.heap hn1 fun h=>h) fun h=>h
 refine LoadT.sc (s:=.int .i64) (x:=(k:Int)) (by rw[cellOf h13,← hgc];rfl) ?_
 have hw2k:IntKind.wrap .i64 (2*(k:Int))=((2*k:Nat):Int):=by rw[wrap64 (by omega) (by omega)];omega
 rw[hw2k];refine New.mk fun b8 w4 hb8 hn8 hs8 hc8=>?_
 refine StoreN.whole (vs:=[.int .i64 ((2*k:Nat):Int),.int .i64 0,.slice none 0 0,.slice none 0 0]) hn8 rfl fun w5 h85 hc8' _=>?_
 have hN:Chg Nil w3 w5:=hc8.trans hc8' (fun _ _ h=>h) fun i hi he=>by have he:i=b8:=he;omega
 have s1:=hc1.size;have s3:=hc3.size;have s5:=hc5.size;have hml:maxLen=9223372036854775807:=rfl;have hNm0:Nm w w5 b1 b3 b8 gc (2*k) ⟨some ⟨b5,0,none⟩,1,1⟩ ⟨none,0,0⟩ ⟨none,0,0⟩ ⟨none,0,0⟩ [base] [] [] []:=
  { chg:=((hc1.then hc3).then hc5).then hN,ge:=by omega,c1:=hN.heap h13 fun h=>h,c3:=hN.heap (hc5.heap hn3 fun h=>h) fun h=>h,c8:=h85
    que:=⟨⟨rfl,.inr ⟨b5,1,_,rfl,Nat.zero_le _,hN.heap hn5 fun h=>h,Nat.le_refl _,by simp[maxLen],rfl,rfl⟩⟩,rfl⟩
    acc:=OwnT.nil _ _ _,nxt:=OwnT.nil _ _ _,len:=rfl,row:=fun i s r hi=>by simp at hi,curr:=OwnT.nil _ _ _
    own:=fun k hk=>by
     rcases hk with ⟨a,ha,rfl⟩|hk|hk|hk|⟨s,hs,_⟩
     ·cases ha;dsimp only;omega
     ·exact Own.nilk k hk
     ·exact Own.nilk k hk
     ·exact Own.nilk k hk
     ·simp at hs
    ap1:=fun k hk=>Own.nilk k hk,ap2:=fun s hs=>by simp at hs }
 clear hn1 hn3 hn5 h13 hn8 h85;refine LoopT.fuel (fun f y W=>∃ (i:Nat) (qs sa sn:Sl) (q:List Nat) (os:List Sl) (out:List Row),y=(at0 b1,at0 b3,qs,at0 b8,(i:Int),())∧Nm w W b1 b3 b8 gc (2*k) qs sa sn ⟨none,0,0⟩ q os out []∧numE k es f i q out=some res∧out.length=i∧q.Nodup∧(∀ v∈q,v<B)∧i≤q.length) K
  ⟨0,_,_,_,[base],[],[],rfl,hNm0,hf,rfl,by simp,by simpa using hbase,by simp⟩ ?_
 clear hNm0 hf
 rintro f y g W C ⟨i,qs,sa,sn,q,os,out,rfl,hG,hf,hout,hnd,hqB,hiq⟩ hC
 dsimp only;have hqn:qs.n=q.length:=by rw[hG.que.len,List.length_map]
 have hqlen:=nodup_len B q hnd hqB;cases f with
 | zero=>simp[numE]at hf
 | succ f=>
 simp only[numE]at hf;split at hf
 ·rename_i hnone
  cases hf
  have hiq':q.length≤i:=by simpa using hnone
  refine Br.no (by rw[hqn];omega) ?_
  refine LoadT.mk tA (x:=(((2*k:Nat):Int),(0:Int),sa,sn,())) (fun j v hv=>by rw[cellOf hG.c8];simpa[Ty.cells] using hv) ?_
  refine StoreN.whole (vs:=[.int .i64 ((2*k:Nat):Int),.int .i64 0,sa.v,sn.v]) hG.c3 rfl fun w6 h6 hc6 _=>?_
  refine LoadT.mk tA (x:=(((2*k:Nat):Int),(0:Int),sa,sn,())) (fun j v hv=>by rw[cellOf h6];simpa[Ty.cells] using hv) ?_
  have k3:∀ k,k=b3→∃ c f,W.heap[k]? = some (.cells c 27 f):=fun k hk=>by subst hk;exact⟨_,_,hG.c3⟩
  refine⟨_,rfl,rfl,rfl,?_,hG.chg.trans hc6 (fun _ _ h=>h) fun j hj he=>(by have he:j=b3:=he;have:=hG.ge;omega),by omega⟩
  have hA:=hG.aut;obtain⟨p1,p2,p3,sls,p4,p5,p6,p7⟩:=hA;refine⟨(OwnT.chgT hG.acc hc6 k3 (by decide)).rd,p2,p3,os,(OwnT.chgT hG.nxt hc6 k3 (by decide)).rd,by rw[hG.len,List.length_map],fun i s r hi hr=>?_,fun s hs k hk=>hG.own k (.inr (.inr (.inr (.inr ⟨s,hs,hk⟩))))⟩
  rw[List.getElem?_map]at hr;cases ho:res[i]? with
  | none=>rw[ho]at hr;cases hr
  | some r'=>rw[ho]at hr;cases hr;exact(OwnT.chgT (hG.row i s r' hi ho) hc6 k3 (by decide)).rd
 rename_i v hv
 have hiq':i<q.length:=(List.getElem?_eq_some_iff.1 hv).1;refine Br.yes (by rw[hqn];omega) ?_
 refine New.mk fun b15 W1 hb15 hn15 hs15 hc15=>?_
 have hG1:=hG.newRow hc15 hb15 hn15;generalize hR:rowE k es v=rowv at hf;have hrl:rowv.length=2*k:=by rw[← hR];exact rowE_len _ _ _
 have hrB:∀ t,some t∈rowv→t<B:=fun t ht=>by
  rw[← hR]at ht;unfold rowE at ht;obtain⟨x,_,hx⟩:=List.mem_map.1 ht;exact stepE_lt es v x t hes hx
 refine LoopT.mk (fun y W=>∃ (x:Nat) (qs rs:Sl) (q':List Nat) (cur:Row),x≤2*k∧y=(at0 b1,at0 b3,qs,at0 b8,(i:Int),rs,(x:Int),())∧Nm w W b1 b3 b8 gc (2*k) qs sa sn rs q' os out cur∧cur.length=x∧(bfsRow (rowv.drop x) q').1=(bfsRow rowv q).1 ∧
   cur ++ (bfsRow (rowv.drop x) q').2=(bfsRow rowv q).2∧q'.Nodup∧(∀ v∈q',v<B)∧q'[i]? = some v) (fun y _=>2*k-y.2.2.2.2.2.2.1.toNat)
  ⟨0,qs,_,q,[],Nat.zero_le _,rfl,hG1,rfl,rfl,rfl,hnd,hqB,hv⟩ ?_
 clear hG1 hnd hqB hv hiq' hqlen hqn hG hn15 hc15 hs15
 rintro y gE W1 ⟨x,qs,rs,q',cur,hx,rfl,hG,hcl,hb1',hb2,hnd,hqB,hv⟩
 dsimp only;have hqn:qs.n=q'.length:=by rw[hG.que.len,List.length_map]
 have hqlen:=nodup_len B q' hnd hqB;have hiq':i<q'.length:=(List.getElem?_eq_some_iff.1 hv).1;refine LoadT.sc (s:=.int .i64) (x:=(k:Int)) (by rw[cellOf hG.c1,← hgc];rfl) ?_
 rw[hw2k];refine Br.dec (fun hlt=>?_) (fun hge=>?_)
 ·have hx2:x<2*k:=by omega
  have hd:Chg Nil W1 W1.drew:=Chg.drew W1;have hGd:=hG.nil hd;have hdrop:rowv.drop x=stepE es v x :: rowv.drop (x+1):=by
   have h1:=rowE_get (k:=k) (es:=es) (v:=v) hx2;rw[hR]at h1;obtain⟨h2,h3⟩:=List.getElem?_eq_some_iff.1 h1;rw[← h3];exact List.drop_eq_getElem_cons h2
  rw[hdrop]at hb1' hb2;have hwx:IntKind.wrap .i64 ((x:Int)+1)=((x+1:Nat):Int):=by rw[wrap64 (by omega) (by omega)];rfl
  have hmu:2*k-(x+1)<2*k-x:=by omega
  refine LoadT.mk (.agg [.int .i64,.int .i64,.sl]) (x:=((k:Int),g2,s,())) (fun j u hu=>by rw[cellOf hGd.c1,← hgc];simpa[Ty.cells] using hu) ?_
  refine hGd.que.rd.get (t:=tI) i rfl (x:=ofN v) (by rw[List.getElem?_map,hv];rfl) ?_
  refine Ret.call (step_ret (h.chg hGd.chg fun _ _ h=>h) hb v x (by omega)) ?_
  rintro _ W2 ⟨rfl,hc2⟩
  have hG2:=hGd.nil hc2
  -- behind the search
  refine Join.by' (fun y V=>∃ (qs2:Sl) (q2:List Nat) (o:Option Nat),y=(at0 b1,at0 b3,qs2,at0 b8,(i:Int),rs,(x:Int),ofO o,())∧Nm w V b1 b3 b8 gc (2*k) qs2 sa sn rs q2 os out cur∧(bfsRow (rowv.drop (x+1)) q2).1=(bfsRow rowv q).1 ∧
    cur ++ o :: (bfsRow (rowv.drop (x+1)) q2).2=(bfsRow rowv q).2∧q2.Nodup∧(∀ v∈q2,v<B)∧q2[i]? = some v) ?_ ?_
  ·rintro y V g3 ⟨qs2,q2,o,rfl,hV,e1,e2,e3,e4,e5⟩
   dsimp only;refine New.mk fun b42 V1 hb42 hn42 _ hc42=>?_
   have hV1:=hV.nil hc42;refine OwnT.append (t:=tI) (m:=1) ok85 rfl (by decide) hV1.curr [ofO o] rfl (by decide) (fun j u hu=>by rw[cellOf hn42];simpa[Ty.cells] using hu) ?_ ?_ fun rs' V2 ho2 hcA hownA=>?_
   ·rw[List.length_map];omega
   ·rw[List.length_map];omega
   have hV2:=hV1.setCur (cur':=cur ++ [o]) hcA (by rw[List.map_append];exact ho2) hownA
   rw[hwx];exact⟨⟨x+1,qs2,rs',q2,cur ++ [o],hx2,rfl,hV2,by simp[hcl],e1,by rw[List.append_assoc];exact e2,e3,e4,e5⟩,hmu⟩
  ·intro J hJ;cases hst:stepE es v x with
   | none=>
    rw[hst]at hb1' hb2;simp only[bfsRow]at hb1' hb2;refine Br.no (by show ¬ ((-1:Int) ≥ 0);omega) (hJ _ _ ⟨qs,q',none,rfl,hG2,hb1',hb2,hnd,hqB,hv⟩)
   | some t=>
    rw[hst]at hb1' hb2;simp only[bfsRow]at hb1' hb2;have htB:=stepE_lt es v x t hes hst;refine Br.yes (by show((t:Int) ≥ 0);omega) ?_
    refine LoopT.mk (fun y V=>∃ (kk:Nat) (at':Int),kk≤q'.length∧y=(at0 b1,at0 b3,qs,at0 b8,(i:Int),rs,(x:Int),(t:Int),at',(kk:Int),())∧V=W2∧at'=(if t∈q'.take kk then ((q'.idxOf t:Nat):Int) else -1)) (fun y _=>q'.length-y.2.2.2.2.2.2.2.2.2.1.toNat)
     ⟨0,-1,Nat.zero_le _,rfl,rfl,by simp⟩ ?_
    rintro y g4 V ⟨kk,at',hkk,rfl,hV,hat⟩
    rw[hV];clear hV;dsimp only;refine Br.dec (fun hlt3=>?_) (fun hge3=>?_)
    ·have hlt3':kk<q'.length:=by omega
     refine hG2.que.rd.get (t:=tI) kk rfl (x:=ofN q'[kk]) (by rw[List.getElem?_map,List.getElem?_eq_getElem hlt3'];rfl) ?_
     rw[wrap64 (x:=(kk:Int)+1) (by omega) (by omega)]
     have hmu3:q'.length-(kk+1)<q'.length-kk:=by omega
     have htk:q'.take (kk+1)=q'.take kk ++ [q'[kk]]:=take_snoc hlt3';refine Br.mk (fun heq=>?_) (fun hne=>?_)
     ·have heq':q'[kk]=t:=by have:((q'[kk]:Nat):Int)=(t:Int):=by simpa[ofN] using heq
                             omega
      refine⟨⟨kk+1,(kk:Int),hlt3',rfl,rfl,?_⟩,hmu3⟩;rw[htk,if_pos (by simp[heq'])]
      have hidx:q'.idxOf t=kk:=by
       rw[← heq'];exact hnd.idxOf_getElem kk hlt3'
      rw[hidx]
     ·have hne':¬ q'[kk]=t:=fun he=>by rw[he]at hne;simp[ofN]at hne
      refine⟨⟨kk+1,at',hlt3',rfl,rfl,?_⟩,hmu3⟩;rw[hat,htk];have:(t∈q'.take kk ++ [q'[kk]])↔t∈q'.take kk:=by
       simp only[List.mem_append,List.mem_singleton];exact⟨fun h=>h.elim id fun h=>absurd h.symm hne',.inl⟩
      simp only[this]
    ·have hkn:kk=q'.length:=by omega
     rw[hkn,List.take_length]at hat
     by_cases hin:t∈q'
     ·rw[if_pos hin]at hat hb1' hb2;refine Br.no (by rw[hat];omega) (hJ _ _ ⟨qs,q',some (q'.idxOf t),by rw[hat];rfl,hG2,hb1',hb2,hnd,hqB,hv⟩)
     ·rw[if_neg hin]at hat hb1' hb2;refine Br.yes (by rw[hat];decide) ?_
      refine New.mk fun b37 V1 hb37 hn37 _ hc37=>?_
      have hV1:=hG2.nil hc37;refine OwnT.append (t:=tI) (m:=1) ok85 rfl (by decide) hV1.que [ofN t] rfl (by decide) (fun j u hu=>by rw[cellOf hn37];simpa[Ty.cells,ofN] using hu) ?_ ?_ fun qs' V2 ho2 hcA hownA=>?_
      ·rw[List.length_map];omega
      ·rw[List.length_map];omega
      have hV2:=hV1.setQue (q':=q' ++ [t]) hcA (by unfold OwnN;rw[List.map_append];exact ho2) hownA
      rw[hqn];refine hJ _ _ ⟨qs',q' ++ [t],some q'.length,rfl,hV2,hb1',hb2,?_,?_,?_⟩
      ·rw[List.nodup_append];exact⟨hnd,by simp,fun a ha b hb=>by simp only[List.mem_singleton]at hb;subst hb;exact fun he=>hin (he ▸ ha)⟩
      ·intro u hu;rcases List.mem_append.1 hu with hu|hu
       ·exact hqB u hu
       ·simp only[List.mem_singleton]at hu;subst hu;exact htB
      ·rw[List.getElem?_append_left hiq'];exact hv
 ·have hx2:x=2*k:=by omega
  have hdr:rowv.drop x=[]:=List.drop_eq_nil_of_le (by omega)
  rw[hdr]at hb1' hb2;simp only[bfsRow,List.append_nil]at hb1' hb2;rw[← hb1',← hb2]at hf;have hol:os.length≤B:=by rw[hG.len,hout];omega
  refine LoadT.sc (s:=.sl) (x:=sn) (by rw[cellOf hG.c8];rfl) ?_
  refine New.mk fun b47 V1 hb47 hn47 _ hc47=>?_
  have hG1:=hG.nil hc47;refine OwnT.append (t:=.sc .sl) (m:=1) ok25 rfl (by decide) hG1.nxt [rs] rfl (by decide) (fun j u hu=>by rw[cellOf hn47];simpa[Ty.cells] using hu) ?_ ?_ fun sn' V2 hn2 hcN hownN=>?_
  ·omega
  ·omega
  have k1:=Rf.OwnT.kind hG1.nxt;have h82:=Chg.heapT hcN k1 hG1.c8 (by decide)
  refine Store1.at h82 3 (by show 3<4;decide) rfl fun V3 h83 hc3' _=>?_
  refine LoadT.sc (s:=.sl) (x:=sa) (by rw[cellOf h83];rfl) ?_
  refine New.mk fun b53 V4 hb53 hn53 _ hc53=>?_
  have k2:∀ k,k=b8→∃ c f,V2.heap[k]? = some (.cells c 27 f):=fun k hk=>by subst hk;exact⟨_,_,h82⟩
  have acc3:OwnT V3 4 (.sc .bool) sa (accF out.length):=OwnT.chgT (OwnT.chgT hG1.acc hcN k1 (by decide)) hc3' k2 (by decide)
  have acc4:=OwnT.chg acc3 hc53 fun _ _ h=>h
  have hib:(((i:Nat):Int) == 0)=(out.length == 0):=by rw[hout,Bool.eq_iff_iff];simp
  refine OwnT.append (t:=.sc .bool) (m:=1) ok24 rfl (by decide) acc4 [out.length == 0] rfl (by decide) (fun j u hu=>by rw[cellOf hn53,hib];simpa[Ty.cells] using hu) ?_ ?_ fun sa' V5 ha5 hcA hownA=>?_
  ·simp[accF];omega
  ·simp[accF];omega
  have acck:=Rf.OwnT.kind acc4;have h84:=hc53.heap h83 fun h=>h
  have h85':=Chg.heapT hcA acck h84 (by decide)
  refine Store1.at h85' 2 (by show 2<4;decide) rfl fun V6 h86 hc6 _=>?_
  have c23:Chg (· = b8) V2 V4:=hc3'.then hc53.nil
  have hz2:=hc3'.size;rw[← accF_succ]at ha5;have hfin:=hG1.endRow hcN hn2 hownN c23 h84 hcA ha5 hownA hc6 h86;rw[wrap64 (x:=(i:Int)+1) (by omega) (by omega)]
  refine hC _ _ f (by omega) ⟨i+1,qs,sa',sn',q',os ++ [rs],out ++ [cur],rfl,hfin,hf,by simp[hout],hnd,hqB,hiq'⟩
end Go.Proofs.YtffdjfkekdoeaaaDoor.Rf
end
section
namespace Go.Proofs.YtffdjfkekdoeaaaDoor.Pl
open Fo
def Ev {α:Type}(f:Nat→Option α)(r:α):Prop:=∃ K0,∀ K,K0≤K→f K=some r
inductive Root (par:List Nat):Nat→Nat→Prop
 | base {s:Nat}:par[s]? = some s→Root par s s
 | step {s p r:Nat}:par[s]? = some p→p≠s→Root par p r→Root par s r
theorem Root.unique {par:List Nat}{s r r':Nat}(h:Root par s r) (h':Root par s r'):r=r':=by
 induction h with
 | base h=>
  cases h' with
  | base _=>rfl
  | step h1 h2 _=>rw[h]at h1;cases h1;exact absurd rfl h2
 | step h1 h2 _ ih=>
  cases h' with
  | base h=>rw[h]at h1;cases h1;exact absurd rfl h2
  | step h3 h4 h5=>rw[h1]at h3;cases h3;exact ih h5
theorem Root.isRoot {par:List Nat}{s r:Nat}(h:Root par s r):par[r]? = some r:=by
 induction h with
 | base h=>exact h
 | step _ _ _ ih=>exact ih
theorem Root.self {par:List Nat}{s r:Nat}(h:Root par s r):Root par r r:=.base h.isRoot
theorem Root.lt {par:List Nat}{s r:Nat}(h:Root par s r):r<par.length:=(List.getElem?_eq_some_iff.1 h.isRoot).1
structure Forest (par:List Nat)(d:Nat→Nat):Prop where
 at':∀ s,s<par.length→∃ p,par[s]? = some p∧p<par.length∧(p≠s→d p<d s)
theorem Forest.root {par:List Nat}{d:Nat→Nat}(h:Forest par d):∀ (n s:Nat),d s≤n→s<par.length→∃ r,Root par s r:=by
 intro n;induction n with
 | zero=>
  intro s hd hs;obtain⟨p,h1,h2,h3⟩:=h.at' s hs
  by_cases hp:p=s
  ·subst hp;exact⟨p,.base h1⟩
  ·have:=h3 hp;omega
 | succ n ih=>
  intro s hd hs;obtain⟨p,h1,h2,h3⟩:=h.at' s hs
  by_cases hp:p=s
  ·subst hp;exact⟨p,.base h1⟩
  ·obtain⟨r,hr⟩:=ih p (by have:=h3 hp;omega) h2
   exact⟨r,.step h1 hp hr⟩
theorem halve {par:List Nat}{d:Nat→Nat}(h:Forest par d){s p g:Nat}(h1:par[s]? = some p)(hp:p≠s)(h2:par[p]? = some g):Forest (par.set s g) d∧∀ u r,Root (par.set s g) u r↔Root par u r:=by
 have hs:s<par.length:=(List.getElem?_eq_some_iff.1 h1).1;have hpl:p<par.length:=(List.getElem?_eq_some_iff.1 h2).1;obtain⟨p',q1,_,q3⟩:=h.at' s hs;rw[h1]at q1;cases q1;have hdp:=q3 hp;obtain⟨g',q4,q5,q6⟩:=h.at' p hpl;rw[h2]at q4;cases q4;have hdg:d g≤d p:=by
  by_cases hg:g=p
  ·rw[hg];exact Nat.le_refl _
  ·have:=q6 hg;omega
 have hgs:g≠s:=fun he=>by rw[he]at hdg;omega
 have hset:(par.set s g)[s]? = some g:=by rw[List.getElem?_set_self hs]
 have hother:∀ u,u≠s→(par.set s g)[u]? = par[u]?:=fun u hu=>List.getElem?_set_ne (fun e=>hu e.symm)
 have back:∀ u r,Root par u r→Root (par.set s g) u r:=by
  intro u r hr;have key:∀ n,∀ u r,d u≤n→Root par u r→Root (par.set s g) u r:=by
   intro n;induction n with
   | zero=>
    intro u r hd hr;cases hr with
    | base hb=>
     have hu:u≠s:=fun he=>by subst he;rw[h1]at hb;cases hb;exact hp rfl
     exact .base (by rw[hother u hu];exact hb)
    | step hb hne hr'=>
     obtain⟨p',k1,k2,k3⟩:=h.at' u (List.getElem?_eq_some_iff.1 hb).1;rw[hb]at k1;cases k1;have:=k3 hne;omega
   | succ n ih=>
    intro u r hd hr;cases hr with
    | base hb=>
     have hu:u≠s:=fun he=>by subst he;rw[h1]at hb;cases hb;exact hp rfl
     exact .base (by rw[hother u hu];exact hb)
    | step hb hne hr'=>
     obtain⟨p',k1,k2,k3⟩:=h.at' u (List.getElem?_eq_some_iff.1 hb).1;rw[hb]at k1;cases k1;have hlt:=k3 hne
     by_cases hu:u=s
     ·subst hu;rw[h1]at hb;cases hb;refine .step hset hgs (ih g r (by omega) ?_)
      cases hr' with
      | base hb'=>rw[h2]at hb';cases hb';exact .base h2
      | step hb' _ hr''=>rw[h2]at hb';cases hb';exact hr''
     ·exact .step (by rw[hother u hu];exact hb) hne (ih _ r (by omega) hr')
  exact key _ u r (Nat.le_refl _) hr
 refine⟨⟨fun u hu=>?_⟩,fun u r=>⟨fun hr=>?_,back u r⟩⟩
 ·rw[List.length_set]at hu ⊢
  by_cases hus:u=s
  ·subst hus;exact⟨g,hset,q5,fun _=>by omega⟩
  ·rw[hother u hus];exact h.at' u hu
 ·have hu:u<par.length:=by
   cases hr with
   | base hb=>have:=(List.getElem?_eq_some_iff.1 hb).1;rw[List.length_set]at this;exact this
   | step hb _ _=>have:=(List.getElem?_eq_some_iff.1 hb).1;rw[List.length_set]at this;exact this
  obtain⟨r',hr'⟩:=h.root _ u (Nat.le_refl _) hu;have:=hr.unique (back u r' hr');subst this;exact hr'
theorem find_ev {d:Nat→Nat}:∀ (n s:Nat)(par:List Nat),d s≤n→Forest par d→s<par.length→∃ par' r,(∀ K,n<K→findF K par s=some (par',r))∧Root par s r∧Forest par' d∧par'.length=par.length∧∀ u v,Root par' u v↔Root par u v:=by
 intro n;induction n with
 | zero=>
  intro s par hd h hs;obtain⟨p,h1,h2,h3⟩:=h.at' s hs;have hp:p=s:=by
   by_cases hp:p=s
   ·exact hp
   ·have:=h3 hp;omega
  subst hp;refine⟨par,p,fun K hK=>?_,.base h1,h,rfl,fun _ _=>Iff.rfl⟩
  obtain⟨K,rfl⟩:∃ m,K=m+1:=⟨K-1,by omega⟩
  simp only[findF,h1];rw[if_pos trivial]
 | succ n ih=>
  intro s par hd h hs;obtain⟨p,h1,h2,h3⟩:=h.at' s hs
  by_cases hp:p=s
  ·subst hp;refine⟨par,p,fun K hK=>?_,.base h1,h,rfl,fun _ _=>Iff.rfl⟩
   obtain⟨K,rfl⟩:∃ m,K=m+1:=⟨K-1,by omega⟩
   simp only[findF,h1];rw[if_pos trivial]
  ·have hdp:=h3 hp;obtain⟨g,g1,g2,g3⟩:=h.at' p h2;obtain⟨q1,q2⟩:=halve h h1 hp g1;have hdg:d g≤n:=by
    by_cases hg:g=p
    ·rw[hg];omega
    ·have:=g3 hg;omega
   obtain⟨par',r,r1,r2,r3,r4,r5⟩:=ih g (par.set s g) hdg q1 (by rw[List.length_set];exact g2)
   refine⟨par',r,fun K hK=>?_,?_,r3,by rw[r4,List.length_set],fun u v=>(r5 u v).trans (q2 u v)⟩
   ·obtain⟨K,rfl⟩:∃ m,K=m+1:=⟨K-1,by omega⟩
    simp only[findF,h1,if_neg hp,g1];exact r1 K (by omega)
   ·have hg:=(q2 g r).1 r2;refine .step h1 hp ?_
    by_cases hgp:g=p
    ·subst hgp;exact hg
    ·exact .step g1 hgp hg
theorem unite {par:List Nat}{d:Nat→Nat}(h:Forest par d){a b:Nat}(ha:par[a]? = some a)(hb:par[b]? = some b)(hab:a≠b):(∃ d',Forest (par.set b a) d')∧∀ u r,Root (par.set b a) u r↔(Root par u r∧r≠b)∨(Root par u b∧r=a):=by
 classical
 have hbl:b<par.length:=(List.getElem?_eq_some_iff.1 hb).1;have hal:a<par.length:=(List.getElem?_eq_some_iff.1 ha).1;have hset:(par.set b a)[b]? = some a:=by rw[List.getElem?_set_self hbl]
 have hother:∀ u,u≠b→(par.set b a)[u]? = par[u]?:=fun u hu=>List.getElem?_set_ne (fun e=>hu e.symm)
 have hra:Root (par.set b a) a a:=.base (by rw[hother a hab];exact ha)
 have fwd:∀ u r,Root par u r→(r≠b→Root (par.set b a) u r)∧(r=b→Root (par.set b a) u a):=by
  intro u r hr;induction hr with
  | base h1=>
   rename_i s
   refine⟨fun hn=>.base (by rw[hother s hn];exact h1),fun he=>?_⟩
   subst he;exact .step hset hab hra
  | step h1 h2 h3 ih=>
   rename_i s p r
   have hs:s≠b:=fun he=>by subst he;rw[hb]at h1;cases h1;exact h2 rfl
   exact⟨fun hn=>.step (by rw[hother s hs];exact h1) h2 (ih.1 hn),fun he=>.step (by rw[hother s hs];exact h1) h2 (ih.2 he)⟩
 refine⟨⟨fun u=>if Root par u b then d u+(d a+1) else d u,⟨fun u hu=>?_⟩⟩,fun u r=>⟨fun hr=>?_,fun hr=>?_⟩⟩
 ·rw[List.length_set]at hu ⊢
  by_cases hub:u=b
  ·subst hub;refine⟨a,hset,hal,fun _=>?_⟩
   have h1:¬ Root par a u:=fun hh=>hab ((Root.base ha).unique hh)
   simp only[if_neg h1,if_pos (Root.base hb)];omega
  ·obtain⟨p,p1,p2,p3⟩:=h.at' u hu;refine⟨p,by rw[hother u hub];exact p1,p2,fun hne=>?_⟩
   have hlt:=p3 hne;have:Root par u b↔Root par p b:=by
    constructor
    ·intro hh;cases hh with
     | base _=>exact absurd rfl hub
     | step q1 q2 q3=>rw[p1]at q1;cases q1;exact q3
    ·exact fun hh=>.step p1 hne hh
   by_cases hh:Root par p b
   ·simp only[if_pos hh,if_pos (this.2 hh)];omega
   ·simp only[if_neg hh,if_neg (fun h=>hh (this.1 h))];omega
 ·have hu:u<par.length:=by
   cases hr with
   | base h1=>have:=(List.getElem?_eq_some_iff.1 h1).1;rw[List.length_set]at this;exact this
   | step h1 _ _=>have:=(List.getElem?_eq_some_iff.1 h1).1;rw[List.length_set]at this;exact this
  obtain⟨r',hr'⟩:=h.root _ u (Nat.le_refl _) hu
  by_cases he:r'=b
  ·subst he;have:=hr.unique ((fwd u _ hr').2 rfl);exact .inr ⟨hr',this⟩
  ·have:=hr.unique ((fwd u r' hr').1 he);subst this;exact .inl ⟨hr',he⟩
 ·rcases hr with ⟨h1,h2⟩|⟨h1,h2⟩
  ·exact(fwd u r h1).1 h2
  ·subst h2;exact(fwd u b h1).2 rfl
def roots (par:List Nat):Nat:=((List.range par.length).filter fun s=>par[s]? == some s).length
theorem filter_len_congr {α:Type}{p q:α→Bool}:∀ (l:List α),(∀ x∈l,p x=q x)→(l.filter p).length=(l.filter q).length
 | [],_=>rfl
 | x :: l,h=>by
  have ih:=filter_len_congr l fun y hy=>h y (by simp[hy])
  have hx:=h x (by simp)
  by_cases hp:p x=true
  ·rw[List.filter_cons_of_pos hp,List.filter_cons_of_pos (by rw[← hx];exact hp),List.length_cons,List.length_cons,ih]
  ·rw[List.filter_cons_of_neg hp,List.filter_cons_of_neg (by rw[← hx];exact hp),ih]
theorem roots_same {par par':List Nat}(hl:par'.length=par.length)(h:∀ u v,Root par' u v↔Root par u v):roots par'=roots par:=by
 unfold roots;rw[hl];refine filter_len_congr _ fun s _=>?_
 rw[Bool.eq_iff_iff];simp only[beq_iff_eq];exact⟨fun e=>((h s s).1 (.base e)).isRoot,fun e=>((h s s).2 (.base e)).isRoot⟩
theorem filter_len_lt {α:Type}{p q:α→Bool}{b:α}:∀ (l:List α),(∀ x∈l,q x=true→p x=true)→b∈l→p b=true→q b=false→(l.filter q).length<(l.filter p).length
 | [],_,h,_,_=>by simp at h
 | x :: l,hs,hm,hp,hq=>by
  have hle:(l.filter q).length≤(l.filter p).length:=by
   have:∀ l:List α,(∀ x∈l,q x=true→p x=true)→(l.filter q).length≤(l.filter p).length:=by
    intro l;induction l with
    | nil=>simp
    | cons y l ih=>
     intro hs;have:=ih fun z hz=>hs z (by simp[hz])
     by_cases hy:q y=true
     ·rw[List.filter_cons_of_pos hy,List.filter_cons_of_pos (hs y (by simp) hy)];simp;omega
     ·rw[List.filter_cons_of_neg hy]
      by_cases hy':p y=true
      ·rw[List.filter_cons_of_pos hy'];simp;omega
      ·rw[List.filter_cons_of_neg hy'];exact this
   exact this l fun y hy=>hs y (by simp[hy])
  rcases List.mem_cons.1 hm with rfl|hm
  ·rw[List.filter_cons_of_pos hp,List.filter_cons_of_neg (by rw[hq];simp)];simp;omega
  ·have ih:=filter_len_lt l (fun y hy=>hs y (by simp[hy])) hm hp hq
   by_cases hx:q x=true
   ·rw[List.filter_cons_of_pos hx,List.filter_cons_of_pos (hs x (by simp) hx)];simp;omega
   ·rw[List.filter_cons_of_neg hx]
    by_cases hx':p x=true
    ·rw[List.filter_cons_of_pos hx'];simp;omega
    ·rw[List.filter_cons_of_neg hx'];exact ih
theorem roots_unite {par:List Nat}{a b:Nat}(hb:par[b]? = some b)(hab:a≠b):roots (par.set b a)<roots par:=by
 have hbl:b<par.length:=(List.getElem?_eq_some_iff.1 hb).1;unfold roots;rw[List.length_set];refine filter_len_lt (b:=b) _ (fun s _ h=>?_) (by simpa using hbl) (by simp[hb]) ?_
 ·by_cases hs:s=b
  ·subst hs;simp[hb]
  ·rw[List.getElem?_set_ne (fun e=>hs e.symm)]at h;exact h
 ·rw[List.getElem?_set_self hbl];rw[beq_eq_false_iff_ne];intro he;cases he;exact hab rfl
theorem roots_le (par:List Nat):roots par≤par.length:=by
 unfold roots;exact Nat.le_trans (List.length_filter_le _ _) (by simp)
abbrev Edg:=Nat × Nat × Nat
def Sm (par:List Nat)(u v:Nat):Prop:=∃ r,Root par u r∧Root par v r
inductive Eqv (par:List Nat) (todo:List (Nat × Nat)):Nat→Nat→Prop
 | same {u v:Nat}:Sm par u v→Eqv par todo u v
 | pair {u v:Nat}:(u,v)∈todo→Eqv par todo u v
 | symm {u v:Nat}:Eqv par todo u v→Eqv par todo v u
 | trans {u v w:Nat}:Eqv par todo u v→Eqv par todo v w→Eqv par todo u w
theorem Eqv.mono {par par':List Nat}{todo todo':List (Nat × Nat)}(h1:∀ u v,Sm par u v→Eqv par' todo' u v)(h2:∀ u v,(u,v)∈todo→Eqv par' todo' u v){u v:Nat}(h:Eqv par todo u v):Eqv par' todo' u v:=by
 induction h with
 | same h=>exact h1 _ _ h
 | pair h=>exact h2 _ _ h
 | symm _ ih=>exact ih.symm
 | trans _ _ ih1 ih2=>exact ih1.trans ih2
inductive Cg (E:List Edg):Nat→Nat→Prop
 | refl (u:Nat):Cg E u u
 | symm {u v:Nat}:Cg E u v→Cg E v u
 | trans {u v w:Nat}:Cg E u v→Cg E v w→Cg E u w
 | fold {s s' x t t':Nat}:(s,x,t)∈E→(s',x,t')∈E→Cg E s s'→Cg E t t'
theorem Cg.mono {E E':List Edg}(h:∀ e∈E,e∈E'){u v:Nat}(hc:Cg E u v):Cg E' u v:=by
 induction hc with
 | refl u=>exact .refl u
 | symm _ ih=>exact ih.symm
 | trans _ _ ih1 ih2=>exact ih1.trans ih2
 | fold h1 h2 _ ih=>exact .fold (h _ h1) (h _ h2) ih
structure Ok (st:St):Prop where
 len:st.next.length=st.par.length
 forest:∃ d,Forest st.par d
 row:∀ r∈st.next,r.length=st.m∧∀ t,some t∈r→t<st.par.length
 todo:∀ p∈st.todo,p.1<st.par.length∧p.2<st.par.length
def Ent (st:St)(i x t:Nat):Prop:=∃ row,st.next[i]? = some row∧row[x]? = some (some t)
structure Snd (E:List Edg)(st:St):Prop where
 par:∀ u v,Sm st.par u v→Cg E u v
 todo:∀ u v,(u,v)∈st.todo→Cg E u v
 ent:∀ i x t,Ent st i x t→∃ s,(s,x,t)∈E∧Cg E i s
def Done (st:St)(s x t:Nat):Prop:=∃ r t',Root st.par s r∧Ent st r x t'∧Eqv st.par st.todo t' t
def Cm (C:List Edg)(st:St):Prop:=∀ s x t,(s,x,t)∈C→Done st s x t
structure Grow (st st':St):Prop where
 m:st'.m=st.m
 len:st'.par.length=st.par.length
 root:∀ u v,Root st'.par u v↔Root st.par u v
 ent:∀ i x t,Ent st i x t→Ent st' i x t
 todo:∀ p∈st.todo,p∈st'.todo
theorem Grow.refl (st:St):Grow st st:=⟨rfl,rfl,fun _ _=>Iff.rfl,fun _ _ _ h=>h,fun _ h=>h⟩
theorem Grow.trans {a b c:St}(h:Grow a b)(k:Grow b c):Grow a c:=
 ⟨k.m.trans h.m,k.len.trans h.len,fun u v=>(k.root u v).trans (h.root u v),fun i x t e=>k.ent i x t (h.ent i x t e),fun p hp=>k.todo p (h.todo p hp)⟩
theorem Grow.eqv {st st':St}(h:Grow st st'){u v:Nat}(he:Eqv st.par st.todo u v):Eqv st'.par st'.todo u v:=
 he.mono (fun u v ⟨r,h1,h2⟩=>.same ⟨r,(h.root _ _).2 h1,(h.root _ _).2 h2⟩) fun u v hp=>.pair (h.todo _ hp)
theorem Grow.done {st st':St}(h:Grow st st'){s x t:Nat}(hd:Done st s x t):Done st' s x t:=by
 obtain⟨r,t',h1,h2,h3⟩:=hd;exact⟨r,t',(h.root _ _).2 h1,h.ent _ _ _ h2,h.eqv h3⟩
theorem Grow.roots {st st':St}(h:Grow st st'):roots st'.par=roots st.par:=roots_same h.len h.root
theorem lead_ev {st:St}(hok:Ok st){s x t:Nat}(hs:s<st.par.length)(hx:x<st.m)(ht:t<st.par.length)(hb:st.todo.length<big) :
  ∃ st',Ev (fun K=>leadF K st s x t) st'∧Ok st'∧Grow st st'∧st'.todo.length≤st.todo.length+1∧Done st' s x t∧(∀ i,¬ Root st.par i i→st'.next[i]? = st.next[i]?) ∧
   ∀ E,Snd E st→(∃ s',(s',x,t)∈E∧Cg E s s')→Snd E st':=by
 obtain⟨d,hf⟩:=hok.forest;obtain⟨par',r,k1,k2,k3,k4,k5⟩:=find_ev (d s) s st.par (Nat.le_refl _) hf hs;have hr:r<st.next.length:=by rw[hok.len];exact k2.lt
 have hrow:st.next[r]? = some st.next[r]:=List.getElem?_eq_getElem hr;have hmem:=hok.row _ (List.getElem_mem hr);generalize hR:st.next[r]=row at *;have hxl:x<row.length:=by omega
 have hxe:row[x]? = some row[x]:=List.getElem?_eq_getElem hxl;have hsm:∀ u v,Sm par' u v↔Sm st.par u v:=fun u v=>⟨fun⟨q,a,b⟩=>⟨q,(k5 _ _).1 a,(k5 _ _).1 b⟩,fun⟨q,a,b⟩=>⟨q,(k5 _ _).2 a,(k5 _ _).2 b⟩⟩
 cases ho:row[x] with
 | none=>
  refine⟨{ st with par:=par',next:=st.next.set r (row.set x (some t)) },⟨d s+1,fun K hK=>?_⟩,?_,?_,Nat.le_succ _,?_,fun i hi=>?_,fun E hS hE=>?_⟩
  ·show leadF K st s x t=_
   unfold leadF;rw[k1 K (by omega)]
   simp only[hrow,hxe,ho]
  ·refine⟨by show(st.next.set _ _).length=par'.length;rw[List.length_set,k4,hok.len],⟨d,k3⟩,fun q hq=>?_,fun p hp=>by show p.1<par'.length∧p.2<par'.length;rw[k4];exact hok.todo p hp⟩
   show q.length=st.m∧∀ t,some t∈q→t<par'.length
   rw[k4];rcases List.mem_or_eq_of_mem_set hq with hq|rfl
   ·exact hok.row q hq
   ·refine⟨by rw[List.length_set];exact hmem.1,fun u hu=>?_⟩
    rcases List.mem_or_eq_of_mem_set hu with hu|hu
    ·exact hmem.2 u hu
    ·cases hu;exact ht
  ·refine⟨rfl,k4,k5,fun i y u ⟨q,h1,h2⟩=>?_,fun p hp=>hp⟩
   by_cases hir:i=r
   ·subst hir;rw[hrow]at h1;cases h1;refine⟨row.set x (some t),List.getElem?_set_self hr,?_⟩
    by_cases hy:y=x
    ·subst hy;rw[hxe,ho]at h2;cases h2
    ·rw[List.getElem?_set_ne (fun e=>hy e.symm)];exact h2
   ·exact⟨q,by show(st.next.set r _)[i]? = _;rw[List.getElem?_set_ne (fun e=>hir e.symm)];exact h1,h2⟩
  ·exact⟨r,t,(k5 _ _).2 k2,⟨_,List.getElem?_set_self hr,List.getElem?_set_self hxl⟩,.same (by
    obtain⟨q,hq⟩:=hf.root _ t (Nat.le_refl _) ht;exact⟨q,(k5 _ _).2 hq,(k5 _ _).2 hq⟩)⟩
  ·show(st.next.set r _)[i]? = _
   exact List.getElem?_set_ne (fun e=>hi (by rw[← e];exact k2.self))
  ·refine⟨fun u v h=>hS.par u v ((hsm u v).1 h),hS.todo,fun i y u ⟨q,h1,h2⟩=>?_⟩
   have h1:(st.next.set r (row.set x (some t)))[i]? = some q:=h1
   by_cases hir:i=r
   ·subst hir;rw[List.getElem?_set_self hr]at h1;cases h1
    by_cases hy:y=x
    ·subst hy;rw[List.getElem?_set_self hxl]at h2;cases h2;obtain⟨s',e1,e2⟩:=hE;exact⟨s',e1,(hS.par _ _ ⟨i,k2.self,k2⟩).trans e2⟩
    ·rw[List.getElem?_set_ne (fun e=>hy e.symm)]at h2
     exact hS.ent i y u ⟨row,hrow,h2⟩
   ·rw[List.getElem?_set_ne (fun e=>hir e.symm)]at h1
    exact hS.ent i y u ⟨q,h1,h2⟩
 | some u=>
  have hu:u<st.par.length:=hmem.2 u (by rw[← ho];exact List.getElem_mem hxl)
  refine⟨{ st with par:=par',todo:=st.todo ++ [(u,t)] },⟨d s+1,fun K hK=>?_⟩,?_,?_,by simp,?_,fun i hi=>rfl,fun E hS hE=>?_⟩
  ·show leadF K st s x t=_
   unfold leadF;rw[k1 K (by omega)]
   simp only[hrow,hxe,ho];rw[if_pos hb]
  ·refine⟨by show st.next.length=par'.length;rw[k4,hok.len],⟨d,k3⟩,fun q hq=>by show q.length=st.m∧∀ t,some t∈q→t<par'.length;rw[k4];exact hok.row q hq,fun p hp=>?_⟩
   show p.1<par'.length∧p.2<par'.length
   rw[k4];rcases List.mem_append.1 hp with hp|hp
   ·exact hok.todo p hp
   ·simp only[List.mem_singleton]at hp;subst hp;exact⟨hu,ht⟩
  ·exact⟨rfl,k4,k5,fun i y v h=>h,fun p hp=>List.mem_append_left _ hp⟩
  ·exact⟨r,u,(k5 _ _).2 k2,⟨row,hrow,by rw[hxe,ho]⟩,.pair (List.mem_append_right _ (by simp))⟩
  ·refine⟨fun u v h=>hS.par u v ((hsm u v).1 h),fun v v' hp=>?_,fun i y v h=>hS.ent i y v h⟩
   rcases List.mem_append.1 hp with hp|hp
   ·exact hS.todo v v' hp
   ·simp only[List.mem_singleton,Prod.mk.injEq]at hp;obtain⟨rfl,rfl⟩:=hp;obtain⟨s1,e1,e2⟩:=hS.ent r x v ⟨row,hrow,by rw[hxe,ho]⟩
    obtain⟨s2,e3,e4⟩:=hE;exact .fold e1 e3 ((e2.symm.trans (hS.par _ _ ⟨r,k2.self,k2⟩)).trans e4)
theorem spill_ev:∀ (n:Nat)(st:St)(a b y:Nat)(rowb:Row),Ok st→a<st.par.length→¬ Root st.par b b→st.next[b]? = some rowb→y+n=st.m→st.todo.length+n<big →
  ∃ st',Ev (fun K=>spillF K n st a b y) st'∧Ok st'∧Grow st st'∧st'.todo.length≤st.todo.length+n∧(∀ x t,y≤x→rowb[x]? = some (some t)→Done st' a x t)∧∀ E,Snd E st→Cg E a b→Snd E st'
 | 0,st,a,b,y,rowb,hok,ha,hb,hrb,hy,hbig=>by
  refine⟨st,⟨0,fun _ _=>rfl⟩,hok,Grow.refl st,Nat.le_refl _,fun x t hx hxt=>?_,fun E hS _=>hS⟩
  have:=(hok.row rowb (List.mem_of_getElem? hrb)).1;have:=(List.getElem?_eq_some_iff.1 hxt).1;omega
 | n+1,st,a,b,y,rowb,hok,ha,hb,hrb,hy,hbig=>by
  have hm:=hok.row rowb (List.mem_of_getElem? hrb);have hyl:y<rowb.length:=by omega
  have hye:rowb[y]? = some rowb[y]:=List.getElem?_eq_getElem hyl;cases ho:rowb[y] with
  | none=>
   obtain⟨st',⟨K0,h1⟩,h2,h3,h4,h5,h6⟩:=spill_ev n st a b (y+1) rowb hok ha hb hrb (by omega) (by omega)
   refine⟨st',⟨K0,fun K hK=>?_⟩,h2,h3,by omega,fun x t hx hxt=>?_,h6⟩
   ·show spillF K (n+1) st a b y=_
    simp only[spillF,hrb,Option.bind_some,hye,ho];exact h1 K hK
   ·by_cases hxy:x=y
    ·subst hxy;rw[hye,ho]at hxt;cases hxt
    ·exact h5 x t (by omega) hxt
  | some t=>
   have ht:=hm.2 t (by rw[← ho];exact List.getElem_mem hyl)
   obtain⟨st1,⟨K1,a1⟩,a2,a3,a4,a5,a6,a7⟩:=lead_ev hok (s:=a) (x:=y) (t:=t) ha (by omega) ht (by omega)
   obtain⟨st',⟨K0,h1⟩,h2,h3,h4,h5,h6⟩:=spill_ev n st1 a b (y+1) rowb a2 (by rw[a3.len];exact ha) (fun h=>hb ((a3.root _ _).1 h)) (by rw[a6 b hb];exact hrb) (by rw[a3.m];omega) (by omega)
   refine⟨st',⟨max K0 K1,fun K hK=>?_⟩,h2,a3.trans h3,by omega,fun x u hx hxt=>?_,fun E hS hE=>h6 E (a7 E hS ?_) hE⟩
   ·show spillF K (n+1) st a b y=_
    simp only[spillF,hrb,Option.bind_some,hye,ho];rw[show leadF K st a y t=some st1 from a1 K (by omega)]
    exact h1 K (by omega)
   ·by_cases hxy:x=y
    ·subst hxy;rw[hye,ho]at hxt;cases hxt;exact h3.done a5
    ·exact h5 x u (by omega) hxt
   ·obtain⟨s',e1,e2⟩:=hS.ent b y t ⟨rowb,hrb,by rw[hye,ho]⟩
    exact⟨s',e1,hE.trans e2⟩
def mu (st:St):Nat:=roots st.par*(st.m+1)+st.todo.length
theorem fold_ev:∀ (N:Nat)(st:St),mu st≤N→N+st.m<big→Ok st →
  ∃ st' K0,(∀ K k,K0≤K→N<k→foldF K k st=some st')∧Ok st'∧st'.todo=[]∧st'.m=st.m∧st'.par.length=st.par.length∧(∀ C,Cm C st→Cm C st')∧∀ E,Snd E st→Snd E st':=by
 intro N;induction N with
 | zero=>
  intro st hmu hbig hok;have ht:st.todo=[]:=by
   unfold mu at hmu;exact List.eq_nil_of_length_eq_zero (by omega)
  refine⟨st,0,fun K k _ hk=>?_,hok,ht,rfl,rfl,fun _ h=>h,fun _ h=>h⟩
  obtain⟨k,rfl⟩:∃ m,k=m+1:=⟨k-1,by omega⟩
  simp only[foldF,ht,List.getLast?_nil]
 | succ N ih=>
  intro st hmu hbig hok;rcases List.eq_nil_or_concat st.todo with ht|⟨td,⟨u,v⟩,ht⟩
  ·refine⟨st,0,fun K k _ hk=>?_,hok,ht,rfl,rfl,fun _ h=>h,fun _ h=>h⟩
   obtain⟨k,rfl⟩:∃ m,k=m+1:=⟨k-1,by omega⟩
   simp only[foldF,ht,List.getLast?_nil]
  ·rw[List.concat_eq_append]at ht;have hlast:st.todo.getLast? = some (u,v):=by rw[ht];simp
   have hdl:st.todo.dropLast=td:=by rw[ht];simp
   have hlen:st.todo.length=td.length+1:=by rw[ht];simp
   obtain⟨hu,hv⟩:=hok.todo (u,v) (by rw[ht];simp)
   dsimp only at hu hv;obtain⟨d,hf⟩:=hok.forest;obtain⟨par1,a,k1,k2,k3,k4,k5⟩:=find_ev (d u) u st.par (Nat.le_refl _) hf hu;obtain⟨par2,b,l1,l2,l3,l4,l5⟩:=find_ev (d v) v par1 (Nat.le_refl _) k3 (by rw[k4];exact hv)
   have hroot2:∀ p q,Root par2 p q↔Root st.par p q:=fun p q=>(l5 p q).trans (k5 p q)
   have hlen2:par2.length=st.par.length:=l4.trans k4;have l2':Root st.par v b:=(k5 _ _).1 l2;have hsm2:∀ p q,Sm st.par p q↔Sm par2 p q:=fun p q=>⟨fun⟨r,e1,e2⟩=>⟨r,(hroot2 _ _).2 e1,(hroot2 _ _).2 e2⟩,fun⟨r,e1,e2⟩=>⟨r,(hroot2 _ _).1 e1,(hroot2 _ _).1 e2⟩⟩
   have hroots2:roots par2=roots st.par:=roots_same hlen2 hroot2;have htodo:∀ p∈td,p∈st.todo:=fun p hp=>by rw[ht];exact List.mem_append_left _ hp
   unfold mu at hmu
   by_cases hab:a=b
   ·subst hab;obtain⟨st',K0,r1,r2,r3,r4,r5,r6,r7⟩:=ih { st with par:=par2,todo:=td } (by unfold mu;dsimp only;rw[hroots2];omega) (by show N+st.m<big;omega)
     ⟨by show st.next.length=par2.length;rw[hlen2,hok.len],⟨d,l3⟩,fun q hq=>by show q.length=st.m∧∀ t,some t∈q→t<par2.length;rw[hlen2];exact hok.row q hq,fun p hp=>by show p.1<par2.length∧p.2<par2.length;rw[hlen2];exact hok.todo p (htodo p hp)⟩
    refine⟨st',K0+d u+d v+1,fun K k hK hk=>?_,r2,r3,r4,r5.trans hlen2,fun C hC=>r6 C fun s x t he=>?_,fun E hS=>r7 E ⟨fun p q h=>hS.par p q ((hsm2 _ _).2 h),fun p q h=>hS.todo p q (htodo _ h),fun i x t h=>hS.ent i x t h⟩⟩
    ·obtain⟨k,rfl⟩:∃ m,k=m+1:=⟨k-1,by omega⟩
     simp only[foldF,hlast];rw[k1 K (by omega)]
     simp only;rw[l1 K (by omega)]
     simp only[if_true,hdl];exact r1 K k (by omega) (by omega)
    ·obtain⟨r,t',e1,e2,e3⟩:=hC s x t he;refine⟨r,t',(hroot2 _ _).2 e1,e2,e3.mono (fun p q h=>.same ((hsm2 _ _).1 h)) fun p q h=>?_⟩
     rw[ht]at h;rcases List.mem_append.1 h with h|h
     ·exact .pair h
     ·simp only[List.mem_singleton,Prod.mk.injEq]at h;obtain⟨rfl,rfl⟩:=h;exact .same ⟨a,(hroot2 _ _).2 k2,(hroot2 _ _).2 l2'⟩
   ·have ha2:par2[a]? = some a:=((hroot2 _ _).2 k2.self).isRoot;have hb2:par2[b]? = some b:=((hroot2 _ _).2 l2'.self).isRoot;obtain⟨⟨d3,hf3⟩,hroot3⟩:=unite l3 ha2 hb2 hab;have hal:a<st.par.length:=k2.lt;have hbl:b<st.par.length:=l2'.lt;have hrb:st.next[b]? = some (st.next[b]'(by rw[hok.len];exact hbl)):=List.getElem?_eq_getElem _
    have hnb:¬ Root (par2.set b a) b b:=fun h=>by
     rcases(hroot3 _ _).1 h with ⟨_,h2⟩|⟨_,h2⟩
     ·exact h2 rfl
     ·exact hab h2.symm
    have hok2:Ok { st with par:=par2.set b a,todo:=td }:=
     ⟨by show st.next.length=(par2.set b a).length;rw[List.length_set,hlen2,hok.len],⟨d3,hf3⟩,fun q hq=>by show q.length=st.m∧∀ t,some t∈q→t<(par2.set b a).length;rw[List.length_set,hlen2];exact hok.row q hq,fun p hp=>by show p.1<(par2.set b a).length∧p.2<(par2.set b a).length;rw[List.length_set,hlen2];exact hok.todo p (htodo p hp)⟩
    have hrless:roots (par2.set b a)<roots st.par:=by rw[← hroots2];exact roots_unite hb2 hab
    have hmul:roots (par2.set b a)*(st.m+1)+(st.m+1)≤roots st.par*(st.m+1):=by
     rw[← Nat.succ_mul];exact Nat.mul_le_mul_right _ hrless
    obtain⟨st3,⟨K3,s1⟩,s2,s3,s4,s5,s6⟩:=spill_ev st.m { st with par:=par2.set b a,todo:=td } a b 0 _ hok2 (by show a<(par2.set b a).length;rw[List.length_set,hlen2];exact hal) hnb hrb (by simp) (by show td.length+st.m<big;omega)
    have s4:st3.todo.length≤td.length+st.m:=s4;have hr3:roots st3.par=roots (par2.set b a):=s3.roots;have hm3:st3.m=st.m:=s3.m;obtain⟨st',K0,r1,r2,r3,r4,r5,r6,r7⟩:=ih st3 (by unfold mu;rw[hr3,hm3];omega) (by rw[hm3];omega) s2
    have hsm3:∀ p q,Sm st.par p q→Sm (par2.set b a) p q:=fun p q ⟨r,e1,e2⟩=>by
     by_cases hr:r=b
     ·subst hr;exact⟨a,(hroot3 _ _).2 (.inr ⟨(hroot2 _ _).2 e1,rfl⟩),(hroot3 _ _).2 (.inr ⟨(hroot2 _ _).2 e2,rfl⟩)⟩
     ·exact⟨r,(hroot3 _ _).2 (.inl ⟨(hroot2 _ _).2 e1,hr⟩),(hroot3 _ _).2 (.inl ⟨(hroot2 _ _).2 e2,hr⟩)⟩
    have huv:Sm (par2.set b a) u v:=⟨a,(hroot3 _ _).2 (.inl ⟨(hroot2 _ _).2 k2,hab⟩),(hroot3 _ _).2 (.inr ⟨(hroot2 _ _).2 l2',rfl⟩)⟩;have hsm3':∀ p q,Sm (par2.set b a) p q→Sm st3.par p q:=fun p q ⟨r,e1,e2⟩=>⟨r,(s3.root _ _).2 e1,(s3.root _ _).2 e2⟩
    have heqv:∀ p q,Eqv st.par st.todo p q→Eqv st3.par st3.todo p q:=fun p q h=>h.mono (fun p q h=>.same (hsm3' _ _ (hsm3 _ _ h))) fun p q h=>by
     rw[ht]at h;rcases List.mem_append.1 h with h|h
     ·exact .pair (s3.todo _ h)
     ·simp only[List.mem_singleton,Prod.mk.injEq]at h;obtain⟨rfl,rfl⟩:=h;exact .same (hsm3' _ _ huv)
    refine⟨st',K0+K3+d u+d v+1,fun K k hK hk=>?_,r2,r3,r4.trans hm3,r5.trans (s3.len.trans (by show(par2.set b a).length=_;rw[List.length_set,hlen2])),fun C hC=>r6 C fun s x t he=>?_,fun E hS=>r7 E (s6 E ⟨fun p q ⟨r,e1,e2⟩=>?_,fun p q h=>hS.todo p q (htodo _ h),fun i x t h=>hS.ent i x t h⟩ ?_)⟩
    ·obtain⟨k,rfl⟩:∃ m,k=m+1:=⟨k-1,by omega⟩
     simp only[foldF,hlast];rw[k1 K (by omega)]
     simp only;rw[l1 K (by omega)]
     simp only[if_neg hab,hb2,hrb,hdl];rw[show spillF K st.m { st with par:=par2.set b a,todo:=td } a b 0=some st3 from s1 K (by omega)]
     exact r1 K k (by omega) (by omega)
    ·obtain⟨r,t',e1,e2,e3⟩:=hC s x t he
     by_cases hr:r=b
     ·subst hr;obtain⟨row,q1,q2⟩:=e2;rw[hrb]at q1;cases q1;obtain⟨r',t'',f1,f2,f3⟩:=s5 x t' (Nat.zero_le _) q2;have hra:Root st3.par s a:=(s3.root _ _).2 ((hroot3 _ _).2 (.inr ⟨(hroot2 _ _).2 e1,rfl⟩));have:r'=a:=f1.unique hra.self;subst this;exact⟨r',t'',hra,f2,f3.trans (heqv _ _ e3)⟩
     ·exact⟨r,t',(s3.root _ _).2 ((hroot3 _ _).2 (.inl ⟨(hroot2 _ _).2 e1,hr⟩)),s3.ent r x t' e2,heqv _ _ e3⟩
    ·have hcab:Cg E a b:=((hS.par _ _ ⟨a,k2.self,k2⟩).trans (hS.todo u v (by rw[ht];simp))).trans (hS.par _ _ ⟨b,l2',l2'.self⟩)
     rcases(hroot3 _ _).1 e1 with ⟨f1,f2⟩|⟨f1,f2⟩ <;> rcases(hroot3 _ _).1 e2 with ⟨g1,g2⟩|⟨g1,g2⟩
     ·exact hS.par _ _ ⟨r,(hroot2 _ _).1 f1,(hroot2 _ _).1 g1⟩
     ·subst g2;exact((hS.par p r ⟨r,(hroot2 _ _).1 f1,k2.self⟩).trans hcab).trans (hS.par b q ⟨b,l2'.self,(hroot2 _ _).1 g1⟩)
     ·subst f2;exact((hS.par p b ⟨b,(hroot2 _ _).1 f1,l2'.self⟩).trans hcab.symm).trans (hS.par r q ⟨r,k2.self,(hroot2 _ _).1 g1⟩)
     ·exact hS.par _ _ ⟨b,(hroot2 _ _).1 f1,(hroot2 _ _).1 g1⟩
    ·exact((hS.par _ _ ⟨a,k2.self,k2⟩).trans (hS.todo u v (by rw[ht];simp))).trans (hS.par _ _ ⟨b,l2',l2'.self⟩)
structure Inv (E:List Edg)(st:St):Prop where
 ok:Ok st
 todo:st.todo=[]
 snd:Snd E st
 cm:Cm E st
theorem link_ev {E:List Edg}{st:St}(h:Inv E st){s x t:Nat}(hs:s<st.par.length)(ht:t<st.par.length)(hx:x<st.m)(hx1:x ^^^ 1<st.m)(hb:st.par.length*(st.m+1)+2+st.m<big) :
  ∃ st',Ev (fun K=>linkF K st s x t) st'∧Inv ((s,x,t) :: (t,x ^^^ 1,s) :: E) st'∧st'.m=st.m∧st'.par.length=st.par.length:=by
 have hrl:=roots_le st.par;have hmul:roots st.par*(st.m+1)≤st.par.length*(st.m+1):=Nat.mul_le_mul_right _ hrl;obtain⟨st1,⟨K1,a1⟩,a2,a3,a4,a5,_,a7⟩:=lead_ev h.ok hs hx ht (by rw[h.todo];simp;omega)
 rw[h.todo]at a4;simp only[List.length_nil]at a4;obtain⟨st2,⟨K2,b1⟩,b2,b3,b4,b5,_,b7⟩:=lead_ev a2 (s:=t) (x:=x ^^^ 1) (t:=s) (by rw[a3.len];exact ht) (by rw[a3.m];exact hx1) (by rw[a3.len];exact hs) (by omega)
 have hg:=a3.trans b3;have hmu:mu st2≤st.par.length*(st.m+1)+2:=by
  unfold mu;rw[hg.roots,hg.m];omega
 obtain⟨st',K0,r1,r2,r3,r4,r5,r6,r7⟩:=fold_ev (st.par.length*(st.m+1)+2) st2 hmu (by rw[hg.m];omega) b2
 have hsub:∀ e∈E,e∈(s,x,t) :: (t,x ^^^ 1,s) :: E:=fun e he=>by simp[he]
 have hS0:Snd ((s,x,t) :: (t,x ^^^ 1,s) :: E) st:=⟨fun u v hh=>(h.snd.par u v hh).mono hsub,fun u v hh=>(h.snd.todo u v hh).mono hsub,fun i y u hh=>by
  obtain⟨s',e1,e2⟩:=h.snd.ent i y u hh;exact⟨s',hsub _ e1,e2.mono hsub⟩⟩
 refine⟨st',⟨K0+K1+K2+(st.par.length*(st.m+1)+2)+1,fun K hK=>?_⟩,⟨r2,r3,?_,?_⟩,r4.trans hg.m,r5.trans hg.len⟩
 ·show linkF K st s x t=_
  unfold linkF;rw[show leadF K st s x t=some st1 from a1 K (by omega)]
  simp only;rw[show leadF K st1 t (x ^^^ 1) s=some st2 from b1 K (by omega)]
  exact r1 K K (by omega) (by omega)
 ·exact r7 _ (b7 _ (a7 _ hS0 ⟨s,by simp,.refl s⟩) ⟨t,by simp,.refl t⟩)
 ·refine r6 _ fun p y q he=>?_
  rcases List.mem_cons.1 he with he|he
  ·simp only[Prod.mk.injEq]at he;obtain⟨rfl,rfl,rfl⟩:=he;exact b3.done a5
  ·rcases List.mem_cons.1 he with he|he
   ·simp only[Prod.mk.injEq]at he;obtain⟨rfl,rfl,rfl⟩:=he;exact b5
   ·exact hg.done (h.cm p y q he)
end Go.Proofs.YtffdjfkekdoeaaaDoor.Pl
end
section
namespace Go.Proofs.YtffdjfkekdoeaaaDoor.Pl
open Fo
theorem Inv.congr {E E':List Edg}{st:St}(h:Inv E st)(he:∀ e,e∈E↔e∈E'):Inv E' st:=by
 have m1:∀ e∈E,e∈E':=fun e h=>(he e).1 h
 exact⟨h.ok,h.todo,⟨fun u v hh=>(h.snd.par u v hh).mono m1,fun u v hh=>(h.snd.todo u v hh).mono m1,fun i x t hh=>by
  obtain⟨s,e1,e2⟩:=h.snd.ent i x t hh;exact⟨s,m1 _ e1,e2.mono m1⟩⟩,fun s x t hh=>h.cm s x t ((he _).2 hh)⟩
theorem Root.lt_left {par:List Nat}{s r:Nat}(h:Root par s r):s<par.length:=by
 cases h with
 | base h=>exact(List.getElem?_eq_some_iff.1 h).1
 | step h _ _=>exact(List.getElem?_eq_some_iff.1 h).1
theorem root_app {par:List Nat}{d:Nat→Nat}(hf:Forest par d){u v:Nat}:Root (par ++ [par.length]) u v↔Root par u v∨(u=par.length∧v=par.length):=by
 have hn:(par ++ [par.length])[par.length]? = some par.length:=by simp
 constructor
 ·intro h;induction h with
  | base h=>
   rename_i s
   by_cases hs:s<par.length
   ·rw[List.getElem?_append_left hs]at h;exact .inl (.base h)
   ·have:=(List.getElem?_eq_some_iff.1 h).1;simp at this;exact .inr ⟨by omega,by omega⟩
  | step h1 h2 h3 ih=>
   rename_i s p r
   by_cases hs:s<par.length
   ·rw[List.getElem?_append_left hs]at h1;rcases ih with ih|⟨ih,ih'⟩
    ·exact .inl (.step h1 h2 ih)
    ·obtain⟨q,q1,q2,_⟩:=hf.at' s hs;rw[h1]at q1;cases q1;omega
   ·have:=(List.getElem?_eq_some_iff.1 h1).1;simp at this;obtain rfl:s=par.length:=by omega
    rw[hn]at h1;cases h1;exact absurd rfl h2
 ·rintro(h|⟨rfl,rfl⟩)
  ·induction h with
   | base h=>exact .base (by rw[List.getElem?_append_left (List.getElem?_eq_some_iff.1 h).1];exact h)
   | step h1 h2 _ ih=>exact .step (by rw[List.getElem?_append_left (List.getElem?_eq_some_iff.1 h1).1];exact h1) h2 ih
  ·exact .base hn
theorem state_ev {E:List Edg}{st:St}(h:Inv E st)(hb:st.par.length<big) :
  ∃ st',stateF st=some st'∧Inv E st'∧st'.m=st.m∧st'.par.length=st.par.length+1:=by
 obtain⟨d,hf⟩:=h.ok.forest;have hroot:=fun u v=>root_app hf (u:=u) (v:=v)
 have hsm:∀ u v,Sm (st.par ++ [st.par.length]) u v→Sm st.par u v∨u=v:=fun u v ⟨r,h1,h2⟩=>by
  rcases(hroot _ _).1 h1 with h1|⟨h1,h1'⟩ <;> rcases(hroot _ _).1 h2 with h2|⟨h2,h2'⟩
  ·exact .inl ⟨r,h1,h2⟩
  ·have:=h1.lt;omega
  ·have:=h2.lt;omega
  ·exact .inr (by omega)
 have hent:∀ i x t,Ent { st with par:=st.par ++ [st.par.length],next:=st.next ++ [List.replicate st.m none] } i x t↔Ent st i x t:=fun i x t=>by
  constructor
  ·rintro⟨row,h1,h2⟩
   have h1:(st.next ++ [List.replicate st.m none])[i]? = some row:=h1
   by_cases hi:i<st.next.length
   ·rw[List.getElem?_append_left hi]at h1;exact⟨row,h1,h2⟩
   ·rw[List.getElem?_append_right (by omega)]at h1
    cases hk:i-st.next.length with
    | zero=>
     rw[hk]at h1;simp only[List.getElem?_cons_zero,Option.some.injEq]at h1;subst h1;rw[List.getElem?_replicate]at h2;split at h2 <;> cases h2
    | succ n=>rw[hk]at h1;simp at h1
  ·rintro⟨row,h1,h2⟩
   exact⟨row,by show(st.next ++ [_])[i]? = _;rw[List.getElem?_append_left (List.getElem?_eq_some_iff.1 h1).1];exact h1,h2⟩
 refine⟨{ st with par:=st.par ++ [st.par.length],next:=st.next ++ [List.replicate st.m none] },?_,⟨⟨?_,⟨d,⟨fun s hs=>?_⟩⟩,fun r hr=>?_,fun p hp=>?_⟩,h.todo,⟨fun u v hh=>?_,h.snd.todo,fun i x t hh=>h.snd.ent i x t ((hent i x t).1 hh)⟩,fun s x t he=>?_⟩,rfl,by simp⟩
 ·unfold stateF;rw[if_pos ⟨hb,by rw[h.ok.len];exact hb⟩]
 ·simp[h.ok.len]
 ·have hs:s<(st.par ++ [st.par.length]).length:=hs
  show ∃ p,(st.par ++ [st.par.length])[s]? = some p∧p<(st.par ++ [st.par.length]).length∧_
  simp only[List.length_append,List.length_singleton]at hs ⊢
  by_cases hl:s<st.par.length
  ·obtain⟨p,h1,h2,h3⟩:=hf.at' s hl;exact⟨p,by rw[List.getElem?_append_left hl];exact h1,by omega,h3⟩
  ·obtain rfl:s=st.par.length:=by omega
   exact⟨st.par.length,by simp,by omega,fun hh=>absurd rfl hh⟩
 ·show r.length=st.m∧∀ t,some t∈r→t<(st.par ++ [st.par.length]).length
  rcases List.mem_append.1 hr with hr|hr
  ·have:=h.ok.row r hr;exact⟨this.1,fun t ht=>by have:=this.2 t ht;simp;omega⟩
  ·simp only[List.mem_singleton]at hr;subst hr;exact⟨by simp,fun t ht=>by have:=List.eq_of_mem_replicate ht;cases this⟩
 ·have hp:p∈st.todo:=hp;rw[h.todo]at hp;simp at hp
 ·rcases hsm u v hh with hh|rfl
  ·exact h.snd.par u v hh
  ·exact .refl u
 ·obtain⟨r,t',h1,h2,h3⟩:=h.cm s x t he;exact⟨r,t',(hroot _ _).2 (.inl h1),(hent _ _ _).2 h2,h3.mono (fun u v ⟨q,a,b⟩=>.same ⟨q,(hroot _ _).2 (.inl a),(hroot _ _).2 (.inl b)⟩) fun u v hp=>.pair hp⟩
def pathE:Nat→Nat→List Nat→Nat→List Edg
 | _,_,[],_=>[]
 | _,s,[x],t=>[(s,x,t),(t,x ^^^ 1,s)]
 | n,s,x :: y :: l,t=>(s,x,n) :: (n,x ^^^ 1,s) :: pathE (n+1) n (y :: l) t
theorem path_ev:∀ (w:List Nat)(E:List Edg)(st:St)(s t:Nat),Inv E st→s<st.par.length→t<st.par.length→(∀ x∈w,x<st.m∧x ^^^ 1<st.m)→(st.par.length+w.length)*(st.m+1)+2+st.m<big →
  ∃ st',Ev (fun K=>pathF K st s w t) st'∧Inv (pathE st.par.length s w t ++ E) st'∧st'.m=st.m∧st'.par.length=st.par.length+(w.length-1)
 | [],E,st,s,t,h,hs,ht,hw,hb=>⟨st,⟨0,fun _ _=>by simp[pathF]⟩,h,rfl,rfl⟩
 | [x],E,st,s,t,h,hs,ht,hw,hb=>by
  have hx:=hw x (by simp)
  have hle:st.par.length*(st.m+1)≤(st.par.length+[x].length)*(st.m+1):=Nat.mul_le_mul_right _ (by simp)
  obtain⟨st',⟨K0,h1⟩,h2,h3,h4⟩:=link_ev h hs ht hx.1 hx.2 (by omega)
  exact⟨st',⟨K0,fun K hK=>by show pathF K st s [x] t=_;simp only[pathF];exact h1 K hK⟩,h2,h3,by rw[h4];rfl⟩
 | x :: y :: l,E,st,s,t,h,hs,ht,hw,hb=>by
  have hx:=hw x (by simp)
  have hlen:(x :: y :: l).length=l.length+2:=by simp
  have hle:(st.par.length+1)*(st.m+1)≤(st.par.length+(x :: y :: l).length)*(st.m+1):=Nat.mul_le_mul_right _ (by omega)
  have hbig:st.par.length<big:=by
   have:st.par.length+1≤(st.par.length+1)*(st.m+1):=Nat.le_mul_of_pos_right _ (by omega)
   omega
  obtain⟨st1,a1,a2,a3,a4⟩:=state_ev h hbig;obtain⟨st2,⟨K2,b1⟩,b2,b3,b4⟩:=link_ev a2 (s:=s) (x:=x) (t:=st.par.length) (by omega) (by omega) (by rw[a3];exact hx.1) (by rw[a3];exact hx.2) (by rw[a4,a3];omega)
  have hn2:st2.par.length=st.par.length+1:=by rw[b4,a4]
  have hm2:st2.m=st.m:=by rw[b3,a3]
  obtain⟨st3,⟨K3,c1⟩,c2,c3,c4⟩:=path_ev (y :: l) _ st2 st.par.length t b2 (by omega) (by omega) (fun z hz=>by rw[hm2];exact hw z (by simp[List.mem_cons.1 hz])) (by
   rw[hn2,hm2];have:(st.par.length+1+(y :: l).length)=st.par.length+(x :: y :: l).length:=by simp;omega
   rw[this];exact hb)
  refine⟨st3,⟨max K2 K3,fun K hK=>?_⟩,c2.congr fun e=>?_,c3.trans hm2,by rw[c4,hn2];simp;omega⟩
  ·show pathF K st s (x :: y :: l) t=_
   simp only[pathF,a1];rw[show linkF K st1 s x st.par.length=some st2 from b1 K (by omega)]
   exact c1 K (by omega)
  ·rw[hn2];simp only[pathE,List.mem_append,List.mem_cons];constructor
   ·rintro(h|h|h|h)
    ·exact .inl (.inr (.inr h))
    ·exact .inl (.inl h)
    ·exact .inl (.inr (.inl h))
    ·exact .inr h
   ·rintro((h|h|h)|h)
    ·exact .inr (.inl h)
    ·exact .inr (.inr (.inl h))
    ·exact .inl h
    ·exact .inr (.inr (.inr h))
theorem start_inv (m:Nat):Inv [] (start0 m) where
 ok:=⟨rfl,⟨fun _=>0,⟨fun s hs=>by
  have:s=0:=by have hs:s<1:=hs;omega
  subst this;exact⟨0,rfl,Nat.zero_lt_one,fun h=>absurd rfl h⟩⟩⟩,fun r hr=>by
   have hr:r=List.replicate m none:=by simpa[start0] using hr
   subst hr;exact⟨by simp[start0],fun t ht=>by have:=List.eq_of_mem_replicate ht;cases this⟩,fun p hp=>by simp[start0]at hp⟩
 todo:=rfl
 snd:=⟨fun u v ⟨r,h1,h2⟩=>by
  have e1:u=0:=by have:=h1.lt_left;have:u<1:=this;omega
  have e2:v=0:=by have:=h2.lt_left;have:v<1:=this;omega
  subst e1;subst e2;exact .refl 0,fun u v h=>by simp[start0]at h,fun i x t ⟨row,h1,h2⟩=>by
   have hm:=List.mem_of_getElem? h1;have hr:row=List.replicate m none:=by simpa[start0] using hm
   subst hr;have:=List.eq_of_mem_replicate (List.mem_of_getElem? h2);cases this⟩
 cm:=fun s x t h=>by simp at h
open Classical in
noncomputable def rt (par:List Nat) (u:Nat):Nat:=if h:∃ r,Root par u r then Classical.choose h else u
theorem rt_spec {par:List Nat}{u r:Nat}(h:Root par u r):rt par u=r:=by
 unfold rt;have hx:∃ r,Root par u r:=⟨r,h⟩;rw[dif_pos hx];exact(Classical.choose_spec hx).unique h
theorem rt_congr {par par':List Nat}(h:∀ u v,Root par' u v↔Root par u v)(u:Nat):rt par' u=rt par u:=by
 by_cases hx:∃ r,Root par u r
 ·obtain⟨r,hr⟩:=hx;rw[rt_spec hr,rt_spec ((h _ _).2 hr)]
 ·have hx':¬ ∃ r,Root par' u r:=fun⟨r,hr⟩=>hx ⟨r,(h _ _).1 hr⟩
  unfold rt;rw[dif_neg hx,dif_neg hx']
theorem reps_ev {d:Nat→Nat}:∀ (row:Row)(par:List Nat),Forest par d→(∀ t,some t∈row→t<par.length) →
  ∃ par',Ev (fun K=>repsF K par row) (par',row.map (Option.map (rt par)))∧Forest par' d∧par'.length=par.length∧∀ u v,Root par' u v↔Root par u v
 | [],par,h,hr=>⟨par,⟨0,fun _ _=>rfl⟩,h,rfl,fun _ _=>Iff.rfl⟩
 | none :: l,par,h,hr=>by
  obtain⟨par',⟨K0,h1⟩,h2,h3,h4⟩:=reps_ev l par h fun t ht=>hr t (by simp[ht])
  refine⟨par',⟨K0,fun K hK=>?_⟩,h2,h3,h4⟩
  show repsF K par (none :: l)=_
  simp only[repsF];rw[show repsF K par l=_ from h1 K hK]
  rfl
 | some t :: l,par,h,hr=>by
  obtain⟨par1,r,k1,k2,k3,k4,k5⟩:=find_ev (d t) t par (Nat.le_refl _) h (hr t (by simp))
  obtain⟨par',⟨K0,h1⟩,h2,h3,h4⟩:=reps_ev l par1 k3 fun u hu=>by rw[k4];exact hr u (by simp[hu])
  refine⟨par',⟨K0+d t+1,fun K hK=>?_⟩,h2,h3.trans k4,fun u v=>(h4 u v).trans (k5 u v)⟩
  show repsF K par (some t :: l)=_
  simp only[repsF];rw[k1 K (by omega)]
  simp only;rw[show repsF K par1 l=_ from h1 K (by omega)]
  have hc:(fun o=>Option.map (rt par1) o)=fun o=>Option.map (rt par) o:=by
   funext o;cases o with
   | none=>rfl
   | some u=>simp only[Option.map_some];rw[rt_congr k5]
  simp only[List.map_cons,Option.map_some,rt_spec k2]
  congr 3
  exact congrArg (fun f=>l.map f) hc
noncomputable def rowsS (par:List Nat):Nat→List Row→List (Option Row)
 | _,[]=>[]
 | s,row :: l=>(if rt par s=s then some (row.map (Option.map (rt par))) else none) :: rowsS par (s+1) l
theorem rowsS_congr {par par':List Nat}(h:∀ u v,Root par' u v↔Root par u v):∀ (l:List Row)(s:Nat),rowsS par' s l=rowsS par s l
 | [],_=>rfl
 | row :: l,s=>by
  have hc:(rt par')=rt par:=funext fun u=>rt_congr h u
  simp only[rowsS,rowsS_congr h l (s+1),hc]
theorem rows_ev {d:Nat→Nat}:∀ (l:List Row)(par:List Nat)(s:Nat),Forest par d→s+l.length=par.length→(∀ row∈l,∀ t,some t∈row→t<par.length) →
  ∃ par',Ev (fun K=>rowsF K par l s) (par',rowsS par s l)∧Forest par' d∧par'.length=par.length∧∀ u v,Root par' u v↔Root par u v
 | [],par,s,h,hl,hr=>⟨par,⟨0,fun _ _=>rfl⟩,h,rfl,fun _ _=>Iff.rfl⟩
 | row :: l,par,s,h,hl,hr=>by
  simp only[List.length_cons]at hl;obtain⟨par1,r,k1,k2,k3,k4,k5⟩:=find_ev (d s) s par (Nat.le_refl _) h (by omega)
  have hrt:=rt_spec k2
  by_cases hrs:r=s
  ·obtain⟨par2,⟨K2,a1⟩,a2,a3,a4⟩:=reps_ev row par1 k3 fun t ht=>by rw[k4];exact hr row (by simp) t ht
   have h2:∀ u v,Root par2 u v↔Root par u v:=fun u v=>(a4 u v).trans (k5 u v)
   obtain⟨par',⟨K0,b1⟩,b2,b3,b4⟩:=rows_ev l par2 (s+1) a2 (by rw[a3,k4];omega) fun q hq t ht=>by rw[a3,k4];exact hr q (by simp[hq]) t ht
   refine⟨par',⟨K0+K2+d s+1,fun K hK=>?_⟩,b2,b3.trans (a3.trans k4),fun u v=>(b4 u v).trans (h2 u v)⟩
   show rowsF K par (row :: l) s=_
   simp only[rowsF];rw[k1 K (by omega)]
   simp only[if_pos hrs];rw[show repsF K par1 row=_ from a1 K (by omega)]
   simp only;rw[show rowsF K par2 l (s+1)=_ from b1 K (by omega)]
   have hc:(rt par1)=rt par:=funext fun u=>rt_congr k5 u
   simp only[rowsS];rw[rowsS_congr h2,if_pos (hrt.trans hrs),hc]
  ·obtain⟨par',⟨K0,b1⟩,b2,b3,b4⟩:=rows_ev l par1 (s+1) k3 (by rw[k4];omega) fun q hq t ht=>by rw[k4];exact hr q (by simp[hq]) t ht
   refine⟨par',⟨K0+d s+1,fun K hK=>?_⟩,b2,b3.trans k4,fun u v=>(b4 u v).trans (k5 u v)⟩
   show rowsF K par (row :: l) s=_
   simp only[rowsF];rw[k1 K (by omega)]
   simp only[if_neg hrs];rw[show rowsF K par1 l (s+1)=_ from b1 K (by omega)]
   simp only[rowsS];rw[rowsS_congr k5,if_neg (by rw[hrt];exact hrs)]
end Go.Proofs.YtffdjfkekdoeaaaDoor.Pl
end
section
namespace Go.Proofs.YtffdjfkekdoeaaaDoor.Pl
open Fo
def To (rows:List (Option Row))(s x t:Nat):Prop:=∃ row,rows[s]? = some (some row)∧row[x]? = some (some t)
def Live (rows:List (Option Row))(s:Nat):Prop:=∃ row,rows[s]? = some (some row)
structure Wf (m:Nat)(rows:List (Option Row)):Prop where
 len:∀ (s:Nat) (row:Row),rows[s]? = some (some row)→row.length=m
 tgt:∀ s x t,To rows s x t→Live rows t
 inv:∀ s x t,To rows s x t→To rows t (x ^^^ 1) s
def One (rows:List (Option Row))(s:Nat):Prop:=∀ x x' t t',To rows s x t→To rows s x' t'→x=x'
theorem To.unique {rows:List (Option Row)}{s x t t':Nat}(h:To rows s x t) (h':To rows s x t'):t=t':=by
 obtain⟨r,h1,h2⟩:=h;obtain⟨r',h3,h4⟩:=h';rw[h1]at h3;cases h3;rw[h2]at h4;cases h4;rfl
theorem To.lt {m:Nat}{rows:List (Option Row)}(hw:Wf m rows){s x t:Nat}(h:To rows s x t):x<m:=by
 obtain⟨r,h1,h2⟩:=h;rw[← hw.len s r h1];exact(List.getElem?_eq_some_iff.1 h2).1
theorem degF_cons (o:Option Nat)(l:Row):degF (o :: l)=degF l+(if o.isSome=true then 1 else 0):=by
 unfold degF;cases o <;> simp
theorem deg_zero:∀ (r:Row),degF r=0→∀ (x t:Nat),r[x]?≠some (some t)
 | [],_,x,t,h=>by simp at h
 | o :: l,hd,x,t,h=>by
  rw[degF_cons]at hd;cases x with
  | zero=>simp only[List.getElem?_cons_zero,Option.some.injEq]at h;subst h;simp at hd
  | succ x=>exact deg_zero l (by omega) x t (by simpa using h)
theorem deg_pos:∀ (r:Row),0<degF r→∃ x t:Nat,r[x]? = some (some t)
 | [],h=>by simp[degF]at h
 | none :: l,h=>by
  rw[degF_cons]at h;obtain⟨x,t,hx⟩:=deg_pos l (by simpa using h)
  exact⟨x+1,t,by simpa using hx⟩
 | some t :: l,_=>⟨0,t,rfl⟩
theorem deg_one:∀ (r:Row),degF r≤1→∀ (x x' t t':Nat),r[x]? = some (some t)→r[x']? = some (some t')→x=x'
 | [],_,x,_,t,_,h,_=>by simp at h
 | o :: l,hd,x,x',t,t',h,h'=>by
  rw[degF_cons]at hd;cases x with
  | zero=>
   simp only[List.getElem?_cons_zero,Option.some.injEq]at h;subst h;cases x' with
   | zero=>rfl
   | succ x'=>exact absurd (by simpa using h') (deg_zero l (by simpa using hd) x' t')
  | succ x=>
   cases x' with
   | zero=>
    simp only[List.getElem?_cons_zero,Option.some.injEq]at h';subst h';exact absurd (by simpa using h) (deg_zero l (by simpa using hd) x t)
   | succ x'=>rw[deg_one l (by omega) x x' t t' (by simpa using h) (by simpa using h')]
theorem deg_two:∀ (r:Row),2≤degF r→∀ x:Nat,∃ x' t':Nat,x'≠x∧r[x']? = some (some t')
 | [],h,_=>by simp[degF]at h
 | none :: l,h,x=>by
  rw[degF_cons]at h;cases x with
  | zero=>
   obtain⟨x',t',hx⟩:=deg_pos l (by simp at h;omega)
   exact⟨x'+1,t',by omega,by simpa using hx⟩
  | succ x=>
   obtain⟨x',t',h1,h2⟩:=deg_two l (by simpa using h) x
   exact⟨x'+1,t',by omega,by simpa using h2⟩
 | some t :: l,h,x=>by
  rw[degF_cons]at h;cases x with
  | zero=>
   obtain⟨x',t',hx⟩:=deg_pos l (by simp at h;omega)
   exact⟨x'+1,t',by omega,by simpa using hx⟩
  | succ x=>exact⟨0,t,by omega,rfl⟩
theorem deg_set:∀ (r:Row)(x t:Nat),r[x]? = some (some t)→degF (r.set x none)+1=degF r
 | [],x,t,h=>by simp at h
 | o :: l,0,t,h=>by
  simp only[List.getElem?_cons_zero,Option.some.injEq]at h;subst h;rw[List.set_cons_zero,degF_cons,degF_cons];simp
 | o :: l,x+1,t,h=>by
  rw[List.set_cons_succ,degF_cons,degF_cons];have:=deg_set l x t (by simpa using h)
  omega
def degO:Option Row→Nat
 | some r=>degF r
 | none=>0
def cnt (rows:List (Option Row)):Nat:=(rows.map degO).sum
theorem cnt_set:∀ (rows:List (Option Row))(s:Nat)(o o':Option Row),rows[s]? = some o→cnt (rows.set s o')+degO o=cnt rows+degO o'
 | [],s,o,o',h=>by simp at h
 | p :: l,0,o,o',h=>by
  simp only[List.getElem?_cons_zero,Option.some.injEq]at h;subst h;simp[cnt];omega
 | p :: l,s+1,o,o',h=>by
  have:=cnt_set l s o o' (by simpa using h)
  simp[cnt]at this ⊢;omega
structure Part (start:Nat)(S:Nat→Nat→Nat→Prop):Prop where
 inv:∀ s x t,S s x t→S t (x ^^^ 1) s
 two:∀ s x t,S s x t→s≠start→∃ x' t',x'≠x∧S s x' t'
structure Cut (start:Nat)(rows rows':List (Option Row)):Prop where
 len:rows'.length=rows.length
 live:∀ s,Live rows' s↔Live rows s
 sub:∀ s x t,To rows' s x t→To rows s x t
 max:∀ S,Part start S→(∀ s x t,S s x t→To rows s x t)→∀ s x t,S s x t→To rows' s x t
theorem Cut.refl (start:Nat)(rows:List (Option Row)):Cut start rows rows:=⟨rfl,fun _=>Iff.rfl,fun _ _ _ h=>h,fun _ _ h=>h⟩
theorem Cut.trans {start:Nat}{a b c:List (Option Row)}(h:Cut start a b)(k:Cut start b c):Cut start a c:=
 ⟨k.len.trans h.len,fun s=>(k.live s).trans (h.live s),fun s x t e=>h.sub s x t (k.sub s x t e),fun S hS hs=>k.max S hS (h.max S hS hs)⟩
structure Lv (start:Nat)(rows:List (Option Row))(leaves:List Nat)(ex:Nat→Prop):Prop where
 ok:∀ v∈leaves,Live rows v∧v≠start∧One rows v
 all:∀ v x t,To rows v x t→v≠start→One rows v→v∈leaves∨ex v
theorem xor_ne (x:Nat):x ^^^ 1≠x:=fun h=>by
 have h1:=congrArg (· ^^^ x) h;simp only[Nat.xor_self]at h1;rw[Nat.xor_comm x 1,Nat.xor_assoc,Nat.xor_self]at h1;simp at h1
theorem drop_edge {m start:Nat}(hxm:∀ x,x<m→x ^^^ 1<m){rows:List (Option Row)}(hw:Wf m rows){s y t:Nat}{row rt:Row}(hs:rows[s]? = some (some row))(hy:row[y]? = some (some t))(hst:s≠start)(hone:One rows s)(ht:rows[t]? = some (some rt)) :
  t≠s∧Wf m ((rows.set s (some (row.set y none))).set t (some (rt.set (y ^^^ 1) none)))∧Cut start rows ((rows.set s (some (row.set y none))).set t (some (rt.set (y ^^^ 1) none)))∧cnt ((rows.set s (some (row.set y none))).set t (some (rt.set (y ^^^ 1) none)))+2=cnt rows ∧
   (∀ u x v,To ((rows.set s (some (row.set y none))).set t (some (rt.set (y ^^^ 1) none))) u x v↔To rows u x v∧¬ (u=s∧x=y)∧¬ (u=t∧x=y ^^^ 1)):=by
 have hE:To rows s y t:=⟨row,hs,hy⟩;have hI:=hw.inv s y t hE;have hts:t≠s:=fun he=>by
  subst he;exact xor_ne y (hone _ _ _ _ hI hE)
 have hsl:s<rows.length:=(List.getElem?_eq_some_iff.1 hs).1;have htl:t<rows.length:=(List.getElem?_eq_some_iff.1 ht).1;obtain⟨rt',q1,q2⟩:=hI;rw[ht]at q1;cases q1;have hyl:y<row.length:=(List.getElem?_eq_some_iff.1 hy).1;have hy1:(y ^^^ 1)<rt.length:=(List.getElem?_eq_some_iff.1 q2).1;generalize hR:(rows.set s (some (row.set y none))).set t (some (rt.set (y ^^^ 1) none))=R;have at_t:R[t]? = some (some (rt.set (y ^^^ 1) none)):=by rw[← hR,List.getElem?_set_self (by rw[List.length_set];exact htl)]
 have at_s:R[s]? = some (some (row.set y none)):=by rw[← hR,List.getElem?_set_ne hts,List.getElem?_set_self hsl]
 have at_o:∀ u,u≠s→u≠t→R[u]? = rows[u]?:=fun u h1 h2=>by rw[← hR,List.getElem?_set_ne (fun e=>h2 e.symm),List.getElem?_set_ne (fun e=>h1 e.symm)]
 have hto:∀ u x v,To R u x v↔To rows u x v∧¬ (u=s∧x=y)∧¬ (u=t∧x=y ^^^ 1):=fun u x v=>by
  by_cases hus:u=s
  ·subst hus;constructor
   ·rintro⟨r,h1,h2⟩
    rw[at_s]at h1;cases h1
    by_cases hx:x=y
    ·subst hx;rw[List.getElem?_set_self hyl]at h2;cases h2
    ·rw[List.getElem?_set_ne (fun e=>hx e.symm)]at h2
     exact⟨⟨row,hs,h2⟩,fun h=>hx h.2,fun h=>hts h.1.symm⟩
   ·rintro⟨⟨r,h1,h2⟩,h3,_⟩
    rw[hs]at h1;cases h1;exact⟨_,at_s,by rw[List.getElem?_set_ne (fun e=>h3 ⟨rfl,e.symm⟩)];exact h2⟩
  ·by_cases hut:u=t
   ·subst hut;constructor
    ·rintro⟨r,h1,h2⟩
     rw[at_t]at h1;cases h1
     by_cases hx:x=y ^^^ 1
     ·subst hx;rw[List.getElem?_set_self hy1]at h2;cases h2
     ·rw[List.getElem?_set_ne (fun e=>hx e.symm)]at h2
      exact⟨⟨rt,ht,h2⟩,fun h=>hus h.1,fun h=>hx h.2⟩
    ·rintro⟨⟨r,h1,h2⟩,_,h3⟩
     rw[ht]at h1;cases h1;exact⟨_,at_t,by rw[List.getElem?_set_ne (fun e=>h3 ⟨rfl,e.symm⟩)];exact h2⟩
   ·unfold To;rw[at_o u hus hut];exact⟨fun h=>⟨h,fun hh=>hus hh.1,fun hh=>hut hh.1⟩,fun h=>h.1⟩
 have hlive:∀ u,Live R u↔Live rows u:=fun u=>by
  by_cases hus:u=s
  ·subst hus;exact⟨fun _=>⟨_,hs⟩,fun _=>⟨_,at_s⟩⟩
  ·by_cases hut:u=t
   ·subst hut;exact⟨fun _=>⟨_,ht⟩,fun _=>⟨_,at_t⟩⟩
   ·unfold Live;rw[at_o u hus hut]
 have xx:∀ z,(z ^^^ 1) ^^^ 1=z:=fun z=>by rw[Nat.xor_assoc,Nat.xor_self,Nat.xor_zero]
 refine⟨hts,⟨fun u r h=>?_,fun u x v h=>(hlive v).2 (hw.tgt u x v ((hto u x v).1 h).1),fun u x v h=>?_⟩,⟨by rw[← hR,List.length_set,List.length_set],hlive,fun u x v h=>((hto u x v).1 h).1,fun S hS hsub u x v h=>?_⟩,?_,hto⟩
 ·by_cases hus:u=s
  ·subst hus;rw[at_s]at h;cases h;rw[List.length_set];exact hw.len u row hs
  ·by_cases hut:u=t
   ·subst hut;rw[at_t]at h;cases h;rw[List.length_set];exact hw.len u rt ht
   ·rw[at_o u hus hut]at h;exact hw.len u r h
 ·obtain⟨h1,h2,h3⟩:=(hto u x v).1 h;refine(hto v (x ^^^ 1) u).2 ⟨hw.inv u x v h1,?_,?_⟩
  ·rintro⟨rfl,he⟩
   have h4:=hw.inv u x v h1;rw[he]at h4;have:u=t:=h4.unique hE;subst this;exact h3 ⟨rfl,by rw[← he,xx]⟩
  ·rintro⟨rfl,he⟩
   have h4:=hw.inv u x v h1;rw[he]at h4;have:u=s:=h4.unique ⟨rt,ht,q2⟩;subst this;exact h2 ⟨rfl,by have:=congrArg (· ^^^ 1) he;simpa[xx] using this⟩
 ·refine(hto u x v).2 ⟨hsub u x v h,?_,?_⟩
  ·rintro⟨rfl,rfl⟩
   obtain⟨x',t',h1,h2⟩:=hS.two u x v h hst;exact h1 (hone _ _ _ _ (hsub _ _ _ h2) hE)
  ·rintro⟨rfl,rfl⟩
   have hv:v=s:=(hsub _ _ _ h).unique ⟨rt,ht,q2⟩;subst hv;have h4:=hS.inv _ _ _ h;rw[xx]at h4;obtain⟨x',t',h1,h2⟩:=hS.two v y u h4 hst;exact h1 (hone _ _ _ _ (hsub _ _ _ h2) hE)
 ·have h1:=cnt_set rows s (some row) (some (row.set y none)) hs;have ht1:(rows.set s (some (row.set y none)))[t]? = some (some rt):=by rw[List.getElem?_set_ne (fun e=>hts e.symm)];exact ht
  have h2:=cnt_set (rows.set s (some (row.set y none))) t (some rt) (some (rt.set (y ^^^ 1) none)) ht1;have h3:=deg_set row y t hy;have h4:=deg_set rt (y ^^^ 1) s q2;rw[hR]at h2;simp only[degO]at h1 h2;omega
theorem pruneRow_ev {m start:Nat}(hxm:∀ x,x<m→x ^^^ 1<m):∀ (n:Nat)(rows:List (Option Row))(leaves:List Nat)(s y:Nat),Wf m rows→Live rows s→s≠start→One rows s→y+n=m→leaves.length+cnt rows<big→(∀ x t,To rows s x t→y≤x)→Lv start rows leaves (· = s) →
  ∃ rows' leaves',pruneRow start s n rows leaves y=some (rows',leaves')∧Wf m rows'∧Cut start rows rows'∧leaves'.length+cnt rows'≤leaves.length+cnt rows∧Lv start rows' leaves' (fun _=>False)
 | 0,rows,leaves,s,y,hw,hl,hst,hone,hy,hb,hlow,hL=>by
  refine⟨rows,leaves,rfl,hw,Cut.refl _ _,Nat.le_refl _,⟨hL.ok,fun v x t h1 h2 h3=>?_⟩⟩
  rcases hL.all v x t h1 h2 h3 with h|rfl
  ·exact .inl h
  ·have:=hlow x t h1;have:=To.lt hw h1;omega
 | n+1,rows,leaves,s,y,hw,hl,hst,hone,hy,hb,hlow,hL=>by
  obtain⟨row,hs⟩:=hl;have hrl:=hw.len s row hs;have hyl:y<row.length:=by omega
  have hye:row[y]? = some row[y]:=List.getElem?_eq_getElem hyl;cases ho:row[y] with
  | none=>
   obtain⟨rows',leaves',h1,h2⟩:=pruneRow_ev hxm n rows leaves s (y+1) hw ⟨row,hs⟩ hst hone (by omega) hb (fun x t h=>by
    have:=hlow x t h
    by_cases he:x=y
    ·subst he;obtain⟨r,q1,q2⟩:=h;rw[hs]at q1;cases q1;rw[hye,ho]at q2;cases q2
    ·omega) hL
   refine⟨rows',leaves',?_,h2⟩;simp only[pruneRow,hs,hye,ho];exact h1
  | some t=>
   have hyt:row[y]? = some (some t):=by rw[hye,ho]
   obtain⟨rt,ht⟩:=hw.tgt s y t ⟨row,hs,hyt⟩;obtain⟨hts,hw2,hcut,hcnt,hto⟩:=drop_edge (start:=start) hxm hw hs hyt hst hone ht;have hsl:s<rows.length:=(List.getElem?_eq_some_iff.1 hs).1;have htl:t<rows.length:=(List.getElem?_eq_some_iff.1 ht).1;have ht1:(rows.set s (some (row.set y none)))[t]? = some (some rt):=by rw[List.getElem?_set_ne (fun e=>hts e.symm)];exact ht
   have hy1:(y ^^^ 1)<rt.length:=by rw[hw.len t rt ht];exact hxm y (by omega)
   generalize hR:(rows.set s (some (row.set y none))).set t (some (rt.set (y ^^^ 1) none))=R at *;have at_t:R[t]? = some (some (rt.set (y ^^^ 1) none)):=by rw[← hR,List.getElem?_set_self (by rw[List.length_set];exact htl)]
   have hnoS:∀ x v,¬ To R s x v:=fun x v h=>by
    obtain⟨h1,h2,_⟩:=(hto s x v).1 h;exact h2 ⟨rfl,hone _ _ _ _ h1 ⟨row,hs,hyt⟩⟩
   have hone':∀ v,One rows v→One R v:=fun v h x x' a b h1 h2=>h x x' a b ((hto _ _ _).1 h1).1 ((hto _ _ _).1 h2).1
   have hll:leaves.length<big:=by omega
   have hdeg:degF (rt.set (y ^^^ 1) none)=1→One R t∧∃ x v,To R t x v:=fun hd=>by
    refine⟨fun x x' a b ⟨r,h1,h2⟩ ⟨r',h3,h4⟩=>?_,?_⟩
    ·rw[at_t]at h1 h3;cases h1;cases h3;exact deg_one _ (by omega) x x' a b h2 h4
    ·obtain⟨x,v,hv⟩:=deg_pos _ (by omega:0<degF (rt.set (y ^^^ 1) none))
     exact⟨x,v,_,at_t,hv⟩
   generalize hlv:(if t != start && degF (rt.set (y ^^^ 1) none) == 1 then leaves ++ [t] else leaves)=leaves2
   have hl2:leaves2.length≤leaves.length+1:=by rw[← hlv];split <;> simp
   have hL2:Lv start R leaves2 (· = s):=by
    refine⟨fun v hv=>?_,fun v x u h1 h2 h3=>?_⟩
    ·have:v∈leaves∨(v=t∧t≠start∧degF (rt.set (y ^^^ 1) none)=1):=by
      rw[← hlv]at hv;split at hv
      ·rename_i hc
       simp only[Bool.and_eq_true,bne_iff_ne,ne_eq,beq_iff_eq]at hc;rcases List.mem_append.1 hv with hv|hv
       ·exact .inl hv
       ·simp only[List.mem_singleton]at hv;exact .inr ⟨hv,hc⟩
      ·exact .inl hv
     rcases this with hv|⟨rfl,h2,h3⟩
     ·obtain⟨q1,q2,q3⟩:=hL.ok v hv;exact⟨(hcut.live v).2 q1,q2,hone' v q3⟩
     ·exact⟨⟨_,at_t⟩,h2,(hdeg h3).1⟩
    ·by_cases hvt:v=t
     ·subst hvt;have hd:degF (rt.set (y ^^^ 1) none)=1:=by
       obtain⟨r,q1,q2⟩:=h1;rw[at_t]at q1;cases q1;have hp:0<degF (rt.set (y ^^^ 1) none):=by
        by_cases h0:degF (rt.set (y ^^^ 1) none)=0
        ·exact absurd q2 (deg_zero _ h0 x u)
        ·omega
       by_cases h2':2≤degF (rt.set (y ^^^ 1) none)
       ·obtain⟨x',t',e1,e2⟩:=deg_two _ h2' x;exact absurd (h3 x' x t' u ⟨_,at_t,e2⟩ ⟨_,at_t,q2⟩) e1
       ·omega
      refine .inl ?_;rw[← hlv,if_pos (by simp[h2,hd])]
      simp
     ·by_cases hvs:v=s
      ·exact .inr hvs
      ·have hoR:∀ x u,To rows v x u→To R v x u:=fun x u h=>(hto v x u).2 ⟨h,fun hh=>hvs hh.1,fun hh=>hvt hh.1⟩
       rcases hL.all v x u ((hto _ _ _).1 h1).1 h2 (fun a b c d e1 e2=>h3 a b c d (hoR _ _ e1) (hoR _ _ e2)) with h|h
       ·refine .inl ?_;rw[← hlv];split
        ·exact List.mem_append_left _ h
        ·exact h
       ·exact .inr h
   obtain⟨rows',leaves',h1,h2,h3,h4,h5⟩:=pruneRow_ev hxm n R leaves2 s (y+1) hw2 ((hcut.live s).2 ⟨row,hs⟩) hst (hone' s hone) (by omega) (by omega) (fun x v h=>absurd h (hnoS x v)) hL2
   refine⟨rows',leaves',?_,h2,hcut.trans h3,by omega,h5⟩
   simp only[pruneRow,hs,hye,ho,ht1];rw[if_pos ⟨hy1,hll⟩,hR,hlv];exact h1
theorem prune_ev {m start:Nat}(hxm:∀ x,x<m→x ^^^ 1<m):∀ (N:Nat)(rows:List (Option Row))(leaves:List Nat),leaves.length+cnt rows≤N→N<big→Wf m rows→Lv start rows leaves (fun _=>False) →
  ∃ rows',(∀ k,N<k→pruneF start k rows leaves=some rows')∧Wf m rows'∧Cut start rows rows'∧Lv start rows' [] (fun _=>False):=by
 intro N;induction N with
 | zero=>
  intro rows leaves hN hb hw hL;have:leaves=[]:=List.eq_nil_of_length_eq_zero (by omega)
  subst this;refine⟨rows,fun k hk=>?_,hw,Cut.refl _ _,hL⟩
  obtain⟨k,rfl⟩:∃ m,k=m+1:=⟨k-1,by omega⟩
  simp only[pruneF,List.getLast?_nil]
 | succ N ih=>
  intro rows leaves hN hb hw hL;rcases List.eq_nil_or_concat leaves with rfl|⟨ls,s,rfl⟩
  ·refine⟨rows,fun k hk=>?_,hw,Cut.refl _ _,hL⟩
   obtain⟨k,rfl⟩:∃ m,k=m+1:=⟨k-1,by omega⟩
   simp only[pruneF,List.getLast?_nil]
  ·rw[List.concat_eq_append]at *;obtain⟨⟨row,hs⟩,hst,hone⟩:=hL.ok s (by simp)
   simp only[List.length_append,List.length_singleton]at hN;obtain⟨rows1,leaves1,h1,h2,h3,h4,h5⟩:=pruneRow_ev (start:=start) hxm row.length rows ls s 0 hw ⟨row,hs⟩ hst hone (by rw[hw.len s row hs];omega) (by omega) (fun _ _ _=>Nat.zero_le _)
    ⟨fun v hv=>hL.ok v (by simp[hv]),fun v x t a1 a2 a3=>by
     rcases hL.all v x t a1 a2 a3 with h|h
     ·rcases List.mem_append.1 h with h|h
      ·exact .inl h
      ·simp only[List.mem_singleton]at h;exact .inr h
     ·exact h.elim⟩
   obtain⟨rows',r1,r2,r3,r4⟩:=ih rows1 leaves1 (by omega) (by omega) h2 h5
   refine⟨rows',fun k hk=>?_,r2,h3.trans r3,r4⟩
   obtain⟨k,rfl⟩:∃ m,k=m+1:=⟨k-1,by omega⟩
   simp only[pruneF,List.getLast?_append,List.getLast?_singleton,Option.some_or,hs,List.dropLast_concat,h1];exact r1 k (by omega)
theorem leaves_mem (start:Nat):∀ (l:List (Option Row))(s v:Nat),v∈leavesF start s l↔∃ i o,l[i]? = some o∧v=s+i∧leafAt start v o=true
 | [],s,v=>by simp[leavesF]
 | o :: l,s,v=>by
  have ih:=leaves_mem start l (s+1) v;simp only[leavesF];constructor
  ·intro h;split at h
   ·rename_i hl
    rcases List.mem_cons.1 h with rfl|h
    ·exact⟨0,o,rfl,rfl,hl⟩
    ·obtain⟨i,o',h1,h2,h3⟩:=ih.1 h;exact⟨i+1,o',by simpa using h1,by omega,h3⟩
   ·obtain⟨i,o',h1,h2,h3⟩:=ih.1 h;exact⟨i+1,o',by simpa using h1,by omega,h3⟩
  ·rintro⟨i,o',h1,h2,h3⟩
   cases i with
   | zero=>
    simp only[List.getElem?_cons_zero,Option.some.injEq]at h1;subst h1;rw[Nat.add_zero]at h2;subst h2;rw[if_pos h3];simp
   | succ i=>
    have:=ih.2 ⟨i,o',by simpa using h1,by omega,h3⟩
    split
    ·exact List.mem_cons_of_mem _ this
    ·exact this
theorem cnt_le {m:Nat}:∀ (rows:List (Option Row)),(∀ r,some r∈rows→r.length=m)→cnt rows≤rows.length*m
 | [],_=>by simp[cnt]
 | o :: l,h=>by
  have:=cnt_le l fun r hr=>h r (by simp[hr])
  have h1:degO o≤m:=by
   cases o with
   | none=>exact Nat.zero_le _
   | some r=>rw[← h r (by simp)];exact List.length_filter_le _ _
  simp only[cnt,List.map_cons,List.sum_cons,List.length_cons,Nat.add_mul,Nat.one_mul]at this ⊢;omega
theorem pruned {m start:Nat}(hxm:∀ x,x<m→x ^^^ 1<m){rows:List (Option Row)}(hw:Wf m rows)(hb:rows.length*(m+1)<big) :
  ∃ rows',Fo.big=Fo.big∧(∀ k,rows.length*(m+1)<k→pruneF start k rows (leavesF start 0 rows)=some rows')∧Wf m rows'∧Cut start rows rows'∧∀ s x t,To rows' s x t→s≠start→∃ x' t',x'≠x∧To rows' s x' t':=by
 have hl:(leavesF start 0 rows).length≤rows.length:=by
  have:∀ (l:List (Option Row)) (s:Nat),(leavesF start s l).length≤l.length:=by
   intro l;induction l with
   | nil=>intro s;simp[leavesF]
   | cons r l ih=>
    intro s;simp only[leavesF];have:=ih (s+1);split <;> simp <;> omega
  exact this rows 0
 have hc:cnt rows≤rows.length*m:=cnt_le rows fun r hr=>by
  obtain⟨s,hs⟩:=List.getElem?_of_mem hr;exact hw.len s r hs
 have hle:(leavesF start 0 rows).length+cnt rows≤rows.length*(m+1):=by rw[Nat.mul_add,Nat.mul_one];omega
 obtain⟨rows',h1,h2,h3,h4⟩:=prune_ev (start:=start) hxm (rows.length*(m+1)) rows (leavesF start 0 rows) hle hb hw
  ⟨fun v hv=>by
   obtain⟨i,o,q1,q2,q3⟩:=(leaves_mem start rows 0 v).1 hv;rw[Nat.zero_add]at q2;subst q2;unfold leafAt at q3;split at q3
   ·rename_i r
    simp only[Bool.and_eq_true,bne_iff_ne,ne_eq,beq_iff_eq]at q3;refine⟨⟨r,q1⟩,q3.1,fun x x' t t' ⟨r1,e1,e2⟩ ⟨r2,e3,e4⟩=>?_⟩
    rw[q1]at e1 e3;cases e1;cases e3;exact deg_one r (by omega) x x' t t' e2 e4
   ·exact absurd q3 Bool.false_ne_true,fun v x t a1 a2 a3=>.inl ((leaves_mem start rows 0 v).2 (by
    obtain⟨r,e1,e2⟩:=a1;refine⟨v,some r,e1,by omega,?_⟩
    unfold leafAt;have hp:0<degF r:=by
     by_cases h0:degF r=0
     ·exact absurd e2 (deg_zero _ h0 x t)
     ·omega
    have hd:degF r=1:=by
     by_cases h2':2≤degF r
     ·obtain⟨x',t',f1,f2⟩:=deg_two _ h2' x;exact absurd (a3 x' x t' t ⟨_,e1,f2⟩ ⟨_,e1,e2⟩) f1
     ·omega
    simp[a2,hd]))⟩
 refine⟨rows',rfl,h1,h2,h3,fun s x t hst hs=>?_⟩
 by_cases hex:∃ x' t',x'≠x∧To rows' s x' t'
 ·exact hex
 ·exfalso
  have hone:One rows' s:=fun a b c d e1 e2=>by
   have ea:a=x:=Classical.byContradiction fun h=>hex ⟨a,c,h,e1⟩
   have eb:b=x:=Classical.byContradiction fun h=>hex ⟨b,d,h,e2⟩
   rw[ea,eb]
  rcases h4.all s x t hst hs hone with h|h
  ·simp at h
  ·exact h
end Go.Proofs.YtffdjfkekdoeaaaDoor.Pl
end
section
namespace Go.Proofs.YtffdjfkekdoeaaaDoor.Rf
open Fw Wd Fo
theorem bfsRow_grow:∀ (row:Row)(q:List Nat),q.length≤(bfsRow row q).1.length
 | [],q=>Nat.le_refl _
 | none :: l,q=>bfsRow_grow l q
 | some t :: l,q=>by
  simp only[bfsRow];split
  ·exact bfsRow_grow l q
  ·have:=bfsRow_grow l (q ++ [t]);rw[List.length_append]at this;exact Nat.le_trans (Nat.le_add_right _ _) this
theorem numE_some {k:Nat}{es:List Ed}{B:Nat}(hes:∀ e∈es,e.1<B∧e.2.2<B):∀ (K i:Nat)(q:List Nat)(out:List Row),q.Nodup→(∀ v∈q,v<B)→i≤q.length→B-i<K→∃ res,numE k es K i q out=some res
 | 0,i,q,out,_,_,_,h=>absurd h (Nat.not_lt_zero _)
 | K+1,i,q,out,hn,hq,hi,hK=>by
  simp only[numE];split
  ·exact⟨_,rfl⟩
  ·rename_i v hv
   have hlt:=(List.getElem?_eq_some_iff.1 hv).1;have hl:=nodup_len B q hn hq;obtain⟨h1,h2⟩:=bfsRow_ok (B:=B) (rowE k es v) q (fun t ht=>by
    unfold rowE at ht;obtain⟨x,_,hx⟩:=List.mem_map.1 ht;exact stepE_lt es v x t hes hx) hn hq
   have h3:=bfsRow_grow (rowE k es v) q;exact numE_some hes K (i+1) _ _ h1 h2 (by omega) (by omega)
theorem bfsRow_len:∀ (row:Row)(q:List Nat),(bfsRow row q).2.length=row.length
 | [],q=>rfl
 | none :: l,q=>by simp[bfsRow,bfsRow_len l q]
 | some t :: l,q=>by
  simp only[bfsRow];split <;> simp[bfsRow_len l]
theorem numE_rows {k:Nat}{es:List Ed}:∀ (K i:Nat)(q:List Nat)(out res:List Row),(∀ r∈out,r.length=2*k)→numE k es K i q out=some res→∀ r∈res,r.length=2*k
 | 0,_,_,_,_,_,h=>by simp[numE]at h
 | K+1,i,q,out,res,ho,h=>by
  simp only[numE]at h;split at h
  ·cases h;exact ho
  ·refine numE_rows K _ _ _ _ (fun r hr=>?_) h
   rcases List.mem_append.1 hr with hr|hr
   ·exact ho r hr
   ·simp only[List.mem_singleton]at hr;subst hr;rw[bfsRow_len,rowE_len]
def autE (k:Nat)(res:List Row):Aut:=⟨((2*k:Nat):Int),0,accF res.length,res.map (·.map ofO)⟩
def numR (k:Nat)(next:List (List Int)):List Row:=(numE k (graphL k 0 next) (next.length+1) 0 [0] []).getD []
theorem graphR_mem {s:Nat}{row:List Int}:∀ (n i:Nat)(e:Ed),e∈graphR s row i n→e.1=s∧∃ j,i≤j∧j<i+n∧e.2.1=2*j∧0≤row.getD (2*j) 0∧e.2.2=(row.getD (2*j) 0).toNat
 | 0,i,e,h=>by simp[graphR]at h
 | n+1,i,e,h=>by
  simp only[graphR]at h;rcases List.mem_append.1 h with h|h
  ·split at h
   ·rename_i hp
    simp only[List.mem_singleton]at h;subst h;exact⟨rfl,i,Nat.le_refl _,by omega,rfl,hp,rfl⟩
   ·simp at h
  ·obtain⟨h1,j,h2,h3,h4⟩:=graphR_mem n (i+1) e h;exact⟨h1,j,by omega,by omega,h4⟩
theorem graphL_mem {k:Nat}:∀ (l:List (List Int))(s:Nat)(e:Ed),e∈graphL k s l→∃ (i:Nat)(row:List Int),l[i]? = some row∧e.1=s+i∧∃ j,j<k∧e.2.1=2*j∧0≤row.getD (2*j) 0∧e.2.2=(row.getD (2*j) 0).toNat
 | [],s,e,h=>by simp[graphL]at h
 | row :: l,s,e,h=>by
  simp only[graphL]at h;rcases List.mem_append.1 h with h|h
  ·obtain⟨h1,j,_,h2,h3⟩:=graphR_mem k 0 e h;exact⟨0,row,rfl,by omega,j,by omega,h3⟩
  ·obtain⟨i,r,h1,h2,h3⟩:=graphL_mem l (s+1) e h;exact⟨i+1,r,by simpa using h1,by omega,h3⟩
theorem graphL_lt {k:Nat}{next:List (List Int)}(hrow:∀ r∈next,∀ t∈r,t<(next.length:Int))(hpos:0<next.length):∀ e∈graphL k 0 next,e.1<next.length∧e.2.2<next.length:=fun e he=>by
 obtain⟨i,row,h1,h2,j,h3,h4,h5,h6⟩:=graphL_mem next 0 e he;have hi:=(List.getElem?_eq_some_iff.1 h1).1;refine⟨by omega,?_⟩
 rw[h6]
 by_cases hx:2*j<row.length
 ·have:=hrow row (List.mem_of_getElem? h1) row[2*j] (List.getElem_mem hx);rw[getD_get hx]at h5 ⊢;omega
 ·rw[List.getD_eq_getElem?_getD,List.getElem?_eq_none (by omega)];simpa using hpos
def rowLocal (next:List (List Int))(s:Nat)(row:List Int):Bool:=(edgesFrom 0 row).all fun e=>getN next e.2.1.toNat (e.1.toNat ^^^ 1) == (s:Int)
def localS (acc:List Bool)(next:List (List Int))(s:Nat)(row:List Int):Bool:=rowLocal next s row && (s == 0 || (decide (2≤degF (row.map toO)) && !acc.getD s false))
def localAll (acc:List Bool)(next:List (List Int)):Nat→List (List Int)→Bool
 | _,[]=>true
 | s,row :: l=>localS acc next s row && localAll acc next (s+1) l
def isM (k:Int)(a:Aut):Bool:=
 decide (fsaF a.sym a.start a.acc a.next=0) && (decide (a.sym=2*k) && (decide (1≤a.acc.length) && (decide (a.acc.length≤2000) && (decide (a.start=0) && (a.acc.getD 0 false && (localAll a.acc a.next 0 a.next && sameF a (autE k.toNat (numR k.toNat a.next))))))))
theorem degF_toO_snoc (row:List Int)(t:Int):degF ((row ++ [t]).map toO)=degF (row.map toO)+(if 0≤t then 1 else 0):=by
 rw[List.map_append,List.map_cons,List.map_nil,degF_snoc]
 congr 1
 unfold toO;split <;> split <;> first | rfl | omega | simp_all
theorem localAll_false {acc:List Bool}{next:List (List Int)}:∀ (l:List (List Int))(s i:Nat)(row:List Int),l[i]? = some row→localS acc next (s+i) row=false→localAll acc next s l=false
 | [],s,i,row,h,_=>by simp at h
 | r :: l,s,0,row,h,hf=>by
  simp only[List.getElem?_cons_zero,Option.some.injEq]at h;subst h;simp only[localAll];rw[Nat.add_zero]at hf;rw[hf];rfl
 | r :: l,s,i+1,row,h,hf=>by
  simp only[localAll];rw[localAll_false l (s+1) i row (by simpa using h) (by rw[show s+1+i=s+(i+1) by omega];exact hf),Bool.and_false]
theorem Is_ret21 {w:World}{k:Int}(hk:1≤k∧k≤8){x:Int × Int × Sl × Sl × Unit}{a:Aut}(ha:AutIn w x a) :
  Ret Tryd.prog 57 #[.int .i64 k,.agg #[.int .i64 x.1,.int .i64 x.2.1,x.2.2.1.v,x.2.2.2.1.v]] (.sc .bool) w fun z w'=>z=isM k a∧Chg Nil w w':=by
 obtain⟨x1,x2,sa,sn,_⟩:=x;refine cayleyref21_Is.calls k x1 x2 sa sn ?_;unfold cayleyref21_Is.sh;have a1:=ha.sym;have a2:=ha.start;simp only at a1 a2;obtain⟨hra,_,_,sls,hrn,hsl,hrws,_⟩:=id ha.rd;have hra:RdT w (.sc .bool) sa a.acc:=hra;have hrn:RdT w (.sc .sl) sn sls:=hrn;have e1:sa.n=a.acc.length:=hra.len;have e3:sn.n=a.next.length:=by rw[hrn.len,hsl]
 refine New.mk fun b1 w1 hb1 hn1 hs1 hc1=>?_
 have l0:∀ {W:World},Chg Nil w1 W→W.heap[b1]? = some (.cells #[.int .i64 x1,.int .i64 x2,sa.v,sn.v] 27 (0,0)):=fun hW=>hW.heap hn1 fun h=>h
 have ldA:∀ {W:World},Chg Nil w1 W→∀ {K:tA.den→Prop},K (x1,x2,sa,sn,())→LoadT tA W (Addr.mk b1 0 none) K:=fun hW K kk=>LoadT.mk tA (fun j v hv=>by rw[cellOf (l0 hW)];simpa[Ty.cells] using hv) kk
 refine LoadT.sc (s:=.sl) (x:=sa) (by rw[cellOf hn1];rfl) ?_
 rw[e1];obtain⟨nk,rfl⟩:=Int.eq_ofNat_of_zero_le (show 0≤k by omega)
 have hw2k:IntKind.wrap .i64 (2*(nk:Int))=((2*nk:Nat):Int):=by rw[wrap64 (by omega) (by omega)];omega
 have retF:∀ {W:World},isM (nk:Int) a=false→Chg Nil w1 W→∃ z:Bool,Ending.returned (.bool false) = .returned ((Ty.sc .bool).val z)∧z=isM (nk:Int) a∧Chg Nil w W:=fun h hW=>⟨false,rfl,h.symm,hc1.then hW⟩
 refine Join.by' (fun y W=>y=((nk:Int),at0 b1,((a.acc.length:Nat):Int),())∧Chg Nil w1 W∧fsaF a.sym a.start a.acc a.next=0∧a.sym=2*(nk:Int)∧1≤a.acc.length∧a.acc.length≤2000∧a.start=0∧a.acc.getD 0 false=true) ?_ ?_
 ·rintro y W g ⟨rfl,hcW,g1,g2,g3,g4,g5,g6⟩
  dsimp only;obtain⟨hla,hrows⟩:=fsa_spec g1;have hI:isM (nk:Int) a=(localAll a.acc a.next 0 a.next && sameF a (autE nk (numR nk a.next))):=by
   unfold isM;rw[decide_eq_true g1,decide_eq_true g2,decide_eq_true g3,decide_eq_true g4,decide_eq_true g5,g6];simp
  refine LoopT.mk (fun y W=>∃ s:Nat,s≤a.next.length∧y=((nk:Int),at0 b1,((a.acc.length:Nat):Int),(s:Int),())∧Chg Nil w1 W∧localAll a.acc a.next s (a.next.drop s)=localAll a.acc a.next 0 a.next) (fun y _=>a.next.length-y.2.2.2.1.toNat) ⟨0,Nat.zero_le _,rfl,hcW,rfl⟩ ?_
  clear hcW
  rintro y gE W ⟨s,hs,rfl,hc,hloc⟩
  dsimp only;refine Br.dec (fun hlt=>?_) (fun hge=>?_)
  ·have hlt':s<a.next.length:=by omega
   have hdrop:a.next.drop s=a.next[s] :: a.next.drop (s+1):=List.drop_eq_getElem_cons hlt';have hrow':a.next[s]? = some a.next[s]:=List.getElem?_eq_getElem hlt';obtain⟨hrl,hrv⟩:=hrows _ (List.getElem_mem hlt');generalize a.next[s]=row at hdrop hrow' hrl hrv;have hrl':row.length=2*nk:=by omega
   obtain⟨rsl,hrsl⟩:∃ rsl,sls[s]? = some rsl:=⟨_,List.getElem?_eq_getElem (by rw[hsl];exact hlt')⟩
   have hrr:=hrws s rsl row hrsl hrow';rw[hdrop]at hloc;simp only[localAll]at hloc;have hbad:localS a.acc a.next s row=false→isM (nk:Int) a=false:=fun h=>by
    rw[hI,localAll_false a.next 0 s row hrow' (by rw[Nat.zero_add];exact h),Bool.false_and]
   refine LoopT.mk (fun y W=>∃ x:Nat,x≤2*nk∧y=((nk:Int),at0 b1,((a.acc.length:Nat):Int),(s:Int),((degF ((row.take x).map toO):Nat):Int),(x:Int),())∧Chg Nil w1 W∧rowLocal a.next s (row.take x)=true) (fun y _=>2*nk-y.2.2.2.2.2.1.toNat)
    ⟨0,Nat.zero_le _,rfl,hc,rfl⟩ ?_
   clear hc
   rintro y gE2 W ⟨x,hx,rfl,hc,hrl2⟩
   dsimp only;rw[hw2k];refine Br.dec (fun hlt2=>?_) (fun hge2=>?_)
   ·have hx2:x<2*nk:=by omega
    have hxr:x<row.length:=by omega
    have hrx:row[x]? = some row[x]:=List.getElem?_eq_getElem hxr;have htk:row.take (x+1)=row.take x ++ [row[x]]:=take_snoc hxr;have htv:=hrv row[x] (List.getElem_mem hxr);have hlen':(row.take x).length=x:=by simp;omega
    have hE:edgesFrom 0 (row.take (x+1))=edgesFrom 0 (row.take x) ++ edgesFrom x [row[x]]:=by rw[htk,edgesFrom_append,hlen',Nat.zero_add]
    have hdeg:degF ((row.take x).map toO)≤x:=Nat.le_trans (List.length_filter_le _ _) (by simp;omega)
    have hEr:edgesFrom 0 row=edgesFrom 0 (row.take (x+1)) ++ edgesFrom (x+1) (row.drop (x+1)):=by
     conv=>lhs;rw[← List.take_append_drop (x+1) row]
     rw[edgesFrom_append];simp;congr 1;omega
    generalize row[x]=t at *;have hc01:=hc1.then hc
    refine LoadT.sc (s:=.sl) (x:=sn) (by rw[cellOf (l0 hc)];rfl) ?_
    refine(hrn.chg hc01 fun _ _ h=>h).get (t:=.sc .sl) s rfl hrsl ?_
    refine(hrr.chg hc01 fun _ _ h=>h).get (t:=tI) x rfl hrx ?_
    have hmu:2*nk-(x+1)<2*nk-x:=by omega
    rw[wrap64 (x:=(x:Int)+1) (by omega) (by omega),wrap64 (x:=((degF ((row.take x).map toO):Nat):Int)+1) (by omega) (by omega)]
    refine Br.dec (fun hpos=>?_) (fun hneg=>?_)
    ·have hpos:t ≥ 0:=hpos;obtain⟨nt,rfl⟩:=Int.eq_ofNat_of_zero_le hpos;have hE1:edgesFrom x [(nt:Int)]=[((x:Int),(nt:Int),())]:=by simp[edgesFrom]
     rw[hE1]at hE;have hntl:nt<a.next.length:=by omega
     have hrowT:a.next[nt]? = some a.next[nt]:=List.getElem?_eq_getElem hntl;obtain⟨hrTl,_⟩:=hrows _ (List.getElem_mem hntl);obtain⟨slT,hslT⟩:∃ slT,sls[nt]? = some slT:=⟨_,List.getElem?_eq_getElem (by rw[hsl];exact hntl)⟩
     have hrT:=hrws nt slT _ hslT hrowT;have hx1:x ^^^ 1<a.next[nt].length:=by have:=xor_even (x:=x) (n:=nk) (by omega) hx2;omega
     have hgN:getN a.next nt (x ^^^ 1)=a.next[nt][x ^^^ 1]:=by unfold getN;rw[getD_get hntl,getD_get hx1]
     refine LoadT.sc (s:=.sl) (x:=sn) (by rw[cellOf (l0 hc)];rfl) ?_
     refine(hrn.chg hc01 fun _ _ h=>h).get (t:=.sc .sl) nt rfl hslT ?_
     rw[xor1 x (by omega)]
     refine(hrT.chg hc01 fun _ _ h=>h).get (t:=tI) (x ^^^ 1) rfl (x:=a.next[nt][x ^^^ 1]) (List.getElem?_eq_getElem hx1) ?_
     refine Br.mk (fun hne=>retF (hbad ?_) hc) (fun heq=>?_)
     ·have hne':a.next[nt][x ^^^ 1]≠(s:Int):=by simpa using hne
      unfold localS rowLocal;have:(edgesFrom 0 row).all (fun e=>getN a.next e.2.1.toNat (e.1.toNat ^^^ 1) == (s:Int))=false:=by
       rw[hEr,hE,List.all_append,List.all_append];simp only[List.all_cons,List.all_nil,Bool.and_true,Int.toNat_natCast,hgN];rw[beq_eq_false_iff_ne.2 hne'];simp
      rw[this,Bool.false_and]
     ·have heq':a.next[nt][x ^^^ 1]=(s:Int):=by simpa using heq
      refine⟨⟨x+1,hx2,?_,hc,?_⟩,hmu⟩
      ·rw[htk,degF_toO_snoc,if_pos (by omega)];rfl
      ·unfold rowLocal at hrl2 ⊢;rw[hE,List.all_append,hrl2];simp only[List.all_cons,List.all_nil,Bool.and_true,Int.toNat_natCast,hgN,heq',Bool.true_and];exact beq_self_eq_true _
    ·have hneg:¬ t ≥ 0:=hneg;have hE1:edgesFrom x [t]=[]:=by simp only[edgesFrom];rw[if_neg (by omega)]
     rw[hE1,List.append_nil]at hE;refine⟨⟨x+1,hx2,?_,hc,?_⟩,hmu⟩
     ·rw[htk,degF_toO_snoc,if_neg (by omega)];rfl
     ·unfold rowLocal at hrl2 ⊢;rw[hE];exact hrl2
   ·have hx2:x=row.length:=by omega
    rw[hx2,List.take_length]at hrl2;have htake:row.take x=row:=by rw[hx2,List.take_length]
    rw[htake];rw[wrap64 (x:=(s:Int)+1) (by omega) (by omega)]
    have next':localS a.acc a.next s row=true→(∃ s1:Nat,s1≤a.next.length∧(((nk:Int),at0 b1,((a.acc.length:Nat):Int),(s:Int)+1,()):Int × Addr × Int × Int × Unit)=((nk:Int),at0 b1,((a.acc.length:Nat):Int),(s1:Int),())∧Chg Nil w1 W∧localAll a.acc a.next s1 (a.next.drop s1)=localAll a.acc a.next 0 a.next)∧a.next.length-((s:Int)+1).toNat<a.next.length-((s:Int)).toNat:=fun h=>by
     rw[h,Bool.true_and]at hloc;exact⟨⟨s+1,hlt',rfl,hc,hloc⟩,by omega⟩
    refine Br.dec (fun hpos=>?_) (fun hz=>?_)
    ·have hpos:(s:Int)>0:=hpos;have hs0:(s == 0)=false:=by simp;omega
     refine Br.dec (fun hd2=>Br.t rfl (retF (hbad ?_) hc)) (fun hd2=>?_)
     ·have hd2:((degF (row.map toO):Nat):Int)<2:=hd2;unfold localS;rw[hrl2,hs0,decide_eq_false (by omega)];rfl
     ·have hd2:¬ ((degF (row.map toO):Nat):Int)<2:=hd2;have hsacc:s<a.acc.length:=by omega
      refine LoadT.sc (s:=.sl) (x:=sa) (by rw[cellOf (l0 hc)];rfl) ?_
      refine(hra.chg (hc1.then hc) fun _ _ h=>h).get (t:=.sc .bool) s rfl (x:=a.acc[s]) (List.getElem?_eq_getElem hsacc) ?_
      have hgd:a.acc.getD s false=a.acc[s]:=getD_get hsacc;refine Br.mk (fun ht=>retF (hbad ?_) hc) (fun hf=>next' ?_)
      ·unfold localS;rw[hrl2,hs0,hgd,ht];simp
      ·unfold localS;rw[hrl2,hs0,hgd,hf,decide_eq_true (by omega)];rfl
    ·have hz:¬ (s:Int)>0:=hz;refine Br.f rfl (next' ?_);have hs0:(s == 0)=true:=by simp;omega
     unfold localS;rw[hrl2,hs0];rfl
  ·have hsn:s=a.next.length:=by omega
   rw[hsn,List.drop_eq_nil_of_le (Nat.le_refl _)]at hloc;simp only[localAll]at hloc;rw[← hloc,Bool.true_and]at hI;have hd:Chg Nil W W.drew:=Chg.drew W;have hcd:=hc.then hd
   refine⟨fun V=>Chg Nil w1 V,hcd,?_⟩
   have ldS:∀ {K:tA.den→Prop},K (x1,x2,sa,sn,())→LoadS (fun V=>Chg Nil w1 V) tA (at0 b1) K:=fun kk=>LoadS.mk tA (fun V hV j v hv=>by rw[cellOf (l0 hV)];simpa[Ty.cells] using hv) kk
   refine ldS (ldS ?_);have haD:=ha.nil (hc1.then hcd)
   have hrB:∀ r∈a.next,∀ t∈r,t<(a.next.length:Int):=fun r hr t ht=>((hrows r hr).2 t ht).2
   refine Ret.call (GraphOf_ret (k:=nk) (x:=(x1,x2,sa,sn,())) (by omega) haD (by omega) (fun r hr=>by have:=(hrows r hr).1;omega)) ?_
   rintro⟨y1,y2,ys,_⟩ W2 ⟨q1,q2,q3,hc2,q5⟩
   have q1:y1=(nk:Int):=q1;subst q1;refine⟨hcd.then hc2,?_⟩
   have hesl:=graphL_len nk a.next 0;have hesl2:nk*a.next.length≤8*2000:=Nat.mul_le_mul (by omega) (by omega)
   have hlt:=graphL_lt (k:=nk) hrB (by omega)
   obtain⟨res,hres⟩:=numE_some (k:=nk) hlt (a.next.length+1) 0 [0] [] (by simp) (by simp;omega) (by simp) (by omega)
   have hnumR:numR nk a.next=res:=by unfold numR;rw[hres];rfl
   refine Ret.call (Numbered_ret (k:=nk) (by omega) (base:=0) (B:=a.next.length) q3.rd (by omega) (by omega) hlt (by omega) hres) ?_
   rintro⟨z1,z2,zs,zn,_⟩ W3 ⟨p1,p2,p3,hc3,p5⟩
   refine⟨(hcd.then hc2).then hc3,?_⟩
   have hB2:AutIn W3 (z1,z2,zs,zn,()) (autE nk res):=⟨p1,p2,p3.zero,by show(accF res.length).length≤_;simp[accF,maxLen];omega,by show(res.map _).length≤_;simp[maxLen];omega,fun r hr=>?_⟩
   ·refine Ret.call (Same_ret (x:=(x1,x2,sa,sn,())) ((haD.nil hc2).nil hc3) hB2) ?_
    rintro _ W4 ⟨rfl,hc4⟩
    exact⟨((hcd.then hc2).then hc3).then hc4,_,rfl,by rw[hI,hnumR],hc1.then (((hcd.then hc2).then hc3).then hc4)⟩
   ·obtain⟨r',hr',rfl⟩:=List.mem_map.1 hr;rw[List.length_map,numE_rows _ _ _ _ _ (by simp) hres r' hr']
    simp only[maxLen];omega
 ·intro J hJ;refine ldA (Chg.refl _) ?_;refine Ret.call (Check6_ret (x:=(x1,x2,sa,sn,())) (ha.nil hc1)) ?_
  rintro _ W ⟨rfl,hc⟩
  refine Br.mk (fun h=>Br.t rfl (retF ?_ hc)) (fun g1=>?_)
  ·have:¬ fsaF a.sym a.start a.acc a.next=0:=by simpa using h
   unfold isM;rw[decide_eq_false this];rfl
  have g1:fsaF a.sym a.start a.acc a.next=0:=by simpa using g1
  have i1:isM (nk:Int) a=(decide (a.sym=2*(nk:Int)) && (decide (1≤a.acc.length) && (decide (a.acc.length≤2000) && (decide (a.start=0) && (a.acc.getD 0 false && (localAll a.acc a.next 0 a.next && sameF a (autE nk (numR nk a.next)))))))):=by
   unfold isM;rw[decide_eq_true g1,Bool.true_and];rfl
  refine LoadT.sc (s:=.int .i64) (x:=x1) (by rw[cellOf (l0 hc)];rfl) ?_
  rw[hw2k,a1];refine Br.mk (fun h=>Br.t rfl (retF ?_ hc)) (fun g2=>?_)
  ·have:¬ a.sym=2*(nk:Int):=by have:¬ a.sym=((2*nk:Nat):Int):=by simpa using h
                               omega
   rw[i1,decide_eq_false this];rfl
  have g2:a.sym=2*(nk:Int):=by have:a.sym=((2*nk:Nat):Int):=by simpa using g2
                               omega
  rw[decide_eq_true g2,Bool.true_and]at i1;refine Br.dec (fun h=>Br.t rfl (retF ?_ hc)) (fun g3=>?_)
  ·have h:((a.acc.length:Nat):Int)<1:=h;rw[i1,decide_eq_false (by omega)];rfl
  have g3:¬ ((a.acc.length:Nat):Int)<1:=g3;have g3:1≤a.acc.length:=by omega
  rw[decide_eq_true g3,Bool.true_and]at i1;refine Br.dec (fun h=>Br.t rfl (retF ?_ hc)) (fun g4=>?_)
  ·have h:((a.acc.length:Nat):Int)>2000:=h;rw[i1,decide_eq_false (by omega)];rfl
  have g4:¬ ((a.acc.length:Nat):Int)>2000:=g4;have g4:a.acc.length≤2000:=by omega
  rw[decide_eq_true g4,Bool.true_and]at i1;refine LoadT.sc (s:=.int .i64) (x:=x2) (by rw[cellOf (l0 hc)];rfl) ?_
  rw[a2];refine Br.mk (fun h=>Br.t rfl (retF ?_ hc)) (fun g5=>?_)
  ·have:¬ a.start=0:=by simpa using h
   rw[i1,decide_eq_false this];rfl
  have g5:a.start=0:=by simpa using g5
  rw[decide_eq_true g5,Bool.true_and]at i1;refine LoadT.sc (s:=.sl) (x:=sa) (by rw[cellOf (l0 hc)];rfl) ?_
  refine(hra.chg (hc1.then hc) fun _ _ h=>h).get (t:=.sc .bool) 0 rfl (x:=a.acc.getD 0 false) (by rw[getD_get (show 0<a.acc.length by omega)];exact List.getElem?_eq_getElem _) ?_
  refine Br.mk (fun h=>retF ?_ hc) (fun g6=>hJ _ _ ⟨rfl,hc,g1,g2,g3,g4,g5,by simpa using g6⟩)
  have:a.acc.getD 0 false=false:=by simpa using h
  rw[i1,this];rfl
theorem Check_ret21 {w:World}{k:Int}{x:Int × Int × Sl × Sl × Unit}{a:Aut}(ha:AutIn w x a) :
  Ret Tryd.prog 18 #[.int .i64 k,.agg #[.int .i64 x.1,.int .i64 x.2.1,x.2.2.1.v,x.2.2.2.1.v]] tI w fun z w'=>z=(if ¬ (1≤k∧k≤8) then 1 else if isM k a then 0 else 210)∧Chg Nil w w':=by
 obtain⟨x1,x2,sa,sn,_⟩:=x;refine cayleyref21_Check.calls k x1 x2 sa sn ?_;unfold cayleyref21_Check.sh;refine New.mk fun b1 w1 hb1 hn1 hs1 hc1=>?_
 refine Join.by' (fun y W=>y=(k,at0 b1,())∧W=w1∧1≤k∧k≤8) ?_ ?_
 ·rintro y W g ⟨rfl,hW,h1,h2⟩
  rw[hW];clear hW;dsimp only;rw[if_neg (by omega)]
  refine LoadT.mk tA (x:=(x1,x2,sa,sn,())) (fun j v hv=>by rw[cellOf hn1];simpa[Ty.cells] using hv) ?_
  refine Ret.call (Is_ret21 ⟨h1,h2⟩ (x:=(x1,x2,sa,sn,())) (ha.nil hc1)) ?_
  rintro _ W ⟨rfl,hc⟩
  refine Br.mk (fun h=>⟨210,rfl,?_,hc1.then hc⟩) (fun h=>⟨0,rfl,?_,hc1.then hc⟩)
  ·have:isM k a=false:=by simpa using h
   rw[this];rfl
  ·have:isM k a=true:=by simpa using h
   rw[this];rfl
 ·intro J hJ;refine Br.dec (fun h=>Br.t rfl ⟨1,rfl,?_,hc1⟩) (fun h=>Br.dec (fun h2=>⟨1,rfl,?_,hc1⟩) (fun h2=>hJ _ _ ⟨rfl,rfl,?_,?_⟩))
  ·rw[if_pos (by have h:k<1:=h;omega)]
  ·rw[if_pos (by have h2:k>8:=h2;omega)]
  ·have h:¬ k<1:=h;omega
  ·have h2:¬ k>8:=h2;omega
end Go.Proofs.YtffdjfkekdoeaaaDoor.Rf
end
section
namespace Go.Proofs.YtffdjfkekdoeaaaDoor.Pl
open Fo Rf
def rowOf (rows:List (Option Row))(v:Nat):Row:=
 match rows[v]? with
 | some (some r)=>r
 | _=>[]
def numG (ρ:Nat→Row):Nat→Nat→List Nat→List Row→Option (List Row)
 | 0,_,_,_=>none
 | f+1,i,q,out=>
  match q[i]? with
  | none=>some out
  | some v=>numG ρ f (i+1) (bfsRow (ρ v) q).1 (out ++ [(bfsRow (ρ v) q).2])
theorem numG_len {ρ:Nat→Row}:∀ (K i:Nat)(q:List Nat)(out res:List Row),out.length=i→i≤q.length→numG ρ K i q out=some res→q.length≤res.length
 | 0,_,_,_,_,_,_,h=>by simp[numG]at h
 | K+1,i,q,out,res,ho,hi,h=>by
  simp only[numG]at h;split at h
  ·rename_i hn
   cases h
   have:q.length≤i:=by simpa using hn
   omega
  ·rename_i v hv
   have hlt:=(List.getElem?_eq_some_iff.1 hv).1;have hg:=bfsRow_grow (ρ v) q;have:=numG_len K (i+1) _ _ res (by simp[ho]) (by omega) h
   omega
theorem numG_some {ρ:Nat→Row}{B:Nat}(hB:∀ v,v<B→∀ t,some t∈ρ v→t<B):∀ (K i:Nat)(q:List Nat)(out:List Row),q.Nodup→(∀ v∈q,v<B)→i≤q.length→B-i<K→∃ res,numG ρ K i q out=some res
 | 0,i,q,out,_,_,_,h=>absurd h (Nat.not_lt_zero _)
 | K+1,i,q,out,hn,hq,hi,hK=>by
  simp only[numG];split
  ·exact⟨_,rfl⟩
  ·rename_i v hv
   have hlt:=(List.getElem?_eq_some_iff.1 hv).1;have hl:=nodup_len B q hn hq;obtain⟨h1,h2⟩:=bfsRow_ok (B:=B) (ρ v) q (hB v (hq v (List.mem_of_getElem? hv))) hn hq;have h3:=bfsRow_grow (ρ v) q;exact numG_some hB K (i+1) _ _ h1 h2 (by omega) (by omega)
theorem numG_fuel {ρ:Nat→Row}:∀ (K K' i:Nat)(q:List Nat)(out res:List Row),K≤K'→numG ρ K i q out=some res→numG ρ K' i q out=some res
 | 0,_,_,_,_,_,_,h=>by simp[numG]at h
 | K+1,0,_,_,_,_,h,_=>by omega
 | K+1,K'+1,i,q,out,res,hK,h=>by
  simp only[numG]at h ⊢;split at h
  ·exact h
  ·exact numG_fuel K K' _ _ _ res (by omega) h
theorem row_live {m:Nat}{rows:List (Option Row)}(hw:Wf m rows){v:Nat}(h:Live rows v):rows[v]? = some (some (rowOf rows v))∧(rowOf rows v).length=m∧∀ t,some t∈rowOf rows v→Live rows t:=by
 obtain⟨r,hr⟩:=h;have e:rowOf rows v=r:=by unfold rowOf;rw[hr]
 rw[e];refine⟨hr,hw.len v r hr,fun t ht=>?_⟩
 obtain⟨x,hx⟩:=List.getElem?_of_mem ht;exact hw.tgt v x t ⟨r,hr,hx⟩
theorem bfsRow_live {rows:List (Option Row)}:∀ (row:Row)(q:List Nat),(∀ t,some t∈row→Live rows t)→(∀ v∈q,Live rows v)→∀ v∈(bfsRow row q).1,Live rows v
 | [],q,_,hq=>hq
 | none :: l,q,hr,hq=>bfsRow_live l q (fun t ht=>hr t (by simp[ht])) hq
 | some t :: l,q,hr,hq=>by
  simp only[bfsRow];split
  ·exact bfsRow_live l q (fun t ht=>hr t (by simp[ht])) hq
  ·refine bfsRow_live l (q ++ [t]) (fun t ht=>hr t (by simp[ht])) fun v hv=>?_
   rcases List.mem_append.1 hv with hv|hv
   ·exact hq v hv
   ·simp only[List.mem_singleton]at hv;subst hv;exact hr v (by simp)
theorem live_lt {rows:List (Option Row)}{v:Nat}(h:Live rows v):v<rows.length:=by
 obtain⟨r,hr⟩:=h;exact(List.getElem?_eq_some_iff.1 hr).1
theorem bfs_ev {m:Nat}{rows:List (Option Row)}(hw:Wf m rows):∀ (K i:Nat)(q:List Nat)(out:List Row),q.Nodup→(∀ v∈q,Live rows v)→i≤q.length→out.length=i→q.length≤2000→rows.length-i<K →
  ∃ o,bfsF m rows K i q out=some o∧(∀ res,o=some res→numG (rowOf rows) K i q out=some res∧res.length≤2000)∧(o=none→∃ res,numG (rowOf rows) K i q out=some res∧2000<res.length)
 | 0,i,q,out,_,_,_,_,_,h=>absurd h (Nat.not_lt_zero _)
 | K+1,i,q,out,hn,hq,hi,ho,h2,hK=>by
  simp only[bfsF,numG];cases hv:q[i]? with
  | none=>
   have hqi:q.length≤i:=by simpa using hv
   exact⟨some out,rfl,fun res h=>by cases h;exact⟨rfl,by omega⟩,fun h=>by cases h⟩
  | some v=>
   have hlv:=hq v (List.mem_of_getElem? hv);obtain⟨hr1,hr2,hr3⟩:=row_live hw hlv;have hlt:=(List.getElem?_eq_some_iff.1 hv).1;obtain⟨a1,_⟩:=bfsRow_ok (B:=rows.length) (rowOf rows v) q (fun t ht=>live_lt (hr3 t ht)) hn fun u hu=>live_lt (hq u hu)
   have a2:=bfsRow_live (rowOf rows v) q hr3 hq;have a3:=bfsRow_grow (rowOf rows v) q;have hl:=nodup_len rows.length q hn fun u hu=>live_lt (hq u hu)
   simp only[hr1];rw[if_pos hr2]
   by_cases hbig:2000<(bfsRow (rowOf rows v) q).1.length
   ·rw[if_pos hbig];refine⟨none,rfl,fun res h=>(by cases h),fun _=>?_⟩
    obtain⟨res,hres⟩:=numG_some (ρ:=rowOf rows) (B:=rows.length) (fun u hu t ht=>by
     by_cases hlu:Live rows u
     ·exact live_lt ((row_live hw hlu).2.2 t ht)
     ·have:rowOf rows u=[]:=by
       unfold rowOf;split
       ·rename_i r hr;exact absurd ⟨r,hr⟩ hlu
       ·rfl
      rw[this]at ht;simp at ht) K (i+1) _ (out ++ [(bfsRow (rowOf rows v) q).2]) a1 (fun u hu=>live_lt (a2 u hu)) (by omega) (by omega)
    have:=numG_len K (i+1) _ _ res (by simp[ho]) (by omega) hres
    exact⟨res,hres,by omega⟩
   ·rw[if_neg hbig];exact bfs_ev hw K (i+1) _ _ a1 a2 (by omega) (by simp[ho]) (by omega) (by omega)
theorem rowsS_get {par:List Nat}:∀ (l:List Row)(s i:Nat),(rowsS par s l)[i]? = (l[i]?).map fun row=>if rt par (s+i)=s+i then some (row.map (Option.map (rt par))) else none
 | [],s,i=>by simp[rowsS]
 | row :: l,s,0=>by simp[rowsS]
 | row :: l,s,i+1=>by
  have:=rowsS_get (par:=par) l (s+1) i;simp only[rowsS,List.getElem?_cons_succ,this];rw[show s+1+i=s+(i+1) by omega]
theorem rowsS_len {par:List Nat}:∀ (l:List Row)(s:Nat),(rowsS par s l).length=l.length
 | [],_=>rfl
 | row :: l,s=>by simp[rowsS,rowsS_len l (s+1)]
def Both (E:List Edg):Prop:=∀ s x t,(s,x,t)∈E→(t,x ^^^ 1,s)∈E
theorem Eqv.nil {par:List Nat}(hsm:∀ u v w,Sm par u v→Sm par v w→Sm par u w){u v:Nat}(h:Eqv par [] u v):Sm par u v:=by
 induction h with
 | same h=>exact h
 | pair h=>simp at h
 | symm _ ih=>obtain⟨r,a,b⟩:=ih;exact⟨r,b,a⟩
 | trans _ _ ih1 ih2=>exact hsm _ _ _ ih1 ih2
theorem Sm.trans {par:List Nat}{u v w:Nat}(h:Sm par u v)(k:Sm par v w):Sm par u w:=by
 obtain⟨r,a,b⟩:=h;obtain⟨r',c,d⟩:=k;have:=b.unique c;subst this;exact⟨r,a,d⟩
theorem Sm.symm {par:List Nat}{u v:Nat}(h:Sm par u v):Sm par v u:=by obtain⟨r,a,b⟩:=h;exact⟨r,b,a⟩
section
variable {E:List Edg} {st:St}
theorem Inv.same_iff (h:Inv E st){u v:Nat}(hu:u<st.par.length):Cg E u v→Sm st.par u v:=by
 obtain⟨d,hf⟩:=h.ok.forest;have hE:∀ s x t,(s,x,t)∈E→s<st.par.length∧t<st.par.length:=fun s x t he=>by
  obtain⟨r,t',h1,h2,h3⟩:=h.cm s x t he;refine⟨h1.lt_left,?_⟩;rw[h.todo]at h3;obtain⟨r',_,hb⟩:=Eqv.nil (fun _ _ _=>Sm.trans) h3
  exact hb.lt_left
 have key:∀ {u v:Nat},Cg E u v→Sm st.par u v∨u=v:=by
  intro u v hc;induction hc with
  | refl u=>exact .inr rfl
  | symm _ ih=>exact ih.imp Sm.symm Eq.symm
  | trans _ _ ih1 ih2=>
   rcases ih1 with h1|rfl
   ·rcases ih2 with h2|rfl
    ·exact .inl (h1.trans h2)
    ·exact .inl h1
   ·exact ih2
  | @fold s s' x t t' h1 h2 h0 ih=>
   obtain⟨r,q,a1,a2,a3⟩:=h.cm s x t h1;obtain⟨r',q',b1,b2,b3⟩:=h.cm s' x t' h2;rw[h.todo]at a3 b3;have a3:=Eqv.nil (fun _ _ _=>Sm.trans) a3
   have b3:=Eqv.nil (fun _ _ _=>Sm.trans) b3
   have hrr:r=r':=by
    rcases ih with ⟨z,c1,c2⟩|rfl
    ·have e1:=a1.unique c1;have e2:=b1.unique c2;rw[e1,e2]
    ·exact a1.unique b1
   subst hrr;obtain⟨row,e1,e2⟩:=a2;obtain⟨row',e3,e4⟩:=b2;rw[e1]at e3;cases e3;rw[e2]at e4;cases e4;exact .inl (a3.symm.trans b3)
 intro hc;rcases key hc with h1|rfl
 ·exact h1
 ·obtain⟨r,hr⟩:=hf.root _ u (Nat.le_refl _) hu;exact⟨r,hr,hr⟩
theorem to_rows (h:Inv E st){s x t:Nat}:To (rowsS st.par 0 st.next) s x t↔∃ u,Root st.par s s∧Ent st s x u∧Root st.par u t:=by
 obtain⟨d,hf⟩:=h.ok.forest;constructor
 ·rintro⟨row,h1,h2⟩
  rw[rowsS_get,Nat.zero_add]at h1;cases hr:st.next[s]? with
  | none=>rw[hr]at h1;cases h1
  | some r=>
   rw[hr]at h1;simp only[Option.map_some,Option.some.injEq]at h1;split at h1
   ·rename_i hrt
    cases h1
    rw[List.getElem?_map]at h2;cases hx:r[x]? with
    | none=>rw[hx]at h2;cases h2
    | some o=>
     rw[hx]at h2;cases o with
     | none=>cases h2
     | some u=>
      simp only[Option.map_some,Option.some.injEq]at h2;have hs:s<st.par.length:=by rw[← h.ok.len];exact(List.getElem?_eq_some_iff.1 hr).1
      have hu:u<st.par.length:=(h.ok.row r (List.mem_of_getElem? hr)).2 u (List.mem_of_getElem? hx);obtain⟨q,hq⟩:=hf.root _ s (Nat.le_refl _) hs;obtain⟨q',hq'⟩:=hf.root _ u (Nat.le_refl _) hu;have e1:=rt_spec hq;rw[hrt]at e1;subst e1;have e2:=rt_spec hq';rw[h2]at e2;subst e2;exact⟨u,hq,⟨r,hr,hx⟩,hq'⟩
   ·cases h1
 ·rintro⟨u,h1,⟨r,h2,h3⟩,h4⟩
  refine⟨r.map (Option.map (rt st.par)),?_,by rw[List.getElem?_map,h3];simp[rt_spec h4]⟩
  rw[rowsS_get,Nat.zero_add,h2];simp[rt_spec h1]
theorem live_rows (h:Inv E st){s:Nat}:Live (rowsS st.par 0 st.next) s↔Root st.par s s:=by
 obtain⟨d,hf⟩:=h.ok.forest;constructor
 ·rintro⟨row,h1⟩
  rw[rowsS_get,Nat.zero_add]at h1;cases hr:st.next[s]? with
  | none=>rw[hr]at h1;cases h1
  | some r=>
   rw[hr]at h1;simp only[Option.map_some,Option.some.injEq]at h1;split at h1
   ·rename_i hrt
    have hs:s<st.par.length:=by rw[← h.ok.len];exact(List.getElem?_eq_some_iff.1 hr).1
    obtain⟨q,hq⟩:=hf.root _ s (Nat.le_refl _) hs;have e1:=rt_spec hq;rw[hrt]at e1;subst e1;exact hq
   ·cases h1
 ·intro h1;have hs:s<st.next.length:=by rw[h.ok.len];exact h1.lt
  exact⟨_,by rw[rowsS_get,Nat.zero_add,List.getElem?_eq_getElem hs];simp[rt_spec h1];rfl⟩
theorem wf_rows (h:Inv E st)(hb:Both E):Wf st.m (rowsS st.par 0 st.next) where
 len:=fun s row h1=>by
  rw[rowsS_get,Nat.zero_add]at h1;cases hr:st.next[s]? with
  | none=>rw[hr]at h1;cases h1
  | some r=>
   rw[hr]at h1;simp only[Option.map_some,Option.some.injEq]at h1;split at h1
   ·cases h1;rw[List.length_map];exact(h.ok.row r (List.mem_of_getElem? hr)).1
   ·cases h1
 tgt:=fun s x t ht=>by
  obtain⟨u,_,_,h3⟩:=(to_rows h).1 ht;exact(live_rows h).2 h3.self
 inv:=fun s x t ht=>by
  obtain⟨u,h1,h2,h3⟩:=(to_rows h).1 ht;obtain⟨s',e1,e2⟩:=h.snd.ent s x u h2;obtain⟨r,q,a1,a2,a3⟩:=h.cm u (x ^^^ 1) s' (hb _ _ _ e1);rw[h.todo]at a3;have a3:=Eqv.nil (fun _ _ _=>Sm.trans) a3
  have hrt:=h3.unique a1;subst hrt;obtain⟨z,c1,c2⟩:=a3.trans (h.same_iff h1.lt e2).symm;have:z=s:=c2.unique h1;subst this;exact(to_rows h).2 ⟨q,h3.self,a2,c1⟩
end
structure MadeOf (m start:Nat)(rows:List (Option Row)) (rows':List (Option Row))(o:Option (List Row)):Prop where
 wf:Wf m rows'
 cut:Cut start rows rows'
 two:∀ s x t,To rows' s x t→s≠start→∃ x' t',x'≠x∧To rows' s x' t'
 yes:∀ res,o=some res→(∃ K,numG (rowOf rows') K 0 [start] []=some res)∧res.length≤2000
 no:o=none→∃ res,(∃ K,numG (rowOf rows') K 0 [start] []=some res)∧2000<res.length
theorem made_ev {E:List Edg}{st:St}(h:Inv E st)(hb:Both E)(hxm:∀ x,x<st.m→x ^^^ 1<st.m){s:Nat}(hs:s<st.par.length)(hbig:st.par.length*(st.m+1)<big) :
  ∃ o rows',Ev (fun K=>madeF K st s) o∧MadeOf st.m (rt st.par s) (rowsS st.par 0 st.next) rows' o:=by
 obtain⟨d,hf⟩:=h.ok.forest;obtain⟨par1,⟨K1,a1⟩,a2,a3,a4⟩:=rows_ev st.next st.par 0 hf (by rw[h.ok.len];omega) fun row hr t ht=>(h.ok.row row hr).2 t ht
 obtain⟨par2,r,k1,k2,k3,k4,k5⟩:=find_ev (d s) s par1 (Nat.le_refl _) a2 (by rw[a3];exact hs)
 have hr:=(a4 _ _).1 k2;have hrt:=rt_spec hr;rw[hrt];have hw:=wf_rows h hb;have hlen:(rowsS st.par 0 st.next).length=st.par.length:=by rw[rowsS_len,h.ok.len]
 obtain⟨rows',_,p1,p2,p3,p4⟩:=pruned (start:=r) hxm hw (by rw[hlen];exact hbig)
 rw[hlen]at p1;have hlv:Live rows' r:=(p3.live r).2 ((live_rows h).2 hr.self);have hl':rows'.length=st.par.length:=p3.len.trans hlen;have hq:∀ K,rows'.length<K→∃ o,bfsF st.m rows' K 0 [r] []=some o∧(∀ res,o=some res→numG (rowOf rows') K 0 [r] []=some res∧res.length≤2000)∧(o=none→∃ res,numG (rowOf rows') K 0 [r] []=some res∧2000<res.length):=fun K hK=>
  bfs_ev p2 K 0 [r] [] (by simp) (by simpa using hlv) (by simp) rfl (by simp) (by omega)
 obtain⟨o,q1,q2,q3⟩:=hq (rows'.length+1) (by omega)
 have huniq:∀ K,rows'.length<K→bfsF st.m rows' K 0 [r] []=some o:=fun K hK=>by
  obtain⟨o',r1,r2,r3⟩:=hq K hK;rw[r1]
  congr 1
  cases o with
  | some res=>
   obtain⟨e1,e2⟩:=q2 res rfl;cases o' with
   | some res'=>
    obtain⟨e3,_⟩:=r2 res' rfl;have:=numG_fuel _ K _ _ _ _ (by omega) e1
    rw[this]at e3;cases e3;rfl
   | none=>
    obtain⟨res',e3,e4⟩:=r3 rfl;have:=numG_fuel _ K _ _ _ _ (by omega) e1
    rw[this]at e3;cases e3;omega
  | none=>
   obtain⟨res,e1,e2⟩:=q3 rfl;cases o' with
   | some res'=>
    obtain⟨e3,e4⟩:=r2 res' rfl;have:=numG_fuel _ K _ _ _ _ (by omega) e1
    rw[this]at e3;cases e3;omega
   | none=>rfl
 refine⟨o,rows',⟨K1+d s+st.par.length*(st.m+1)+rows'.length+1,fun K hK=>?_⟩,⟨p2,p3,p4,fun res hres=>⟨⟨_,(q2 res hres).1⟩,(q2 res hres).2⟩,fun hn=>?_⟩⟩
 ·show madeF K st s=_
  unfold madeF;rw[show rowsF K st.par st.next 0=_ from a1 K (by omega)]
  simp only;rw[k1 K (by omega)]
  simp only;unfold numberedF;rw[p1 K (by omega)]
  exact huniq K (by omega)
 ·obtain⟨res,e1,e2⟩:=q3 hn;exact⟨res,⟨_,e1⟩,e2⟩
end Go.Proofs.YtffdjfkekdoeaaaDoor.Pl
end
section
namespace Go.Proofs.YtffdjfkekdoeaaaDoor.Pl
open Fo Wd
theorem xor_rank:∀ k:Fin 9,∀ x:Fin 16,x.val<2*k.val→x.val ^^^ 1<2*k.val:=by decide
theorem xor_lt {k x:Nat}(hk:k≤8)(hx:x<2*k):x ^^^ 1<2*k:=xor_rank ⟨k,by omega⟩ ⟨x,by omega⟩ hx
theorem xor_two (x:Nat):(x ^^^ 1) ^^^ 1=x:=by rw[Nat.xor_assoc,Nat.xor_self,Nat.xor_zero]
theorem Both.app {E E':List Edg}(h:Both E) (h':Both E'):Both (E ++ E'):=fun s x t he=>by
 rcases List.mem_append.1 he with he|he
 ·exact List.mem_append.2 (.inl (h _ _ _ he))
 ·exact List.mem_append.2 (.inr (h' _ _ _ he))
theorem Both.nil:Both []:=fun s x t he=>by simp at he
theorem Both.pair (s x t:Nat):Both [(s,x,t),(t,x ^^^ 1,s)]:=fun a y b he=>by
 simp only[List.mem_cons,Prod.mk.injEq,List.not_mem_nil,or_false]at he ⊢;rcases he with ⟨rfl,rfl,rfl⟩|⟨rfl,rfl,rfl⟩
 ·exact .inr ⟨rfl,rfl,rfl⟩
 ·exact .inl ⟨rfl,xor_two _,rfl⟩
theorem pathE_both:∀ (w:List Nat)(n s t:Nat),Both (pathE n s w t)
 | [],n,s,t=>Both.nil
 | [x],n,s,t=>Both.pair s x t
 | x :: y :: l,n,s,t=>(Both.pair s x n).app (pathE_both (y :: l) (n+1) n t)
theorem wordF_lt {k:Int}{s:ByteArray}(h:checkF k s=0):∀ x∈wordF s,x<2*k.toNat:=by
 obtain⟨h1,h2,h3,h4⟩:=check_bad h;unfold hasBad at h4;rw[List.any_eq_false]at h4;have hb:∀ b∈s.data.toList,badF k (ofB b)=false:=fun b hb=>by simpa[ofB] using h4 b hb
 intro x hx;unfold wordF at hx;obtain⟨b,hb1,rfl⟩:=List.mem_map.1 hx;have:=redFold_mem (P:=fun b=>badF k (ofB b)=false) s.data.toList [] (by simp) hb b hb1
 simp only[badF,Bool.or_eq_false_iff,decide_eq_false_iff_not]at this;omega
def resOf (m:Nat):Option (List Row)→FoldR
 | none=>.err 2
 | some nexts=>.ok m nexts
end Go.Proofs.YtffdjfkekdoeaaaDoor.Pl
end
section
namespace Go.Proofs.YtffdjfkekdoeaaaDoor.Rf
open Fw Wd Fo Pl
def edgeR (s x t:Nat):Ed:=if x % 2=0 then (s,x,t) else (t,x-1,s)
def pathR:Nat→Nat→List Nat→List Ed
 | _,_,[]=>[]
 | at',n,[x]=>[edgeR at' x 0]
 | at',n,x :: y :: l=>edgeR at' x n :: pathR n (n+1) (y :: l)
def InB (B:Nat)(es:List Ed):Prop:=∀ e∈es,e.1<B∧e.2.2<B
theorem pathR_inB:∀ (l:List Nat)(a n B:Nat),a<B→0<B→n+(l.length-1)≤B→InB B (pathR a n l)
 | [],a,n,B,_,_,_=>fun e he=>by simp[pathR]at he
 | [x],a,n,B,ha,h0,_=>fun e he=>by
  simp only[pathR,List.mem_singleton]at he;subst he;unfold edgeR;split <;> exact⟨by assumption,by assumption⟩
 | x :: y :: l,a,n,B,ha,h0,hn=>fun e he=>by
  simp only[List.length_cons]at hn;simp only[pathR,List.mem_cons]at he;rcases he with rfl|he
  ·have h1:n<B:=by omega
   unfold edgeR;split <;> exact⟨by assumption,by assumption⟩
  ·exact pathR_inB (y :: l) n (n+1) B (by omega) h0 (by simp only[List.length_cons];omega) e he
theorem pairC_in {B:Nat}{a b:Ed}{u v:Nat}(ha:a.1<B∧a.2.2<B)(hb:b.1<B∧b.2.2<B)(h:pairC a b=some (u,v)):u<B∧v<B:=by
 unfold pairC at h;split at h
 ·simp only[Option.some.injEq,Prod.mk.injEq]at h;omega
 ·split at h
  ·simp only[Option.some.injEq,Prod.mk.injEq]at h;omega
  ·cases h
theorem clashI_in {B:Nat}{a:Ed}(ha:a.1<B∧a.2.2<B):∀ {l:List Ed}{u v:Nat},InB B l→clashI a l=some (u,v)→u<B∧v<B
 | [],u,v,_,h=>by simp[clashI]at h
 | b :: l,u,v,hl,h=>by
  simp only[clashI]at h;split at h
  ·rename_i r hr
   cases h
   exact pairC_in ha (hl b (by simp)) hr
  ·exact clashI_in ha (fun e he=>hl e (by simp[he])) h
theorem clashG_in {B:Nat}:∀ {l seen:List Ed}{u v:Nat},InB B seen→InB B l→clashG seen l=some (u,v)→u<B∧v<B
 | [],seen,u,v,_,_,h=>by simp[clashG]at h
 | a :: l,seen,u,v,hs,hl,h=>by
  simp only[clashG]at h;split at h
  ·rename_i r hr
   cases h
   exact clashI_in (hl a (by simp)) hs hr
  ·refine clashG_in (fun e he=>?_) (fun e he=>hl e (by simp[he])) h
   rcases List.mem_append.1 he with he|he
   ·exact hs e he
   ·simp only[List.mem_singleton]at he;subst he;exact hl e (by simp)
theorem mergedE_mem {a b:Nat}:∀ {es out:List Ed}{e:Ed},e∈mergedE a b es out↔e∈out∨∃ e'∈es,e=renE a b e'
 | [],out,e=>by simp[mergedE]
 | d :: l,out,e=>by
  have h1:mergedE a b (d :: l) out=mergedE a b l (insertE out (renE a b d)):=rfl;rw[h1,mergedE_mem];have h2:e∈insertE out (renE a b d)↔e∈out∨e=renE a b d:=by
   unfold insertE;split
   ·rename_i hm
    constructor
    ·exact .inl
    ·rintro(h|rfl)
     ·exact h
     ·exact hm
   ·simp
  rw[h2];simp only[List.mem_cons,exists_eq_or_imp,or_assoc]
theorem mergedE_inB {B a b:Nat}{es:List Ed}(h:InB B es)(ha:a<B):InB B (mergedE a b es []):=fun e he=>by
 rcases mergedE_mem.1 he with he|⟨e',he',rfl⟩
 ·simp at he
 ·have:=h e' he';unfold renE ren;constructor <;> dsimp only <;> split <;> omega
theorem foldedE_inB {B:Nat}:∀ {K:Nat}{es res:List Ed},InB B es→foldedE K es=some res→InB B res
 | 0,es,res,_,h=>by simp[foldedE]at h
 | K+1,es,res,hb,h=>by
  simp only[foldedE]at h;split at h
  ·cases h;exact hb
  ·rename_i a b hab
   exact foldedE_inB (mergedE_inB hb (clashG_in (fun e he=>by simp at he) hb hab).1) h
theorem leafI_sub {all:Bool}{es:List Ed}:∀ {l pre res:List Ed},leafI all es pre l=some res→∀ e∈res,e∈pre∨e∈l
 | [],pre,res,h=>by simp[leafI]at h
 | d :: l,pre,res,h=>by
  simp only[leafI]at h;split at h
  ·cases h
   intro e he;rcases List.mem_append.1 he with he|he
   ·exact .inl he
   ·exact .inr (by simp[he])
  ·intro e he;rcases leafI_sub h e he with h1|h1
   ·rcases List.mem_append.1 h1 with h1|h1
    ·exact .inl h1
    ·simp only[List.mem_singleton]at h1;subst h1;exact .inr (by simp)
   ·exact .inr (by simp[h1])
theorem prunedE_sub {all:Bool}:∀ {K:Nat}{es res:List Ed},prunedE all K es=some res→∀ e∈res,e∈es
 | 0,es,res,h=>by simp[prunedE]at h
 | K+1,es,res,h=>by
  simp only[prunedE]at h;split at h
  ·cases h;exact fun e he=>he
  ·rename_i es' hl
   intro e he;rcases leafI_sub hl e (prunedE_sub h e he) with h1|h1
   ·simp at h1
   ·exact h1
def stallF (k K:Nat)(es:List Ed):Option (List Row):=
 match foldedE K es with
 | none=>none
 | some es1=>match prunedE false K es1 with
  | none=>none
  | some es2=>numE k es2 K 0 [0] []
theorem Stallings_ret {w:World}{k:Nat}(hk:k≤8){g2:Int}{s:Sl}{es:List Ed}(h:OwnT w 100 tE s (es.map ofE))(hb:es.length≤1000000){B:Nat}(hB:B≤1000000)(hB0:0<B)(hes:InB B es){K:Nat}{res:List Row}(hf:stallF k K es=some res) :
  Ret Tryd.prog 51 #[.agg #[.int .i64 (k:Int),.int .i64 g2,s.v]] tA w fun y w'=>y.1=((2*k:Nat):Int)∧y.2.1=0∧AutR w.heap.size w' y.2.2.1 y.2.2.2.1 (accF res.length) (res.map (·.map ofO))∧Chg Nil w w'∧res.length≤B:=by
 refine cayleyref21_Stallings.calls (k:Int) g2 s ?_;unfold cayleyref21_Stallings.sh;unfold stallF at hf;split at hf
 ·cases hf
 rename_i es1 h1
 split at hf
 ·cases hf
 rename_i es2 h2
 have b1':=foldedE_inB hes h1;have b2':InB B es2:=fun e he=>b1' e (prunedE_sub h2 e he)
 refine New.mk fun b1 w1 hb1 hn1 hs1 hc1=>?_
 refine New.mk fun b3 w2 hb3 hn3 hs3 hc3=>?_
 have hc02:=hc1.then hc3
 refine LoadT.mk tG (x:=((k:Int),g2,s,())) (fun j v hv=>by rw[cellOf (hc3.heap hn1 fun h=>h)];simpa[Ty.cells] using hv) ?_
 have h02:=h.chg hc02 fun _ _ h=>h
 refine Ret.call (Folded_ret h02.rd (fun k hk=>OwnT.ltk h02 hk) (OwnT.cap h02) (by omega) h1) ?_
 rintro⟨q1,q2,s1,_⟩ w3 ⟨e1,e2,r1,o1,c1,hc4,l1⟩
 have e1:q1=(k:Int):=e1;subst e1;refine Ret.call (Pruned_ret false r1 o1 c1 (by omega) h2) ?_
 rintro⟨q3,q4,s2,_⟩ w4 ⟨e1,e2,r2,o2,c2,hc5,l2⟩
 have e1:q3=(k:Int):=e1;subst e1;refine Ret.call (Numbered_ret hk r2 (by omega) hB b2' hB0 hf) ?_
 rintro⟨q1,q2,sa,sn,_⟩ w5 ⟨e1,e2,ha,hc6,l3⟩
 have e1:q1=((2*k:Nat):Int):=e1;have e2:q2=0:=e2;subst e1 e2;have s1':=hc1.size;have s3':=lt_of_heap hn3;have h46:=(hc4.then hc5).then hc6
 refine StoreN.whole (vs:=[.int .i64 ((2*k:Nat):Int),.int .i64 0,sa.v,sn.v]) (h46.heap hn3 fun h=>h) rfl fun w6 hh6 hc7 _=>?_
 refine LoadT.mk tA (x:=(((2*k:Nat):Int),(0:Int),sa,sn,())) (fun j v hv=>by rw[cellOf hh6];simpa[Ty.cells] using hv) ?_
 have z4:=(hc4.then hc5).size
 have z2:=hc02.size;refine⟨_,rfl,rfl,rfl,?_,(hc02.then h46).trans hc7 (fun _ _ h=>h) fun i hi he=>(by have he:i=b3:=he;omega),l3⟩
 exact(ha.chg hc7 fun k hk he=>by have he:k=b3:=he;omega).mono (by omega)
end Go.Proofs.YtffdjfkekdoeaaaDoor.Rf
end
section
namespace Go.Proofs.YtffdjfkekdoeaaaDoor.Pl
open Fo Rf
theorem xor1 (x:Nat):x ^^^ 1=if x % 2=0 then x+1 else x-1:=by
 have h1:(x ^^^ 1) / 2=x / 2:=by rw[Nat.xor_div_two];simp
 have h2:=@Nat.xor_mod_two_eq_one x 1;split <;> omega
def Dir (es:List Ed)(s x t:Nat):Prop:=(x % 2=0∧(s,x,t)∈es)∨(x % 2=1∧(t,x-1,s)∈es)
theorem Dir.back {es:List Ed}{s x t:Nat}(h:Dir es s x t):Dir es t (x ^^^ 1) s:=by
 rw[xor1];rcases h with ⟨h1,h2⟩|⟨h1,h2⟩
 ·rw[if_pos h1];exact .inr ⟨by omega,h2⟩
 ·rw[if_neg (by omega)];exact .inl ⟨by omega,h2⟩
theorem Dir.mono {es es':List Ed}(h:∀ e∈es,e∈es'){s x t:Nat}(k:Dir es s x t):Dir es' s x t:=k.imp (fun⟨a,b⟩=>⟨a,h _ b⟩) fun⟨a,b⟩=>⟨a,h _ b⟩
theorem dir_app {es es':List Ed}{s x t:Nat}:Dir (es ++ es') s x t↔Dir es s x t∨Dir es' s x t:=by
 unfold Dir;simp only[List.mem_append];constructor
 ·rintro(⟨a,b|b⟩|⟨a,b|b⟩)
  ·exact .inl (.inl ⟨a,b⟩)
  ·exact .inr (.inl ⟨a,b⟩)
  ·exact .inl (.inr ⟨a,b⟩)
  ·exact .inr (.inr ⟨a,b⟩)
 ·rintro((⟨a,b⟩|⟨a,b⟩)|⟨a,b⟩|⟨a,b⟩)
  ·exact .inl ⟨a,.inl b⟩
  ·exact .inr ⟨a,.inl b⟩
  ·exact .inl ⟨a,.inr b⟩
  ·exact .inr ⟨a,.inr b⟩
theorem dir_edge {s x t a y b:Nat}:Dir [edgeR s x t] a y b↔(a,y,b)=(s,x,t)∨(a,y,b)=(t,x ^^^ 1,s):=by
 rw[xor1];unfold Dir edgeR;split <;> simp only[List.mem_singleton,Prod.mk.injEq] <;> omega
def Evn (es:List Ed):Prop:=∀ e∈es,e.2.1 % 2=0
theorem edgeR_even (s x t:Nat):(edgeR s x t).2.1 % 2=0:=by
 unfold edgeR
 by_cases h:x % 2=0
 ·rw[if_pos h];exact h
 ·rw[if_neg h];show(x-1) % 2=0;omega
def Det (es:List Ed):Prop:=∀ s x t t',Dir es s x t→Dir es s x t'→t=t'
theorem pairC_none {a b:Ed}(h:pairC a b=none):(a.2.1=b.2.1→a.1=b.1→a.2.2=b.2.2)∧(a.2.1=b.2.1→a.2.2=b.2.2→a.1=b.1):=by
 unfold pairC at h;split at h
 ·cases h
 ·split at h
  ·cases h
  ·omega
theorem clashI_none {a:Ed}:∀ {l:List Ed},clashI a l=none→∀ b∈l,pairC a b=none
 | [],_=>fun b hb=>by simp at hb
 | c :: l,h=>by
  simp only[clashI]at h;split at h
  ·cases h
  ·rename_i hc
   intro b hb;rcases List.mem_cons.1 hb with rfl|hb
   ·exact hc
   ·exact clashI_none h b hb
theorem clashG_none:∀ {l seen:List Ed},clashG seen l=none→(∀ a∈l,∀ b∈seen,pairC a b=none)∧∀ a∈l,∀ b∈l,a=b∨pairC a b=none∨pairC b a=none
 | [],seen,_=>⟨fun a ha=>by simp at ha,fun a ha=>by simp at ha⟩
 | c :: l,seen,h=>by
  simp only[clashG]at h;split at h
  ·cases h
  ·rename_i hc
   obtain⟨h1,h2⟩:=clashG_none h;have hc:=clashI_none hc;refine⟨fun a ha b hb=>?_,fun a ha b hb=>?_⟩
   ·rcases List.mem_cons.1 ha with rfl|ha
    ·exact hc b hb
    ·exact h1 a ha b (by simp[hb])
   ·rcases List.mem_cons.1 ha with ha'|ha' <;> rcases List.mem_cons.1 hb with hb'|hb'
    ·exact .inl (ha'.trans hb'.symm)
    ·rw[ha'];exact .inr (.inr (h1 b hb' c (by simp)))
    ·rw[hb'];exact .inr (.inl (h1 a ha' c (by simp)))
    ·exact h2 a ha' b hb'
theorem det_of {es:List Ed}(h:clashG [] es=none):Det es:=by
 have key:∀ a∈es,∀ b∈es,(a.2.1=b.2.1→a.1=b.1→a.2.2=b.2.2)∧(a.2.1=b.2.1→a.2.2=b.2.2→a.1=b.1):=fun a ha b hb=>by
  rcases(clashG_none h).2 a ha b hb with rfl|h|h
  ·exact⟨fun _ _=>rfl,fun _ _=>rfl⟩
  ·exact pairC_none h
  ·obtain⟨h1,h2⟩:=pairC_none h;exact⟨fun e f=>(h1 e.symm f.symm).symm,fun e f=>(h2 e.symm f.symm).symm⟩
 rintro s x t t' (⟨h1,h2⟩|⟨h1,h2⟩) (⟨h3,h4⟩|⟨h3,h4⟩)
 ·exact(key _ h2 _ h4).1 rfl rfl
 ·omega
 ·omega
 ·exact(key _ h2 _ h4).2 rfl rfl
theorem pairC_some {a b:Ed}{u v:Nat}(h:pairC a b=some (u,v)):u<v∧((a.2.1=b.2.1∧a.1=b.1∧(u=a.2.2∧v=b.2.2∨u=b.2.2∧v=a.2.2))∨(a.2.1=b.2.1∧a.2.2=b.2.2∧(u=a.1∧v=b.1∨u=b.1∧v=a.1))):=by
 unfold pairC at h;split at h
 ·simp only[Option.some.injEq,Prod.mk.injEq]at h;omega
 ·split at h
  ·simp only[Option.some.injEq,Prod.mk.injEq]at h;omega
  ·cases h
theorem clashI_some {a:Ed}{r:Nat × Nat}:∀ {l:List Ed},clashI a l=some r→∃ b∈l,pairC a b=some r
 | [],h=>by simp[clashI]at h
 | c :: l,h=>by
  simp only[clashI]at h;split at h
  ·rename_i r' hc
   cases h
   exact⟨c,by simp,hc⟩
  ·obtain⟨b,hb,h⟩:=clashI_some h;exact⟨b,by simp[hb],h⟩
theorem clashG_some {r:Nat × Nat}:∀ {l seen:List Ed},clashG seen l=some r→∃ a∈l,∃ b∈seen ++ l,pairC a b=some r
 | [],seen,h=>by simp[clashG]at h
 | c :: l,seen,h=>by
  simp only[clashG]at h;split at h
  ·rename_i r' hc
   cases h
   obtain⟨b,hb,h⟩:=clashI_some hc;exact⟨c,by simp,b,by simp[hb],h⟩
  ·obtain⟨a,ha,b,hb,h⟩:=clashG_some h;exact⟨a,by simp[ha],b,by simpa using hb,h⟩
structure Rep (E:List Edg)(es0 es:List Ed)(r:Nat→Nat):Prop where
 img:∀ e,e∈es↔∃ e0∈es0,e=(r e0.1,e0.2.1,r e0.2.2)
 snd:∀ v,Cg E (r v) v
 idem:∀ v,r (r v)=r v
 le:∀ v,r v≤v
def sumR (r:Nat→Nat)(l:List Nat):Nat:=(l.map r).sum
theorem sumR_le {f g:Nat→Nat}(h:∀ v,f v≤g v):∀ l:List Nat,sumR f l≤sumR g l
 | []=>Nat.le_refl _
 | v :: l=>by
  have:=sumR_le h l;have:=h v;simp only[sumR,List.map_cons,List.sum_cons]at *;omega
theorem sumR_lt {f g:Nat→Nat}(h:∀ v,f v≤g v){b:Nat}(hb:f b<g b):∀ l:List Nat,b∈l→sumR f l<sumR g l
 | [],hm=>by simp at hm
 | v :: l,hm=>by
  have h1:=sumR_le h l;have h2:=h v;rcases List.mem_cons.1 hm with rfl|hm
  ·simp only[sumR,List.map_cons,List.sum_cons]at *;omega
  ·have:=sumR_lt h hb l hm;simp only[sumR,List.map_cons,List.sum_cons]at *;omega
theorem foldedE_mono:∀ (K K':Nat)(es res:List Ed),K≤K'→foldedE K es=some res→foldedE K' es=some res
 | 0,K',es,res,_,h=>by simp[foldedE]at h
 | K+1,0,es,res,hK,_=>by omega
 | K+1,K'+1,es,res,hK,h=>by
  simp only[foldedE]at h ⊢;split at h
  ·exact h
  ·exact foldedE_mono K K' _ res (by omega) h
def Uq (es:List Ed):Prop:=es.Pairwise fun e e'=>e=e'→e.1=0∧e.2.2=0
theorem mergedE_nodup {a b:Nat}:∀ (es out:List Ed),out.Nodup→(mergedE a b es out).Nodup
 | [],out,h=>h
 | d :: l,out,h=>by
  have h1:mergedE a b (d :: l) out=mergedE a b l (insertE out (renE a b d)):=rfl;rw[h1];refine mergedE_nodup l _ ?_;unfold insertE;split
  ·exact h
  ·rename_i hm
   rw[List.nodup_append];exact⟨h,by simp,fun x hx y hy=>by simp only[List.mem_singleton]at hy;subst hy;exact fun he=>hm (he ▸ hx)⟩
theorem Uq.of_nodup {es:List Ed}(h:es.Nodup):Uq es:=List.Pairwise.imp (fun hne he=>absurd he hne) h
theorem folded_ev {E:List Edg}{es0:List Ed}(hE:∀ s x t,(s,x,t)∈E↔Dir es0 s x t)(he:Evn es0){B:Nat}(hB:InB B es0):∀ (n:Nat)(es:List Ed)(r:Nat→Nat),Rep E es0 es r→Uq es→sumR r (List.range B)≤n →
  ∃ K es1 r1,foldedE K es=some es1∧Rep E es0 es1 r1∧Uq es1∧Det es1:=by
 intro n;induction n with
 | zero=>
  intro es r hr hu hn;cases hc:clashG [] es with
  | none=>exact⟨1,es,r,by simp only[foldedE,hc],hr,hu,det_of hc⟩
  | some p=>
   obtain⟨a,b⟩:=p;exfalso
   obtain⟨e,he1,e',he2,hp⟩:=clashG_some hc;rw[List.nil_append]at he2;have hlt:=(pairC_some hp).1;have hin:InB B es:=fun d hd=>by
    obtain⟨d0,hd0,rfl⟩:=(hr.img d).1 hd;have:=hB d0 hd0;have h1:=hr.le d0.1;have h2:=hr.le d0.2.2;exact⟨by dsimp only;omega,by dsimp only;omega⟩
   have hbB:=(pairC_in (hin e he1) (hin e' he2) hp).2;have hrb:r b=b:=by
    obtain⟨d,hd,rfl⟩:=(hr.img e).1 he1;obtain⟨d',hd',rfl⟩:=(hr.img e').1 he2;rcases(pairC_some hp).2 with ⟨_,_,⟨_,h⟩|⟨_,h⟩⟩|⟨_,_,⟨_,h⟩|⟨_,h⟩⟩ <;> (rw[h];exact hr.idem _)
   have:0<sumR r (List.range B):=by
    have:=sumR_lt (f:=fun _=>0) (g:=r) (fun _=>Nat.zero_le _) (b:=b) (by rw[hrb];omega) (List.range B) (by simpa using hbB)
    omega
   omega
 | succ n ih=>
  intro es r hr hu hn;cases hc:clashG [] es with
  | none=>exact⟨1,es,r,by simp only[foldedE,hc],hr,hu,det_of hc⟩
  | some p=>
   obtain⟨a,b⟩:=p;obtain⟨e,he1,e',he2,hp⟩:=clashG_some hc;rw[List.nil_append]at he2;obtain⟨hlt,hpp⟩:=pairC_some hp;have hin:InB B es:=fun d hd=>by
    obtain⟨d0,hd0,rfl⟩:=(hr.img d).1 hd;have:=hB d0 hd0;have h1:=hr.le d0.1;have h2:=hr.le d0.2.2;exact⟨by dsimp only;omega,by dsimp only;omega⟩
   have hbB:=(pairC_in (hin e he1) (hin e' he2) hp).2;obtain⟨d,hd,hde⟩:=(hr.img e).1 he1;obtain⟨d',hd',hde'⟩:=(hr.img e').1 he2;obtain⟨f,x,t⟩:=d;obtain⟨f',x',t'⟩:=d';subst hde;subst hde';dsimp only at hpp;have hev:=he _ hd;have hev':=he _ hd';dsimp only at hev hev';have m1:(f,x,t)∈E:=(hE _ _ _).2 (.inl ⟨hev,hd⟩);have m2:(f',x',t')∈E:=(hE _ _ _).2 (.inl ⟨hev',hd'⟩);have n1:(t,x ^^^ 1,f)∈E:=(hE _ _ _).2 (Dir.back (.inl ⟨hev,hd⟩))
   have n2:(t',x' ^^^ 1,f')∈E:=(hE _ _ _).2 (Dir.back (.inl ⟨hev',hd'⟩));have eqr:∀ {u v:Nat},r u=r v→Cg E u v:=fun {u v} h=>(hr.snd u).symm.trans (h ▸ hr.snd v)
   have hra:r a=a∧r b=b:=by
    rcases hpp with ⟨_,_,⟨h1,h2⟩|⟨h1,h2⟩⟩|⟨_,_,⟨h1,h2⟩|⟨h1,h2⟩⟩ <;> (rw[h1,h2];exact⟨hr.idem _,hr.idem _⟩)
   have hcg:Cg E a b:=by
    rcases hpp with ⟨hx,h0,h⟩|⟨hx,h0,h⟩
    ·subst hx;have hcc:Cg E (r t) (r t'):=((hr.snd t).trans (.fold m1 m2 (eqr h0))).trans (hr.snd t').symm;rcases h with ⟨rfl,rfl⟩|⟨rfl,rfl⟩
     ·exact hcc
     ·exact hcc.symm
    ·subst hx;have hcc:Cg E (r f) (r f'):=((hr.snd f).trans (.fold n1 n2 (eqr h0))).trans (hr.snd f').symm;rcases h with ⟨rfl,rfl⟩|⟨rfl,rfl⟩
     ·exact hcc
     ·exact hcc.symm
   have hr':Rep E es0 (mergedE a b es []) fun v=>ren a b (r v):=by
    refine⟨fun q=>?_,fun v=>?_,fun v=>?_,fun v=>?_⟩
    ·rw[mergedE_mem];constructor
     ·rintro(h|⟨q',hq',rfl⟩)
      ·simp at h
      ·obtain⟨q0,hq0,rfl⟩:=(hr.img q').1 hq';exact⟨q0,hq0,rfl⟩
     ·rintro⟨q0,hq0,rfl⟩
      exact .inr ⟨_,(hr.img _).2 ⟨q0,hq0,rfl⟩,rfl⟩
    ·show Cg E (ren a b (r v)) v
     unfold ren;split
     ·rename_i h
      exact hcg.trans (h ▸ hr.snd v)
     ·exact hr.snd v
    ·show ren a b (r (ren a b (r v)))=ren a b (r v)
     unfold ren;split
     ·rw[hra.1,if_neg (by omega)]
     ·rename_i h
      rw[hr.idem,if_neg h]
    ·show ren a b (r v)≤v
     unfold ren;have:=hr.le v;split <;> omega
   obtain⟨K,es1,r1,k1,k2,k3,k4⟩:=ih (mergedE a b es []) _ hr' (Uq.of_nodup (mergedE_nodup es [] (by simp))) (by
    have:=sumR_lt (f:=fun v=>ren a b (r v)) (g:=r) (fun v=>by unfold ren;split <;> omega) (b:=b) (by rw[hra.2];unfold ren;rw[if_pos rfl];exact hlt) (List.range B) (by simpa using hbB)
    omega)
   exact⟨K+1,es1,r1,by simp only[foldedE,hc];exact k1,k2,k3,k4⟩
theorem Rep.cg {E:List Edg}{es0 es:List Ed}{r:Nat→Nat}(hE:∀ s x t,(s,x,t)∈E↔Dir es0 s x t)(hr:Rep E es0 es r)(hd:Det es){u v:Nat}:r u=r v↔Cg E u v:=by
 constructor
 ·intro h;exact(hr.snd u).symm.trans (h ▸ hr.snd v)
 ·intro h;induction h with
  | refl _=>rfl
  | symm _ ih=>exact ih.symm
  | trans _ _ ih1 ih2=>exact ih1.trans ih2
  | @fold s s' x t t' h1 h2 h0 ih=>
   have img:∀ {s x t:Nat},(s,x,t)∈E→Dir es (r s) x (r t):=fun {s x t} h=>by
    rcases(hE _ _ _).1 h with ⟨a,b⟩|⟨a,b⟩
    ·exact .inl ⟨a,(hr.img _).2 ⟨_,b,rfl⟩⟩
    ·exact .inr ⟨a,(hr.img _).2 ⟨_,b,rfl⟩⟩
   exact hd _ _ _ _ (img h1) (ih ▸ img h2)
theorem Rep.dir {E:List Edg}{es0 es:List Ed}{r:Nat→Nat}(hE:∀ s x t,(s,x,t)∈E↔Dir es0 s x t)(hr:Rep E es0 es r){u x v:Nat}:Dir es u x v↔∃ s t,(s,x,t)∈E∧r s=u∧r t=v:=by
 constructor
 ·rintro(⟨a,b⟩|⟨a,b⟩)
  ·obtain⟨⟨f,y,t⟩,h0,h1⟩:=(hr.img _).1 b;simp only[Prod.mk.injEq]at h1;obtain⟨rfl,rfl,rfl⟩:=h1;exact⟨f,t,(hE _ _ _).2 (.inl ⟨a,h0⟩),rfl,rfl⟩
  ·obtain⟨⟨f,y,t⟩,h0,h1⟩:=(hr.img _).1 b;simp only[Prod.mk.injEq]at h1;obtain⟨rfl,h1,rfl⟩:=h1;subst h1;exact⟨t,f,(hE _ _ _).2 (.inr ⟨a,h0⟩),rfl,rfl⟩
 ·rintro⟨s,t,h,rfl,rfl⟩
  rcases(hE _ _ _).1 h with ⟨a,b⟩|⟨a,b⟩
  ·exact .inl ⟨a,(hr.img _).2 ⟨_,b,rfl⟩⟩
  ·exact .inr ⟨a,(hr.img _).2 ⟨_,b,rfl⟩⟩
end Go.Proofs.YtffdjfkekdoeaaaDoor.Pl
end
section
namespace Go.Proofs.YtffdjfkekdoeaaaDoor.Pl
open Fw Wd Fo Rf
def scanO:Row→Nat→Option Nat
 | [],seen=>some seen
 | none :: l,seen=>scanO l seen
 | some t :: l,seen=>if t>seen then none else scanO l (if t=seen then seen+1 else seen)
theorem idxOf_range:∀ (n t:Nat),t<n→(List.range n).idxOf t=t:=fun n t h=>by
 have h1:(List.range n)[t]'(by simpa using h)=t:=by simp
 have:=(List.nodup_range (n:=n)).idxOf_getElem t (by simpa using h)
 rw[h1]at this;exact this
theorem bfs_scan:∀ (r:Row)(seen seen':Nat),scanO r seen=some seen'→bfsRow r (List.range seen)=(List.range seen',r)
 | [],seen,seen',h=>by simp only[scanO,Option.some.injEq]at h;subst h;rfl
 | none :: l,seen,seen',h=>by
  simp only[scanO]at h;simp only[bfsRow,bfs_scan l seen seen' h]
 | some t :: l,seen,seen',h=>by
  simp only[scanO]at h;split at h
  ·cases h
  rename_i hle
  simp only[bfsRow,List.mem_range]
  by_cases hlt:t<seen
  ·rw[if_neg (by omega)]at h
   rw[if_pos hlt,bfs_scan l seen seen' h,idxOf_range seen t hlt]
  ·have:t=seen:=by omega
   subst this;rw[if_pos rfl]at h;rw[if_neg hlt,← List.range_succ,bfs_scan l (t+1) seen' h,List.length_range]
theorem bfs_scan_none:∀ (r:Row)(seen:Nat),scanO r seen=none→(bfsRow r (List.range seen)).2≠r
 | [],seen,h=>by simp[scanO]at h
 | none :: l,seen,h=>by
  simp only[scanO]at h;have:=bfs_scan_none l seen h;simp only[bfsRow];intro he;simp only[List.cons.injEq,true_and]at he;exact this he
 | some t :: l,seen,h=>by
  simp only[scanO]at h;simp only[bfsRow,List.mem_range];split at h
  ·rename_i hgt
   rw[if_neg (by omega)]
   intro he;simp only[List.cons.injEq,Option.some.injEq,List.length_range]at he;omega
  ·rename_i hle
   by_cases hlt:t<seen
   ·rw[if_neg (by omega)]at h
    have:=bfs_scan_none l seen h;rw[if_pos hlt];intro he;simp only[List.cons.injEq]at he;exact this he.2
   ·have:t=seen:=by omega
    subst this;rw[if_pos rfl]at h;have:=bfs_scan_none l (t+1) h;rw[if_neg hlt,← List.range_succ];intro he;simp only[List.cons.injEq]at he;exact this he.2
theorem scanO_le:∀ (r:Row)(n seen seen':Nat),(∀ t,some t∈r→t<n)→seen≤n→scanO r seen=some seen'→seen≤seen'∧seen'≤n
 | [],n,seen,seen',_,hs,h=>by simp only[scanO,Option.some.injEq]at h;omega
 | none :: l,n,seen,seen',hr,hs,h=>scanO_le l n seen seen' (fun t ht=>hr t (by simp[ht])) hs h
 | some t :: l,n,seen,seen',hr,hs,h=>by
  simp only[scanO]at h;split at h
  ·cases h
  have ht:=hr t (by simp)
  have:=scanO_le l n _ seen' (fun t ht=>hr t (by simp[ht])) (by split <;> omega) h
  split at this <;> omega
def scanQ:Nat→List Row→Nat→Option Nat
 | _,[],seen=>some seen
 | s,r :: l,seen=>if seen≤s then none else (scanO r seen).bind (scanQ (s+1) l)
theorem numE_ext {k:Nat}{es:List Ed}:∀ (K i:Nat)(q:List Nat)(out res:List Row),numE k es K i q out=some res→∃ tl,res=out ++ tl
 | 0,_,_,_,_,h=>by simp[numE]at h
 | K+1,i,q,out,res,h=>by
  simp only[numE]at h;split at h
  ·cases h;exact⟨[],by simp⟩
  ·obtain⟨tl,h⟩:=numE_ext K _ _ _ _ h;exact⟨_,by rw[h,List.append_assoc]⟩
theorem num_iff {k n:Nat}{es:List Ed}{R:List Row}(hn:R.length=n)(hrow:∀ v,v<n→rowE k es v=R.getD v [])(hlt:∀ r∈R,∀ t,some t∈r→t<n):∀ (K s seen:Nat)(res:List Row),s≤seen→seen≤n→numE k es K s (List.range seen) (R.take s)=some res→(res=R↔scanQ s (R.drop s) seen=some n)
 | 0,_,_,_,_,_,h=>by simp[numE]at h
 | K+1,s,seen,res,hs,hsn,h=>by
  simp only[numE]at h
  by_cases hlt':s<seen
  ·have hsn':s<n:=by omega
   rw[show(List.range seen)[s]? = some s by rw[List.getElem?_range hlt']]at h
   simp only at h;have hRs:R.getD s []=R[s]:=getD_get (by omega)
   rw[hrow s hsn',hRs]at h;have hdrop:R.drop s=R[s] :: R.drop (s+1):=List.drop_eq_getElem_cons (by omega)
   rw[hdrop];simp only[scanQ,if_neg (show ¬ seen≤s by omega)]
   have hmem:R[s]∈R:=List.getElem_mem (by omega)
   cases hsc:scanO R[s] seen with
   | none=>
    have hne:=bfs_scan_none _ _ hsc;obtain⟨tl,hres⟩:=numE_ext _ _ _ _ _ h;simp only[Option.bind_none,reduceCtorEq,iff_false];intro he;rw[he]at hres;have h1:=congrArg (fun l=>l[s]?) hres
    simp only[List.append_assoc]at h1;rw[List.getElem?_append_right (by simp;omega),List.getElem?_eq_getElem (by omega)]at h1
    simp only[List.length_take,show s-min s R.length=0 by omega,List.cons_append,List.getElem?_cons_zero,Option.some.injEq]at h1
    exact hne h1.symm
   | some seen'=>
    rw[bfs_scan _ _ _ hsc]at h;have hle:=scanO_le _ n _ _ (hlt _ hmem) hsn hsc;simp only[Option.bind_some];rw[← take_snoc (show s<R.length by omega)]at h
    exact num_iff hn hrow hlt K (s+1) seen' res (by omega) hle.2 h
  ·have hse:s=seen:=by omega
   subst hse;rw[show(List.range s)[s]? = none by simp]at h
   simp only[Option.some.injEq]at h;subst h
   by_cases hsn':s=n
   ·subst hsn';rw[List.take_of_length_le (by omega),List.drop_eq_nil_of_le (by omega)]
    simp[scanQ]
   ·have hdrop:R.drop s=R[s]'(by omega) :: R.drop (s+1):=List.drop_eq_getElem_cons (by omega)
    rw[hdrop];simp only[scanQ,Nat.le_refl,if_true,reduceCtorEq,iff_false];intro he;have:=congrArg List.length he;simp at this;omega
def localP (acc:List Bool)(next:List (List Int))(s:Nat)(row:List Int):Prop:=acc.getD s false=(s == 0)∧(0<s→2≤degF (row.map toO))∧rowLocal next s row=true
theorem scanE_iff {next:List (List Int)}{s:Nat}:∀ (row:List Int)(y seen r:Nat),scanE next s (edgesFrom y row) seen=some r↔((edgesFrom y row).all fun e=>getN next e.2.1.toNat (e.1.toNat ^^^ 1) == (s:Int))=true∧scanO (row.map toO) seen=some r
 | [],y,seen,r=>by simp[edgesFrom,scanE,scanO]
 | t :: l,y,seen,r=>by
  simp only[edgesFrom,List.map_cons]
  by_cases ht:0≤t
  ·obtain⟨n,rfl⟩:=Int.eq_ofNat_of_zero_le ht;have ho:toO (n:Int)=some n:=by unfold toO;rw[if_neg (by omega)];simp
   rw[if_pos ht,ho];simp only[scanE,scanO,List.all_cons,Bool.and_eq_true,beq_iff_eq];have ih:=fun s'=>scanE_iff (next:=next) (s:=s) l (y+1) s' r
   by_cases hg:n>seen
   ·rw[if_pos hg,if_pos (.inr (by omega))];simp
   ·rw[if_neg hg]
    by_cases hb:getN next ((n:Int)).toNat (((y:Int)).toNat ^^^ 1)=(s:Int)
    ·rw[if_neg (by unfold getN at hb;intro h;rcases h with h | h;exact h hb;omega)]
     have e1:(if (n:Int)=(seen:Int) then seen+1 else seen)=(if n=seen then seen+1 else seen):=by
      by_cases h:n=seen
      ·simp[h]
      ·rw[if_neg h,if_neg (by omega)]
     rw[e1,ih];constructor
     ·rintro⟨h1,h2⟩;exact⟨⟨hb,h1⟩,h2⟩
     ·rintro⟨⟨_,h1⟩,h2⟩;exact⟨h1,h2⟩
    ·rw[if_pos (.inl hb)];constructor
     ·intro h;cases h
     ·rintro⟨⟨h1,_⟩,_⟩;exact absurd h1 hb
  ·have ho:toO t=none:=by unfold toO;rw[if_pos (by omega)]
   rw[if_neg ht,ho];simp only[scanO];exact scanE_iff l (y+1) seen r
theorem scanR_iff {acc:List Bool}{next:List (List Int)}:∀ (l:List (List Int))(s seen r:Nat),scanR acc next s l seen=some r↔(∀ (i:Nat)(row:List Int),l[i]? = some row→localP acc next (s+i) row)∧scanQ s (l.map (·.map toO)) seen=some r
 | [],s,seen,r=>by simp[scanR,scanQ]
 | row :: l,s,seen,r=>by
  simp only[scanR,List.map_cons,scanQ];have ih:=fun s'=>scanR_iff (acc:=acc) (next:=next) l (s+1) s' r
  have hE:=fun s'=>scanE_iff (next:=next) (s:=s) row 0 seen s'
  constructor
  ·intro h;split at h
   ·cases h
   rename_i hc
   split at h
   ·cases h
   rename_i seen' he
   obtain⟨h1,h2⟩:=(hE seen').1 he;obtain⟨h3,h4⟩:=(ih seen').1 h;have hacc:acc.getD s false=(s == 0):=by
    by_cases hh:acc.getD s false=(s == 0)
    ·exact hh
    ·exact absurd (.inl hh) hc
   refine⟨fun i r' hi=>?_,?_⟩
   ·cases i with
    | zero=>
     simp only[List.getElem?_cons_zero,Option.some.injEq]at hi;subst hi;refine⟨hacc,fun hs=>?_,h1⟩
     have hs:0<s:=hs
     by_cases hd:degF (row.map toO)<2
     ·exact absurd (.inr (.inl ⟨hs,hd⟩)) hc
     ·omega
    | succ i=>
     have:=h3 i r' (by simpa using hi)
     rw[show s+(i+1)=s+1+i by omega];exact this
   ·rw[if_neg (fun hle=>hc (.inr (.inr hle))),h2]
    exact h4
  ·rintro⟨h1,h2⟩
   obtain⟨p1,p2,p3⟩:=h1 0 row rfl;rw[Nat.add_zero]at p1 p2 p3;split at h2
   ·cases h2
   rename_i hle
   cases hsc:scanO (row.map toO) seen with
   | none=>rw[hsc]at h2;cases h2
   | some seen'=>
    rw[hsc]at h2;have h2:scanQ (s+1) (l.map (·.map toO)) seen'=some r:=h2;rw[if_neg (by
     rintro(h|h|h)
     ·exact h p1
     ·have:=p2 h.1;omega
     ·exact hle h),(hE seen').2 ⟨p3,hsc⟩]
    exact(ih seen').2 ⟨fun i r' hi=>by
     have:=h1 (i+1) r' (by simpa using hi)
     rw[show s+(i+1)=s+1+i by omega]at this;exact this,h2⟩
theorem localAll_iff {acc:List Bool}{next:List (List Int)}:∀ (l:List (List Int))(s:Nat),localAll acc next s l=true↔∀ (i:Nat)(row:List Int),l[i]? = some row→localS acc next (s+i) row=true
 | [],s=>by simp[localAll]
 | r :: l,s=>by
  simp only[localAll,Bool.and_eq_true,localAll_iff l (s+1)];constructor
  ·rintro⟨h1,h2⟩ i row hi
   cases i with
   | zero=>simp only[List.getElem?_cons_zero,Option.some.injEq]at hi;subst hi;exact h1
   | succ i=>rw[show s+(i+1)=s+1+i by omega];exact h2 i row (by simpa using hi)
  ·intro h;exact⟨h 0 r rfl,fun i row hi=>by rw[show s+1+i=s+(i+1) by omega];exact h (i+1) row (by simpa using hi)⟩
theorem localS_iff {acc:List Bool}{next:List (List Int)}{s:Nat}{row:List Int}(h0:acc.getD 0 false=true):localS acc next s row=true↔localP acc next s row:=by
 unfold localS localP;rw[Bool.and_eq_true]
 by_cases hs:s=0
 ·subst hs;rw[h0];simp
 ·have e:(s == 0)=false:=by simp[hs]
  rw[e];simp only[Bool.false_or,Bool.and_eq_true,decide_eq_true_eq,Bool.not_eq_true'];constructor
  ·rintro⟨h1,h2,h3⟩;exact⟨h3,fun _=>h2,h1⟩
  ·rintro⟨h1,h2,h3⟩;exact⟨h3,h2 (by omega),h1⟩
theorem edges_of:∀ (row:List Int)(y x:Nat),x<row.length→0≤row.getD x 0→(((y+x:Nat):Int),row.getD x 0,())∈edgesFrom y row
 | [],y,x,h,_=>by simp at h
 | t :: l,y,0,h,hp=>by
  have hp:0≤t:=by simpa using hp
  simp only[edgesFrom];rw[if_pos hp];simp
 | t :: l,y,x+1,h,hp=>by
  have:=edges_of l (y+1) x (by simpa using h) (by simpa using hp)
  simp only[edgesFrom];rw[show y+(x+1)=y+1+x by omega]
  split
  ·exact List.mem_cons_of_mem _ (by simpa using this)
  ·simpa using this
theorem mem_graphR {s:Nat}{row:List Int}{j:Nat}(hp:0≤row.getD (2*j) 0):∀ (n i:Nat),i≤j→j<i+n→(s,2*j,(row.getD (2*j) 0).toNat)∈graphR s row i n
 | 0,i,h1,h2=>by omega
 | n+1,i,h1,h2=>by
  simp only[graphR]
  by_cases he:i=j
  ·subst he;rw[if_pos hp];simp
  ·exact List.mem_append_right _ (mem_graphR hp n (i+1) (by omega) (by omega))
theorem mem_graphL {k j:Nat}(hj:j<k):∀ (l:List (List Int))(s i:Nat)(row:List Int),l[i]? = some row→0≤row.getD (2*j) 0→(s+i,2*j,(row.getD (2*j) 0).toNat)∈graphL k s l
 | [],s,i,row,h,_=>by simp at h
 | r :: l,s,0,row,h,hp=>by
  simp only[List.getElem?_cons_zero,Option.some.injEq]at h;subst h;exact List.mem_append_left _ (mem_graphR hp k 0 (Nat.zero_le _) (by omega))
 | r :: l,s,i+1,row,h,hp=>by
  have:=mem_graphL hj l (s+1) i row (by simpa using h) hp
  rw[show s+(i+1)=s+1+i by omega]
  exact List.mem_append_right _ this
theorem stepE_some:∀ (es:List Ed)(v x t:Nat),Rf.stepE es v x=some t→(x % 2=0∧(v,x,t)∈es)∨(x % 2=1∧∃ y,y+1=x∧(t,y,v)∈es)
 | [],v,x,t,h=>by simp[Rf.stepE]at h
 | (f,y,u) :: l,v,x,t,h=>by
  simp only[Rf.stepE]at h;split at h
  ·rename_i hc
   obtain⟨h1,rfl,rfl⟩:=hc;cases h
   exact .inl ⟨h1,by simp⟩
  ·split at h
   ·rename_i hc
    obtain⟨h1,h2,rfl⟩:=hc;cases h
    exact .inr ⟨h1,y,h2,by simp⟩
   ·rcases stepE_some l v x t h with ⟨h1,h2⟩|⟨h1,y',h2,h3⟩
    ·exact .inl ⟨h1,by simp[h2]⟩
    ·exact .inr ⟨h1,y',h2,by simp[h3]⟩
theorem stepE_none:∀ (es:List Ed)(v x:Nat),Rf.stepE es v x=none→∀ e∈es,¬ (x % 2=0∧e.2.1=x∧e.1=v)∧¬ (x % 2=1∧e.2.1+1=x∧e.2.2=v)
 | [],v,x,_,e,he=>by simp at he
 | (f,y,u) :: l,v,x,h,e,he=>by
  simp only[Rf.stepE]at h;split at h
  ·cases h
  ·split at h
   ·cases h
   ·rename_i h1 h2
    rcases List.mem_cons.1 he with rfl|he
    ·exact⟨h1,h2⟩
    ·exact stepE_none l v x h e he
theorem xor_evens:∀ y:Fin 16,y.val % 2=0→y.val ^^^ 1=y.val+1:=by decide
theorem xor_odds:∀ y:Fin 16,y.val % 2=1→y.val ^^^ 1=y.val-1:=by decide
theorem step_graph {k:Nat}(hk:k≤8){next:List (List Int)}(hlen:∀ r∈next,r.length=2*k∧∀ t∈r,-1≤t∧t<(next.length:Int))(hloc:∀ (i:Nat)(row:List Int),next[i]? = some row→rowLocal next i row=true){v x:Nat}(hv:v<next.length)(hx:x<2*k) :
  Rf.stepE (graphL k 0 next) v x=toO (getN next v x):=by
 have back:∀ {s y:Nat},s<next.length→y<2*k→0≤getN next s y→getN next (getN next s y).toNat (y ^^^ 1)=(s:Int):=fun {s y} hs hy hp=>by
  have hr:=hloc s next[s] (List.getElem?_eq_getElem hs);have hl:=(hlen _ (List.getElem_mem hs)).1;have hg:getN next s y=next[s].getD y 0:=by unfold getN;rw[getD_get hs]
  rw[hg]at hp ⊢;have:=edges_of next[s] 0 y (by omega) hp
  have:=List.all_eq_true.1 hr _ this
  simpa using this
 have tgt:∀ {s y:Nat},s<next.length→y<2*k→getN next s y<(next.length:Int)∧-1≤getN next s y:=fun {s y} hs hy=>by
  have hl:=hlen _ (List.getElem_mem hs);have hg:getN next s y=next[s][y]'(by omega):=by unfold getN;rw[getD_get hs,getD_get (by omega)]
  rw[hg];have:=hl.2 _ (List.getElem_mem (show y<next[s].length by omega));omega
 have ed:∀ {s j:Nat},s<next.length→j<k→0≤getN next s (2*j)→(s,2*j,(getN next s (2*j)).toNat)∈graphL k 0 next:=fun {s j} hs hj hp=>by
  have hg:getN next s (2*j)=next[s].getD (2*j) 0:=by unfold getN;rw[getD_get hs]
  rw[hg]at hp ⊢;have:=mem_graphL hj next 0 s next[s] (List.getElem?_eq_getElem hs) hp;rw[Nat.zero_add]at this;exact this
 have edm:∀ {f y t:Nat},(f,y,t)∈graphL k 0 next→f<next.length∧y<2*k∧getN next f y=(t:Int)∧y % 2=0:=fun {f y t} he=>by
  obtain⟨i,row,h1,h2,j,h3,h4,h5,h6⟩:=graphL_mem next 0 _ he;dsimp only at h2 h4 h6;obtain⟨hi,hri⟩:=List.getElem?_eq_some_iff.1 h1;rw[Nat.zero_add]at h2;subst h2;refine⟨hi,by omega,?_,by omega⟩
  unfold getN;rw[getD_get hi,hri,h4];omega
 cases hst:Rf.stepE (graphL k 0 next) v x with
 | some t=>
  rcases stepE_some _ _ _ _ hst with ⟨h1,h2⟩|⟨h1,y,h2,h3⟩
  ·have:=(edm h2).2.2.1;rw[this];unfold toO;rw[if_neg (by omega)];simp
  ·obtain⟨q1,q2,q3,q4⟩:=edm h3;have hb:=back q1 q2 (by omega)
   rw[q3]at hb;have hxy:y ^^^ 1=x:=by rw[xor_evens ⟨y,by omega⟩ (by dsimp only;omega)];exact h2
   rw[hxy]at hb;have hb:getN next v x=(t:Int):=hb;rw[hb];unfold toO;rw[if_neg (by omega)];simp
 | none=>
  have hn:=stepE_none _ _ _ hst
  by_cases hp:0≤getN next v x
  ·exfalso
   by_cases hx2:x % 2=0
   ·have:=ed (s:=v) (j:=x / 2) hv (by omega) (by rw[show 2*(x / 2)=x by omega];exact hp)
    rw[show 2*(x / 2)=x by omega]at this
    exact(hn _ this).1 ⟨hx2,rfl,rfl⟩
   ·have hb:=back hv hx hp;have ht:=(tgt hv hx).1;have hxy:x ^^^ 1=2*(x / 2):=by rw[xor_odds ⟨x,by omega⟩ (by dsimp only;omega)];dsimp only;omega
    rw[hxy]at hb;have:=ed (s:=(getN next v x).toNat) (j:=x / 2) (by omega) (by omega) (by rw[hb];omega)
    rw[hb]at this;exact(hn _ this).2 ⟨by omega,by dsimp only;omega,by simp⟩
  ·unfold toO;rw[if_pos (by omega)]
theorem toO_ofO (o:Option Nat):toO (ofO o)=o:=by
 cases o with
 | none=>rfl
 | some n=>show toO (n:Int)=_;unfold toO;rw[if_neg (by omega)];simp
theorem isM_check {k:Int}(hk:1≤k∧k≤8)(a:Aut):isM k a=decide (a.check k=0):=by
 obtain⟨nk,rfl⟩:=Int.eq_ofNat_of_zero_le (show 0≤k by omega)
 have hA:a.check (nk:Int)=if fsaF a.sym a.start a.acc a.next≠0∨a.sym≠2*(nk:Int)∨a.next.length<1∨2000<a.next.length∨a.start≠0 then 210
   else match scanR a.acc a.next 0 a.next 1 with | some seen=>if seen=a.next.length then 0 else 210 | none=>210:=by
  unfold Aut.check checkG;rw[if_neg (by simpa using hk)];(try rfl)
 by_cases g1:fsaF a.sym a.start a.acc a.next=0
 case neg=>
  rw[hA,if_pos (.inl g1)];unfold isM;rw[decide_eq_false g1];rfl
 obtain⟨hla,hrows⟩:=fsa_spec g1
 by_cases g2:a.sym=2*(nk:Int)
 case neg=>
  rw[hA,if_pos (.inr (.inl g2))];unfold isM;rw[decide_eq_false g2];simp
 by_cases g3:1≤a.acc.length
 case neg=>
  rw[hA,if_pos (.inr (.inr (.inl (by omega))))];unfold isM;rw[decide_eq_false g3];simp
 by_cases g4:a.acc.length≤2000
 case neg=>
  rw[hA,if_pos (.inr (.inr (.inr (.inl (by omega)))))];unfold isM;rw[decide_eq_false g4];simp
 by_cases g5:a.start=0
 case neg=>
  rw[hA,if_pos (.inr (.inr (.inr (.inr g5))))];unfold isM;rw[decide_eq_false g5];simp
 have hI:isM (nk:Int) a=(a.acc.getD 0 false && (localAll a.acc a.next 0 a.next && sameF a (autE nk (numR nk a.next)))):=by
  unfold isM;rw[decide_eq_true g1,decide_eq_true g2,decide_eq_true g3,decide_eq_true g4,decide_eq_true g5];simp
 rw[hI,hA,if_neg (by
  rintro(h|h|h|h|h)
  ·exact h g1
  ·exact h g2
  ·omega
  ·omega
  ·exact h g5)]
 clear hI hA;have hrow2:∀ r∈a.next,r.length=2*nk∧∀ t∈r,-1≤t∧t<(a.next.length:Int):=fun r hr=>⟨by have:=(hrows r hr).1;omega,(hrows r hr).2⟩
 have hback:(a.next.map (·.map toO)).map (·.map ofO)=a.next:=by
  rw[List.map_map]
  conv=>rhs;rw[← List.map_id a.next]
  exact List.map_congr_left fun r hr=>row_toO fun t ht=>((hrow2 r hr).2 t ht).1
 have hlt:=graphL_lt (k:=nk) (fun r hr t ht=>((hrow2 r hr).2 t ht).2) (by omega)
 obtain⟨res,hres⟩:=numE_some (k:=nk) hlt (a.next.length+1) 0 [0] [] (by simp) (by simp;omega) (by simp) (by omega)
 have hnR:numR nk a.next=res:=by unfold numR;rw[hres];rfl
 rw[hnR]
 -- the states' marks and letters
 by_cases hloc:∀ (i:Nat) (row:List Int),a.next[i]? = some row→localP a.acc a.next (0+i) row
 case neg=>
  have h1:¬ ∃ r,scanR a.acc a.next 0 a.next 1=some r:=fun⟨r,hr⟩=>hloc ((scanR_iff a.next 0 1 r).1 hr).1
  have h2:scanR a.acc a.next 0 a.next 1=none:=by
   cases h:scanR a.acc a.next 0 a.next 1 with
   | none=>rfl
   | some r=>exact absurd ⟨r,h⟩ h1
  rw[h2];rw[show(decide ((210:Int)=0))=false from rfl]
  by_cases g6:a.acc.getD 0 false=true
  ·have h3:localAll a.acc a.next 0 a.next=false:=by
    cases h:localAll a.acc a.next 0 a.next with
    | false=>rfl
    | true=>exact absurd (fun i row hi=>(localS_iff g6).1 ((localAll_iff a.next 0).1 h i row hi)) hloc
   rw[h3,Bool.false_and,Bool.and_false]
  ·rw[Bool.not_eq_true]at g6;rw[g6,Bool.false_and]
 have g6:a.acc.getD 0 false=true:=(hloc 0 _ (List.getElem?_eq_getElem (by omega))).1
 have h3:localAll a.acc a.next 0 a.next=true:=(localAll_iff a.next 0).2 fun i row hi=>(localS_iff g6).2 (hloc i row hi)
 rw[g6,h3,Bool.true_and,Bool.true_and];have hstep:∀ v,v<a.next.length→rowE nk (graphL nk 0 a.next) v=(a.next.map (·.map toO)).getD v []:=fun v hv=>by
  have hrv:(a.next.map (·.map toO)).getD v []=a.next[v].map toO:=by rw[getD_get (by simpa using hv)];simp
  rw[hrv];have hlv:=(hrow2 _ (List.getElem_mem hv)).1
  apply List.ext_getElem (by rw[rowE_len];simp[hlv])
  intro x h1 h2;rw[rowE_len]at h1;have:=rowE_get (k:=nk) (es:=graphL nk 0 a.next) (v:=v) h1;rw[step_graph (by omega) hrow2 (fun i row hi=>by have:=(hloc i row hi).2.2;rw[Nat.zero_add]at this;exact this) hv h1]at this
  obtain⟨h4,h5⟩:=List.getElem?_eq_some_iff.1 this;rw[h5,List.getElem_map];unfold getN;rw[getD_get hv,getD_get (by omega)]
 have hN:=num_iff (k:=nk) (n:=a.next.length) (es:=graphL nk 0 a.next) (R:=a.next.map (·.map toO)) (by simp) hstep (fun r hr t ht=>by
  obtain⟨r',hr',rfl⟩:=List.mem_map.1 hr;obtain⟨u,hu,hut⟩:=List.mem_map.1 ht;have:=(hrow2 r' hr').2 u hu;unfold toO at hut;split at hut
  ·cases hut
  ·cases hut;omega) (a.next.length+1) 0 1 res (by omega) (by omega) (by simpa using hres)
 rw[List.drop_zero]at hN;have hS:sameF a (autE nk res)=true↔res=a.next.map (·.map toO):=by
  unfold sameF autE;rw[decide_eq_true_eq];constructor
  ·rintro⟨_,_,_,h⟩
   have h:a.next=res.map (·.map ofO):=h;rw[h,List.map_map]
   conv=>lhs;rw[← List.map_id res]
   refine List.map_congr_left fun r _=>?_
   simp only[Function.comp,List.map_map]
   conv=>lhs;rw[id,← List.map_id r]
   exact List.map_congr_left fun o _=>(toO_ofO o).symm
  ·intro h;refine⟨by rw[g2];push_cast;rfl,g5,?_,?_⟩
   ·rw[h,List.length_map]
    apply List.ext_getElem (by simp[accF];omega)
    intro i h1 h2;have:=(hloc i _ (List.getElem?_eq_getElem (show i<a.next.length by omega))).1
    rw[Nat.zero_add,getD_get h1]at this;rw[this];simp[accF]
   ·rw[h];exact hback.symm
 cases hs:sameF a (autE nk res) with
 | true=>
  have h4:=hN.1 (hS.1 hs);have h5:=(scanR_iff (acc:=a.acc) (next:=a.next) a.next 0 1 a.next.length).2 ⟨hloc,h4⟩;rw[h5];simp
 | false=>
  cases h6:scanR a.acc a.next 0 a.next 1 with
  | none=>rfl
  | some r=>
   by_cases hr:r=a.next.length
   ·subst hr;have:=hS.2 (hN.2 ((scanR_iff a.next 0 1 _).1 h6).2);rw[hs]at this;cases this
   ·simp[hr]
def L (x:Nat):UInt8:=UInt8.ofNat (letF (x:Int)).toNat
theorem L_other:∀ x:Fin 16,otherB (L x.val)=L (x.val ^^^ 1):=by decide
theorem L_inj:∀ x y:Fin 16,L x.val=L y.val→x=y:=by decide
theorem L_idx:∀ x:Fin 16,idxF (ofB (L x.val))=(x.val:Int):=by decide
theorem letS_list (x:Nat):(letS (x:Int)).data.toList=[L x]:=rfl
theorem app_list (a b:ByteArray):(a ++ b).data.toList=a.data.toList ++ b.data.toList:=by
 rw[ByteArray.data_append,Array.toList_append]
theorem xor_xor:∀ x:Fin 16,(x.val ^^^ 1) ^^^ 1=x.val∧x.val ^^^ 1<16:=by decide
def RedL (l:List UInt8):Prop:=redF l=l
theorem redF_snoc (l:List UInt8)(c:UInt8):redF (l ++ [c])=redStep (redF l) c:=by simp[redF]
theorem RedL.snoc {l:List UInt8}{c:UInt8}(h:RedL l)(hc:l.getLast?≠some (otherB c)):RedL (l ++ [c]):=by
 unfold RedL at *;rw[redF_snoc,h,redStep,if_neg hc]
theorem redF_len (l:List UInt8):(redF l).length≤l.length:=by have:=redFold_len l [];simpa[redF] using this
theorem RedL.inv {l:List UInt8}{c:UInt8}(h:RedL (l ++ [c])):RedL l∧l.getLast?≠some (otherB c):=by
 unfold RedL at *;rw[redF_snoc,redStep]at h;split at h
 ·exfalso
  have h1:=congrArg List.length h;have h2:=redF_len l;simp at h1;omega
 ·rename_i hn
  have:=List.append_cancel_right h;rw[this]at hn;exact⟨this,hn⟩
theorem RedL.nil:RedL []:=rfl
theorem otherB_otherB (c:UInt8):otherB (otherB c)=c:=by
 unfold otherB;rw[UInt8.xor_assoc];simp
def isEven (k:Int × Int):Bool:=k.2.toNat % 2 == 0
structure TreeW (m:Nat)(next:List (List Int))(T:Tree):Prop where
 good:∀ p∈T.paths,∀ b∈p.data.toList,∃ x,x<16∧b=L x
 red:∀ p∈T.paths,RedL p.data.toList
 zero:T.paths.getD 0 ⟨#[]⟩=⟨#[]⟩
 last:∀ v,0<v→v<T.seen→∃ s x,x<16∧(T.paths.getD v ⟨#[]⟩).data.toList=(T.paths.getD s ⟨#[]⟩).data.toList ++ [L x]∧((v:Int),((x ^^^ 1:Nat):Int))∈T.keys
 keyw:∀ u y,(u,y)∈T.keys→∃ (u' y' t':Nat),u=(u':Int)∧y=(y':Int)∧y'<m∧getN next u' y'=(t':Int)∧u'<T.seen∧t'<T.seen∧((t':Int),((y' ^^^ 1:Nat):Int))∈T.keys∧getN next t' (y' ^^^ 1)=(u':Int) ∧
  ((T.paths.getD t' ⟨#[]⟩).data.toList=(T.paths.getD u' ⟨#[]⟩).data.toList ++ [L y']∨(T.paths.getD u' ⟨#[]⟩).data.toList=(T.paths.getD t' ⟨#[]⟩).data.toList ++ [L (y' ^^^ 1)])
 nodup:T.keys.Nodup
 evens:(T.keys.filter isEven).length+1=T.seen
theorem TreeW.start {m:Nat}{next:List (List Int)}(h:1≤next.length):TreeW m next ⟨1,List.replicate next.length ⟨#[]⟩,[]⟩ where
 good:=fun p hp b hb=>by rw[List.eq_of_mem_replicate hp]at hb;simp at hb
 red:=fun p hp=>by rw[List.eq_of_mem_replicate hp];exact RedL.nil
 zero:=by rw[getD_get (by rw[List.length_replicate];exact h)];simp
 last:=fun v h1 h2=>absurd h2 (by show ¬ v<1;omega)
 keyw:=fun u y h=>by simp at h
 nodup:=List.nodup_nil
 evens:=rfl
theorem getD_set_ne {α:Type}{l:List α}{i j:Nat}{x d:α}(h:i≠j):(l.set i x).getD j d=l.getD j d:=by
 rw[List.getD_eq_getElem?_getD,List.getElem?_set_ne h,← List.getD_eq_getElem?_getD]
theorem getD_set_eq {α:Type}{l:List α}{i:Nat}{x d:α}(h:i<l.length):(l.set i x).getD i d=x:=by
 rw[List.getD_eq_getElem?_getD,List.getElem?_set_self h];rfl
theorem even_xor:∀ x:Fin 16,((x.val % 2 == 0)=true∧((x.val ^^^ 1) % 2 == 0)=false)∨((x.val % 2 == 0)=false∧((x.val ^^^ 1) % 2 == 0)=true):=by decide
theorem TreeW.step {m:Nat}(hm16:m≤16)(hcl:∀ x,x<m→x ^^^ 1<m){next:List (List Int)}{T:Tree}(hW:TreeW m next T)(h:TreeOk next T){s x:Nat}(hxm:x<m)(hs:s<T.seen)(ht:T.seen<next.length)(hx:getN next s x=(T.seen:Int))(hb:getN next T.seen (x ^^^ 1)=(s:Int)) :
  TreeW m next ⟨T.seen+1,T.paths.set T.seen (T.paths.getD s ⟨#[]⟩ ++ letS (x:Int)),T.keys ++ [((s:Int),(x:Int)),((T.seen:Int),((x ^^^ 1:Nat):Int))]⟩:=by
 have hx16:x<16:=by omega
 have hpl:T.seen<T.paths.length:=by rw[h.len];exact ht
 have hsl:s<T.paths.length:=by omega
 have hps:T.paths.getD s ⟨#[]⟩∈T.paths:=by rw[getD_get hsl];exact List.getElem_mem hsl
 have hnew:(T.paths.getD s ⟨#[]⟩ ++ letS (x:Int)).data.toList=(T.paths.getD s ⟨#[]⟩).data.toList ++ [L x]:=by rw[app_list,letS_list]
 obtain⟨hxx,hx1⟩:=xor_xor ⟨x,hx16⟩;dsimp only at hxx hx1;have old:∀ v,v<T.seen→(T.paths.set T.seen (T.paths.getD s ⟨#[]⟩ ++ letS (x:Int))).getD v ⟨#[]⟩=T.paths.getD v ⟨#[]⟩:=fun v hv=>getD_set_ne (by omega)
 have neu:(T.paths.set T.seen (T.paths.getD s ⟨#[]⟩ ++ letS (x:Int))).getD T.seen ⟨#[]⟩=T.paths.getD s ⟨#[]⟩ ++ letS (x:Int):=getD_set_eq hpl;have hredS:RedL ((T.paths.getD s ⟨#[]⟩).data.toList ++ [L x]):=by
  refine(hW.red _ hps).snoc fun hl=>?_
  by_cases hs0:s=0
  ·subst hs0;rw[hW.zero]at hl;simp at hl
  ·obtain⟨s',x',h1,h2,h3⟩:=hW.last s (by omega) hs
   rw[h2,List.getLast?_append,List.getLast?_singleton]at hl;simp only[Option.some_or,Option.some.injEq]at hl;rw[L_other ⟨x,hx16⟩]at hl;have:=L_inj ⟨x',h1⟩ ⟨x ^^^ 1,hx1⟩ hl;simp only[Fin.mk.injEq]at this;subst this;rw[hxx]at h3;exact h.new1 hx h3
 refine⟨fun p hp b hb=>?_,fun p hp=>?_,?_,fun v h1 h2=>?_,fun u y hm=>?_,?_,?_⟩
 ·rcases List.mem_or_eq_of_mem_set hp with hp|rfl
  ·exact hW.good p hp b hb
  ·rw[hnew]at hb;rcases List.mem_append.1 hb with hb|hb
   ·exact hW.good _ hps b hb
   ·simp only[List.mem_singleton]at hb;exact⟨x,hx16,hb⟩
 ·rcases List.mem_or_eq_of_mem_set hp with hp|rfl
  ·exact hW.red p hp
  ·rw[hnew];exact hredS
 ·show(T.paths.set _ _).getD 0 _=_
  rw[old 0 (by omega)];exact hW.zero
 ·have h2:v<T.seen+1:=h2
  by_cases hv:v<T.seen
  ·obtain⟨s',x',q1,q2,q3⟩:=hW.last v h1 hv
   by_cases hs':s'<T.seen
   ·refine⟨s',x',q1,?_,List.mem_append_left _ q3⟩
    show((T.paths.set _ _).getD v _).data.toList=((T.paths.set _ _).getD s' _).data.toList ++ _
    rw[old v hv,old s' hs'];exact q2
   · -- its parent is met already
    obtain⟨u',y',t',p1,p2,p3,p4,p5,p6,p7,p8,p9⟩:=hW.keyw _ _ q3;obtain rfl:v=u':=by omega
    obtain⟨hyx,hy1⟩:=xor_xor ⟨y',Nat.lt_of_lt_of_le p3 hm16⟩;dsimp only at hyx hy1;rcases p9 with p9|p9
    ·rw[q2]at p9;have e1:(x' ^^^ 1)=y':=by omega
     refine⟨s',x',q1,?_,List.mem_append_left _ q3⟩;exfalso
     have h5:T.paths.getD s' ⟨#[]⟩=⟨#[]⟩∨s'<T.paths.length:=by
      by_cases hl:s'<T.paths.length
      ·exact .inr hl
      ·exact .inl (by rw[List.getD_eq_getElem?_getD,List.getElem?_eq_none (by omega)];rfl)
     have hmem:((T.paths.getD t' ⟨#[]⟩))∈T.paths:=by rw[getD_get (show t'<T.paths.length by rw[h.len];omega)];exact List.getElem_mem _
     have hr:=hW.red _ hmem;rw[p9]at hr;have h6:=hr.inv.2;rw[List.getLast?_append,List.getLast?_singleton]at h6
     apply h6
     rw[← e1,← L_other ⟨x',q1⟩,otherB_otherB];rfl
    ·refine⟨t',x',q1,?_,List.mem_append_left _ q3⟩
     show((T.paths.set _ _).getD v _).data.toList=((T.paths.set _ _).getD t' _).data.toList ++ _
     rw[old v hv,old t' p6,p9];have e1:(x' ^^^ 1)=y':=by omega
     obtain⟨hxx',_⟩:=xor_xor ⟨x',q1⟩;dsimp only at hxx';rw[← e1,hxx']
  ·obtain rfl:v=T.seen:=by omega
   refine⟨s,x,hx16,?_,List.mem_append_right _ (by simp)⟩
   show((T.paths.set _ _).getD T.seen _).data.toList=((T.paths.set _ _).getD s _).data.toList ++ _
   rw[neu,old s hs,hnew]
 ·rcases List.mem_append.1 hm with hm|hm
  ·obtain⟨u',y',t',p1,p2,p3,p4,p5,p6,p7,p8,p9⟩:=hW.keyw u y hm;refine⟨u',y',t',p1,p2,p3,p4,by show u'<T.seen+1;omega,by show t'<T.seen+1;omega,List.mem_append_left _ p7,p8,?_⟩
   show((T.paths.set _ _).getD t' _).data.toList=((T.paths.set _ _).getD u' _).data.toList ++ _∨((T.paths.set _ _).getD u' _).data.toList=((T.paths.set _ _).getD t' _).data.toList ++ _
   rw[old u' p5,old t' p6];exact p9
  ·simp only[List.mem_cons,Prod.mk.injEq,List.not_mem_nil,or_false]at hm;rcases hm with ⟨rfl,rfl⟩|⟨rfl,rfl⟩
   ·refine⟨s,x,T.seen,rfl,rfl,hxm,hx,by show s<T.seen+1;omega,by show T.seen<T.seen+1;omega,List.mem_append_right _ (by simp),hb,.inl ?_⟩
    show((T.paths.set _ _).getD T.seen _).data.toList=((T.paths.set _ _).getD s _).data.toList ++ _
    rw[neu,old s hs,hnew]
   ·refine⟨T.seen,x ^^^ 1,s,rfl,rfl,hcl x hxm,hb,by show T.seen<T.seen+1;omega,by show s<T.seen+1;omega,List.mem_append_right _ (by rw[hxx];simp),by rw[hxx];exact hx,.inr ?_⟩
    show((T.paths.set _ _).getD T.seen _).data.toList=((T.paths.set _ _).getD s _).data.toList ++ _
    rw[neu,old s hs,hnew,hxx]
 ·rw[List.nodup_append];refine⟨hW.nodup,?_,fun a ha b hb'=>?_⟩
  ·simp;omega
  ·simp only[List.mem_cons,List.not_mem_nil,or_false]at hb';rcases hb' with rfl|rfl
   ·exact fun he=>h.new1 hx (he ▸ ha)
   ·intro he;subst he;have:=(h.keys _ _ ha).2.1;omega
 ·show((T.keys ++ [_,_]).filter isEven).length+1=T.seen+1
  rw[List.filter_append,List.length_append];have:=hW.evens;rcases even_xor ⟨x,hx16⟩ with ⟨q1,q2⟩|⟨q1,q2⟩ <;> simp[List.filter_cons,isEven,q1,q2] <;> omega
theorem treeE_ok {m:Nat}(hm16:m≤16)(hcl:∀ x,x<m→x ^^^ 1<m){next:List (List Int)}{s:Nat}:∀ (l:List (Int × Int × Unit))(T:Tree)(r:Nat),(∀ x t u,(x,t,u)∈l→0≤x∧x<(m:Int)∧0≤t∧t<(next.length:Int)∧getN next s x.toNat=t)→TreeOk next T→TreeW m next T→s<T.seen→scanE next s l T.seen=some r →
  TreeOk next (treeE s l T)∧TreeW m next (treeE s l T)∧(treeE s l T).seen=r∧T.seen≤r
 | [],T,r,_,h1,h2,_,hs=>by simp only[scanE,Option.some.injEq]at hs;subst hs;exact⟨h1,h2,rfl,Nat.le_refl _⟩
 | (x,t,u) :: l,T,r,hl,h1,h2,hsT,hs=>by
  obtain⟨a1,a2,a3,a4,a5⟩:=hl x t u (by simp)
  obtain⟨nx,rfl⟩:=Int.eq_ofNat_of_zero_le a1;obtain⟨nt,rfl⟩:=Int.eq_ofNat_of_zero_le a3;simp only[scanE]at hs;split at hs
  ·cases hs
  rename_i hc
  have hb:getN next nt (nx ^^^ 1)=(s:Int):=by
   by_cases hh:(next.getD ((nt:Int)).toNat []).getD (((nx:Int)).toNat ^^^ 1) 0=(s:Int)
   ·exact hh
   ·exact absurd (.inl hh) hc
  have hl':∀ x t u,(x,t,u)∈l→0≤x∧x<(m:Int)∧0≤t∧t<(next.length:Int)∧getN next s x.toNat=t:=fun x t u hm=>hl x t u (by simp[hm])
  simp only[treeE]
  by_cases he:(nt:Int)=(T.seen:Int)
  ·obtain rfl:nt=T.seen:=by omega
   rw[if_pos rfl]at hs ⊢;have h5:getN next s nx=(T.seen:Int):=a5;have:=treeE_ok hm16 hcl l _ r hl' (h1.step hsT (by omega) h5 hb) (h2.step hm16 hcl h1 (by omega) hsT (by omega) h5 hb) (by show s<T.seen+1;omega) hs
   refine⟨this.1,this.2.1,this.2.2.1,?_⟩;have:=this.2.2.2;have:T.seen+1≤r:=this;omega
  ·rw[if_neg he]at hs ⊢;exact treeE_ok hm16 hcl l T r hl' h1 h2 hsT hs
theorem treeR_ok {m:Nat}(hm16:m≤16)(hcl:∀ x,x<m→x ^^^ 1<m){acc:List Bool}{next:List (List Int)}(hrow:∀ r∈next,r.length=m∧∀ t∈r,-1≤t∧t<(next.length:Int)):∀ (l:List (List Int))(s:Nat)(T:Tree)(r:Nat),l=next.drop s→TreeOk next T→TreeW m next T→scanR acc next s l T.seen=some r →
  TreeOk next (treeR s l T)∧TreeW m next (treeR s l T)∧(treeR s l T).seen=r
 | [],s,T,r,_,h1,h2,hs=>by simp only[scanR,Option.some.injEq]at hs;subst hs;exact⟨h1,h2,rfl⟩
 | row :: l,s,T,r,hl,h1,h2,hs=>by
  have hsn:s<next.length:=by
   by_cases hh:s<next.length
   ·exact hh
   ·rw[List.drop_eq_nil_of_le (by omega)]at hl;cases hl
  have hd:next.drop s=next[s] :: next.drop (s+1):=List.drop_eq_getElem_cons hsn;rw[hd]at hl;simp only[List.cons.injEq]at hl;obtain⟨hr,hl⟩:=hl;have hm:=hrow row (by rw[hr];exact List.getElem_mem hsn)
  simp only[scanR]at hs;split at hs
  ·cases hs
  rename_i hc
  split at hs
  ·cases hs
  rename_i seen' hE
  have hsT:s<T.seen:=by
   by_cases hh:T.seen≤s
   ·exact absurd (.inr (.inr hh)) hc
   ·omega
  obtain⟨p1,p2,p3,p4⟩:=treeE_ok hm16 hcl (edgesFrom 0 row) T seen' (fun x t u hx=>by
   obtain⟨e1,e2,e3,e4⟩:=edges_mem row 0 x t u hx;obtain⟨e5,_⟩:=edges_val row 0 x t u hx;have:=hm.2 t e2;have hml:=hm.1;refine⟨e3,by omega,e1,this.2,?_⟩
   unfold getN;rw[getD_get hsn,← hr];simpa using e5) h1 h2 hsT hE
  simp only[treeR];exact treeR_ok hm16 hcl hrow l (s+1) _ r hl p1 p2 (by rw[p3];exact hs)
theorem tree_ok {k:Int}(hk:k≤8){a:Aut}(hc:a.check k=0):TreeOk a.next (treeF a.next)∧TreeW (2*k.toNat) a.next (treeF a.next)∧(treeF a.next).seen=a.next.length:=by
 obtain⟨_,_,h1,_,_,hs,hr⟩:=check_spec hc;exact treeR_ok (m:=2*k.toNat) (by omega) (fun x hx=>xor_even (by omega) hx) (acc:=a.acc) (fun r hm=>⟨by have:=(hr r hm).1;omega,(hr r hm).2⟩) a.next 0 _ _ rfl (TreeOk.start h1) (TreeW.start h1) hs
theorem L_bad:∀ x:Fin 16,badF 8 ((L x.val).toNat:Int)=false:=by decide
def Good (l:List UInt8):Prop:=∀ b∈l,∃ x,x<16∧b=L x
theorem Good.inv {l:List UInt8}(h:Good l):Good (invF l):=fun b hb=>by
 unfold invF at hb;rw[List.mem_reverse]at hb;obtain⟨c,hc,rfl⟩:=List.mem_map.1 hb;obtain⟨x,hx,rfl⟩:=h c hc;exact⟨x ^^^ 1,(xor_xor ⟨x,hx⟩).2,L_other ⟨x,hx⟩⟩
theorem Good.app {a b:List UInt8}(h:Good a) (h':Good b):Good (a ++ b):=fun c hc=>(List.mem_append.1 hc).elim (h c) (h' c)
theorem check_good {s:ByteArray}(h:Good s.data.toList)(hs:s.size≤100000):checkF 8 s=0:=by
 unfold checkF;rw[if_neg (by omega),if_neg (by omega),if_neg]
 unfold hasBad;rw[Bool.not_eq_true,List.any_eq_false];intro b hb;obtain⟨x,hx,rfl⟩:=h b hb;rw[L_bad ⟨x,hx⟩];simp
theorem size_list (s:ByteArray):s.size=s.data.toList.length:=by
 show s.data.size=_
 rw[Array.length_toList]
theorem back_of {k:Int}{a:Aut}(hc:a.check k=0){s x:Nat}(hs:s<a.next.length)(hx:x<2*k.toNat)(hp:0≤getN a.next s x):getN a.next (getN a.next s x).toNat (x ^^^ 1)=(s:Int):=by
 obtain⟨_,_,_,_,_,hsc,hrows⟩:=check_spec hc;have hl:=((scanR_iff a.next 0 1 _).1 hsc).1 s a.next[s] (List.getElem?_eq_getElem hs);rw[Nat.zero_add]at hl;have hr:=hl.2.2;have hlen:=(hrows _ (List.getElem_mem hs)).1;have hg:getN a.next s x=a.next[s].getD x 0:=by unfold getN;rw[getD_get hs]
 rw[hg]at hp ⊢;have:=edges_of a.next[s] 0 x (by omega) hp
 have:=List.all_eq_true.1 hr _ this
 simpa using this
theorem path_mem {T:Tree}{s:Nat}(h:s<T.paths.length):T.paths.getD s ⟨#[]⟩∈T.paths:=by rw[getD_get h];exact List.getElem_mem h
end Go.Proofs.YtffdjfkekdoeaaaDoor.Pl
end
section
namespace Go.Proofs.YtffdjfkekdoeaaaDoor.Pl
open Fo Rf Wd
def Rd:List Nat→Prop
 | x :: y :: l=>y≠x ^^^ 1∧Rd (y :: l)
 | _=>True
theorem Rd_snoc:∀ (l:List Nat)(x:Nat),Rd l→(∀ y,l.getLast? = some y→x≠y ^^^ 1)→Rd (l ++ [x])
 | [],x,_,_=>trivial
 | [a],x,_,h=>⟨h a rfl,trivial⟩
 | a :: b :: l,x,h,hx=>⟨h.1,Rd_snoc (b :: l) x h.2 fun y hy=>hx y (by rw[List.getLast?_cons_cons];exact hy)⟩
theorem red_snoc {l:List UInt8}(h:RedL l)(c:UInt8):RedL (redStep l c):=by
 unfold redStep;split
 ·rename_i hl
  rcases List.eq_nil_or_concat l with rfl|⟨q,d,rfl⟩
  ·exact RedL.nil
  ·rw[List.concat_eq_append]at h ⊢;rw[List.dropLast_concat];exact(RedL.inv h).1
 ·rename_i hl
  exact RedL.snoc h hl
theorem red_fold:∀ (l out:List UInt8),RedL out→RedL (l.foldl redStep out)
 | [],out,h=>h
 | c :: l,out,h=>red_fold l _ (red_snoc h c)
theorem redF_red (l:List UInt8):RedL (redF l):=red_fold l [] RedL.nil
theorem L_of:∀ n:Fin 256,0≤idxF (n.val:Int)→n.val≤127→∃ x:Fin 16,UInt8.ofNat n.val=L x.val:=by decide
theorem rd_map:∀ (n:Nat)(l:List UInt8),l.length=n→RedL l→(∀ b∈l,∃ x,x<16∧b=L x)→Rd (l.map fun b=>(idxF (ofB b)).toNat):=by
 intro n;induction n with
 | zero=>intro l hl _ _;rw[List.length_eq_zero_iff.1 hl];trivial
 | succ n ih=>
  intro l hl hr hg;rcases List.eq_nil_or_concat l with rfl|⟨q,c,rfl⟩
  ·trivial
  ·rw[List.concat_eq_append]at *;obtain⟨h1,h2⟩:=RedL.inv hr;rw[List.map_append];refine Rd_snoc _ _ (ih q (by simp at hl;exact hl) h1 fun b hb=>hg b (by simp[hb])) fun y hy=>?_
   rw[List.getLast?_map]at hy;cases hq:q.getLast? with
   | none=>rw[hq]at hy;cases hy
   | some d=>
    rw[hq]at hy;simp only[Option.map_some,Option.some.injEq]at hy;obtain⟨x,hx,rfl⟩:=hg c (by simp)
    obtain⟨z,hz,rfl⟩:=hg d (by simp[List.mem_of_getLast? hq])
    have e1:=L_idx ⟨x,hx⟩;have e2:=L_idx ⟨z,hz⟩;dsimp only at e1 e2;rw[e2]at hy;simp only[List.map_cons,e1,Int.toNat_natCast]at hy ⊢;subst hy;intro he;refine h2 ?_;rw[hq];have:=L_other ⟨x,hx⟩;dsimp only at this;rw[this,he,xor_two]
theorem rd_word {k:Int}{s:ByteArray}(h:checkF k s=0):Rd (wordF s):=by
 obtain⟨h1,h2,h3,h4⟩:=check_bad h;unfold hasBad at h4;rw[List.any_eq_false]at h4;have hb:∀ b∈s.data.toList,badF k (ofB b)=false:=fun b hb=>by simpa[ofB] using h4 b hb
 refine rd_map _ _ rfl (redF_red _) fun b hx=>?_
 have:=redFold_mem (P:=fun b=>badF k (ofB b)=false) s.data.toList [] (by simp) hb b hx
 simp only[badF,Bool.or_eq_false_iff,ofB]at this;have t1:=of_decide_eq_false this.1;have t2:=of_decide_eq_false this.2.1;obtain⟨x,hx⟩:=L_of ⟨b.toNat,UInt8.toNat_lt b⟩ (by dsimp only;omega) (by dsimp only;omega)
 refine⟨x.val,x.isLt,?_⟩;dsimp only at hx;rw[← hx];simp
theorem edgeR_vt (s x t:Nat):((edgeR s x t).1=s∧(edgeR s x t).2.2=t)∨((edgeR s x t).1=t∧(edgeR s x t).2.2=s):=by
 unfold edgeR;split
 ·exact .inl ⟨rfl,rfl⟩
 ·exact .inr ⟨rfl,rfl⟩
def cE (v:Nat)(e:Ed):Nat:=(if e.1=v then 1 else 0)+(if e.2.2=v then 1 else 0)
theorem degE_cons (v:Nat)(e:Ed)(l:List Ed):degE (e :: l) v=cE v e+degE l v:=by obtain⟨f,x,t⟩:=e;rfl
theorem degE_mem {v:Nat}{e:Ed}:∀ {l:List Ed},e∈l→cE v e≤degE l v
 | [],h=>by simp at h
 | d :: l,h=>by
  rw[degE_cons];rcases List.mem_cons.1 h with rfl|h
  ·omega
  ·have:=degE_mem (v:=v) h;omega
theorem degE_two {v:Nat}{e e':Ed}(hne:e≠e'):∀ {l:List Ed},e∈l→e'∈l→cE v e+cE v e'≤degE l v
 | [],h,_=>by simp at h
 | d :: l,h,h'=>by
  rw[degE_cons];rcases List.mem_cons.1 h with h1|h1 <;> rcases List.mem_cons.1 h' with h2|h2
  ·exact absurd (h1.trans h2.symm) hne
  ·have:=degE_mem (v:=v) h2;rw[← h1];omega
  ·have:=degE_mem (v:=v) h1;rw[← h2];omega
  ·have:=degE_two (v:=v) hne h1 h2;omega
theorem degE_split (v:Nat)(p q:List Ed)(e:Ed):degE (p ++ e :: q) v=degE p v+cE v e+degE q v:=by
 rw[degE_app,degE_cons];omega
theorem degE_pos {v:Nat}:∀ {l:List Ed},0<degE l v→∃ e∈l,0<cE v e
 | [],h=>by simp[degE]at h
 | d :: l,h=>by
  rw[degE_cons]at h
  by_cases hd:0<cE v d
  ·exact⟨d,by simp,hd⟩
  ·obtain⟨e,he,h1⟩:=degE_pos (v:=v) (l:=l) (by omega)
   exact⟨e,by simp[he],h1⟩
theorem dir_two {es:List Ed}{v x t x' t':Nat}(h:Dir es v x t) (h':Dir es v x' t')(hx:x≠x'):2≤degE es v:=by
 rcases h with ⟨a,b⟩|⟨a,b⟩ <;> rcases h' with ⟨a',b'⟩|⟨a',b'⟩
 ·have:=degE_two (v:=v) (fun he=>hx (by simp only[Prod.mk.injEq]at he;omega)) b b'
  simp only[cE,if_true]at this;omega
 ·by_cases he:(v,x,t)=(t',x'-1,v)
  ·simp only[Prod.mk.injEq]at he;have:=degE_mem (v:=v) b;obtain⟨_,_,rfl⟩:=he;simp only[cE,if_true]at this;omega
  ·have:=degE_two (v:=v) he b b';simp only[cE,if_true]at this;omega
 ·by_cases he:(t,x-1,v)=(v,x',t')
  ·simp only[Prod.mk.injEq]at he;have:=degE_mem (v:=v) b';obtain⟨_,_,rfl⟩:=he;simp only[cE,if_true]at this;omega
  ·have:=degE_two (v:=v) he b b';simp only[cE,if_true]at this;omega
 ·have:=degE_two (v:=v) (fun he=>hx (by simp only[Prod.mk.injEq]at he;omega)) b b'
  simp only[cE,if_true]at this;omega
theorem Uq.split {p q:List Ed}{e:Ed}(h:Uq (p ++ e :: q))(hm:e∈p ++ q):e.1=0∧e.2.2=0:=by
 obtain⟨_,h2,h3⟩:=List.pairwise_append.1 h;obtain⟨h4,_⟩:=List.pairwise_cons.1 h2;rcases List.mem_append.1 hm with hm|hm
 ·exact h3 e hm e (by simp) rfl
 ·exact h4 e hm rfl
theorem dir_more {es:List Ed}(he:Evn es)(hu:Uq es)(hd:Det es){s x t:Nat}(hs:s≠0)(h:Dir es s x t)(h2:2≤degE es s):∃ x' t',x'≠x∧Dir es s x' t':=by
 by_cases hl:t=s
 ·subst hl;exact⟨x ^^^ 1,t,xor_ne x,h.back⟩
 have key:∀ e:Ed,e∈es→cE s e≤1→(∀ e',e'∈es→0<cE s e'→(∃ x' t',x'≠x∧Dir es s x' t')∨e'=e)→(e.1≠0∨e.2.2≠0)→∃ x' t',x'≠x∧Dir es s x' t':=fun e hm h1 hcase h0=>by
  obtain⟨p,q,rfl⟩:=List.append_of_mem hm;rw[degE_split]at h2;have:0<degE (p ++ q) s:=by rw[degE_app];omega
  obtain⟨e',he',hc⟩:=degE_pos this;have hmem:e'∈p ++ e :: q:=by
   rcases List.mem_append.1 he' with h|h
   ·simp[h]
   ·simp[h]
  rcases hcase e' hmem hc with h|rfl
  ·exact h
  ·have:=hu.split he';omega
 have ends:∀ e':Ed,e'∈es→0<cE s e'→∃ x' t',Dir es s x' t'∧((x' % 2=0∧e'=(s,x',t'))∨(x' % 2=1∧e'=(t',x'-1,s))):=fun e' hm hc=>by
  obtain⟨f,y,u⟩:=e';have hy:=he _ hm;dsimp only at hy;unfold cE at hc;dsimp only at hc
  by_cases hf:f=s
  ·subst hf;exact⟨y,u,.inl ⟨hy,hm⟩,.inl ⟨hy,rfl⟩⟩
  ·by_cases ht:u=s
   ·subst ht;exact⟨y+1,f,.inr ⟨by omega,hm⟩,.inr ⟨by omega,rfl⟩⟩
   ·rw[if_neg hf,if_neg ht]at hc;omega
 have h':=h;rcases h with ⟨a,b⟩|⟨a,b⟩
 ·refine key (s,x,t) b (by unfold cE;rw[if_pos rfl,if_neg hl];omega) (fun e' hm hc=>?_) (.inl hs)
  obtain⟨x',t',h1,h3⟩:=ends e' hm hc
  by_cases hx:x'=x
  ·subst hx;have:=hd _ _ _ _ h1 h';subst this;rcases h3 with ⟨_,h3⟩|⟨h3,_⟩
   ·exact .inr h3
   ·omega
  ·exact .inl ⟨x',t',hx,h1⟩
 ·refine key (t,x-1,s) b (by unfold cE;rw[if_pos (rfl:(t,x-1,s).2.2=s),if_neg hl];omega) (fun e' hm hc=>?_) (.inr hs)
  obtain⟨x',t',h1,h3⟩:=ends e' hm hc
  by_cases hx:x'=x
  ·subst hx;have:=hd _ _ _ _ h1 h';subst this;rcases h3 with ⟨h3,_⟩|⟨_,h3⟩
   ·omega
   ·exact .inr h3
  ·exact .inl ⟨x',t',hx,h1⟩
theorem leafI_some {all:Bool}{es:List Ed}:∀ {l pre res:List Ed},leafI all es pre l=some res→∃ p e q,pre ++ l=p ++ e :: q∧res=p ++ q∧leafE all es e=true
 | [],pre,res,h=>by simp[leafI]at h
 | d :: l,pre,res,h=>by
  simp only[leafI]at h;split at h
  ·rename_i hd
   cases h
   exact⟨pre,d,l,rfl,rfl,hd⟩
  ·obtain⟨p,e,q,h1,h2,h3⟩:=leafI_some h;exact⟨p,e,q,by rw[← h1];simp,h2,h3⟩
theorem leafI_none {all:Bool}{es:List Ed}:∀ {l pre:List Ed},leafI all es pre l=none→∀ e∈l,leafE all es e=false
 | [],pre,_=>fun e he=>by simp at he
 | d :: l,pre,h=>by
  simp only[leafI]at h;split at h
  ·cases h
  ·rename_i hd
   intro e he;rcases List.mem_cons.1 he with rfl|he
   ·simpa using hd
   ·exact leafI_none h e he
theorem prunedE_mono {all:Bool}:∀ (K K':Nat)(es res:List Ed),K≤K'→prunedE all K es=some res→prunedE all K' es=some res
 | 0,K',es,res,_,h=>by simp[prunedE]at h
 | K+1,0,es,res,hK,_=>by omega
 | K+1,K'+1,es,res,hK,h=>by
  simp only[prunedE]at h ⊢;split at h
  ·exact h
  ·exact prunedE_mono K K' _ res (by omega) h
structure Pr (es res:List Ed):Prop where
 sub:res.Sublist es
 max:∀ S,Part 0 S→(∀ s x t,S s x t→Dir es s x t)→∀ s x t,S s x t→Dir res s x t
 two:∀ s x t,Dir res s x t→s≠0→∃ x' t',x'≠x∧Dir res s x' t'
theorem Det.sub {es es':List Ed}(h:Det es)(hs:∀ e∈es',e∈es):Det es':=fun s x t t' h1 h2=>h s x t t' (h1.mono hs) (h2.mono hs)
theorem prunedE_ev:∀ (n:Nat)(es:List Ed),es.length≤n→Evn es→Uq es→Det es→∃ K res,prunedE false K es=some res∧Pr es res:=by
 intro n;induction n with
 | zero=>
  intro es hn _ _ _;rw[List.length_eq_zero_iff.1 (Nat.le_zero.1 hn)];exact⟨1,[],rfl,List.Sublist.refl _,fun S _ hS s x t h=>hS s x t h,fun s x t h=>by simp[Dir]at h⟩
 | succ n ih=>
  intro es hn he hu hd;cases hl:leafI false es [] es with
  | none=>
   refine⟨1,es,by simp only[prunedE,hl],List.Sublist.refl _,fun S _ hS s x t h=>hS s x t h,fun s x t h hs=>?_⟩
   have hno:=leafI_none hl;refine dir_more he hu hd hs h ?_;have hpos:1≤degE es s:=by
    rcases h with ⟨_,b⟩|⟨_,b⟩
    ·have:=degE_mem (v:=s) b;unfold cE at this;rw[if_pos rfl]at this;omega
    ·have:=degE_mem (v:=s) b;unfold cE at this;rw[if_pos (rfl:(t,x-1,s).2.2=s)]at this;omega
   have hne:degE es s≠1:=fun h1=>by
    rcases h with ⟨_,b⟩|⟨_,b⟩
    ·have:=hno _ b;simp only[leafE,Bool.or_eq_false_iff,decide_eq_false_iff_not]at this;exact this.1 ⟨h1,.inl hs⟩
    ·have:=hno _ b;simp only[leafE,Bool.or_eq_false_iff,decide_eq_false_iff_not]at this;exact this.2 ⟨h1,.inl hs⟩
   omega
  | some es'=>
   obtain⟨p,e,q,h1,rfl,h3⟩:=leafI_some hl;rw[List.nil_append]at h1;subst h1;have hsub:(p ++ q).Sublist (p ++ e :: q):=List.Sublist.append_left (List.sublist_cons_self e q) p;have hmem:∀ d∈p ++ q,d∈p ++ e :: q:=fun d hd=>hsub.mem hd
   obtain⟨K,res,k1,k2⟩:=ih (p ++ q) (by simp at hn ⊢;omega) (fun d hd=>he d (hmem d hd)) (List.Pairwise.sublist hsub hu) (hd.sub hmem)
   refine⟨K+1,res,by simp only[prunedE,hl];exact k1,k2.sub.trans hsub,fun S hS hSE=>k2.max S hS fun s x t h=>?_,k2.two⟩
   -- the edge is in no part
   have hno:∀ v y u,S v y u→v≠0→degE (p ++ e :: q) v≠1:=fun v y u hv hv0 h1=>by
    obtain⟨y',u',hy,hv'⟩:=hS.two v y u hv hv0;have:=dir_two (hSE _ _ _ hv) (hSE _ _ _ hv') (fun h=>hy h.symm)
    omega
   have hE:∀ v y u,S v y u→¬ ((v,y,u)=e∨(u,y-1,v)=e):=fun v y u hv hc=>by
    have hb:=hS.inv _ _ _ hv;simp only[leafE,Bool.or_eq_true,decide_eq_true_iff]at h3;simp only[Bool.false_eq_true,or_false]at h3;rcases hc with rfl|rfl <;> rcases h3 with ⟨h4,h5⟩|⟨h4,h5⟩
    ·exact hno _ _ _ hv h5 h4
    ·exact hno _ _ _ hb h5 h4
    ·exact hno _ _ _ hb h5 h4
    ·exact hno _ _ _ hv h5 h4
   have hne:=hE s x t h;have drop:∀ d:Ed,d∈p ++ e :: q→d≠e→d∈p ++ q:=fun d hd hde=>by
    rcases List.mem_append.1 hd with hd|hd
    ·simp[hd]
    ·rcases List.mem_cons.1 hd with hd|hd
     ·exact absurd hd hde
     ·simp[hd]
   rcases hSE s x t h with ⟨a,b⟩|⟨a,b⟩
   ·exact .inl ⟨a,drop _ b fun h=>hne (.inl h)⟩
   ·exact .inr ⟨a,drop _ b fun h=>hne (.inr h)⟩
theorem idxOf_map {φ:Nat→Nat}{P:Nat→Prop}(inj:∀ u v,P u→P v→φ u=φ v→u=v):∀ (q:List Nat)(t:Nat),(∀ v∈q,P v)→P t→(q.map φ).idxOf (φ t)=q.idxOf t
 | [],t,_,_=>rfl
 | v :: l,t,hq,ht=>by
  rw[List.map_cons,List.idxOf_cons,List.idxOf_cons,idxOf_map inj l t (fun u hu=>hq u (by simp[hu])) ht]
  by_cases h:v=t
  ·subst h;simp
  ·have:φ v≠φ t:=fun he=>h (inj _ _ (hq v (by simp)) ht he)
   rw[show(φ v == φ t)=false by simpa using this,show(v == t)=false by simpa using h]
theorem bfsRow_map {φ:Nat→Nat}{P:Nat→Prop}(inj:∀ u v,P u→P v→φ u=φ v→u=v):∀ (row:Row)(q:List Nat),(∀ t,some t∈row→P t)→(∀ v∈q,P v) →
  bfsRow (row.map (Option.map φ)) (q.map φ)=((bfsRow row q).1.map φ,(bfsRow row q).2)∧∀ v∈(bfsRow row q).1,P v
 | [],q,_,hq=>⟨rfl,hq⟩
 | none :: l,q,hr,hq=>by
  obtain⟨h1,h2⟩:=bfsRow_map inj l q (fun t ht=>hr t (by simp[ht])) hq
  simp only[List.map_cons,Option.map_none,bfsRow];rw[h1];exact⟨rfl,h2⟩
 | some t :: l,q,hr,hq=>by
  have ht:=hr t (by simp)
  have hmem:φ t∈q.map φ↔t∈q:=by
   constructor
   ·intro h;obtain⟨v,hv,he⟩:=List.mem_map.1 h;rw[← inj v t (hq v hv) ht he];exact hv
   ·exact List.mem_map_of_mem
  simp only[List.map_cons,Option.map_some,bfsRow]
  by_cases h:t∈q
  ·obtain⟨h1,h2⟩:=bfsRow_map inj l q (fun t ht=>hr t (by simp[ht])) hq
   rw[if_pos h,if_pos (hmem.2 h),h1,idxOf_map inj q t hq ht];exact⟨rfl,h2⟩
  ·have hq':∀ v∈q ++ [t],P v:=fun v hv=>by
    rcases List.mem_append.1 hv with hv|hv
    ·exact hq v hv
    ·simp only[List.mem_singleton]at hv;subst hv;exact ht
   obtain⟨h1,h2⟩:=bfsRow_map inj l (q ++ [t]) (fun t ht=>hr t (by simp[ht])) hq'
   rw[if_neg h,if_neg (fun hh=>h (hmem.1 hh)),List.length_map]
   rw[List.map_append]at h1;simp only[List.map_cons,List.map_nil]at h1;rw[h1];exact⟨rfl,h2⟩
theorem num_map {φ:Nat→Nat}{P:Nat→Prop}(inj:∀ u v,P u→P v→φ u=φ v→u=v){k:Nat}{es:List Ed}{ρ:Nat→Row}(hρ:∀ v,P v→rowE k es (φ v)=(ρ v).map (Option.map φ))(hP:∀ v,P v→∀ t,some t∈ρ v→P t) :
  ∀ (K i:Nat) (q:List Nat) (out:List Row),(∀ v∈q,P v)→numE k es K i (q.map φ) out=numG ρ K i q out
 | 0,_,_,_,_=>rfl
 | K+1,i,q,out,hq=>by
  simp only[numE,numG,List.getElem?_map];cases hv:q[i]? with
  | none=>rfl
  | some v=>
   have hpv:=hq v (List.mem_of_getElem? hv);obtain⟨h1,h2⟩:=bfsRow_map inj (ρ v) q (hP v hpv) hq;simp only[Option.map_some];rw[hρ v hpv,h1];exact num_map inj hρ hP K (i+1) _ _ h2
theorem stepE_dir {x:Nat}:∀ {es:List Ed}{v t:Nat},stepE es v x=some t→Dir es v x t
 | [],v,t,h=>by simp[stepE]at h
 | (f,y,u) :: l,v,t,h=>by
  simp only[stepE]at h;split at h
  ·rename_i hc
   cases h
   obtain⟨h1,rfl,rfl⟩:=hc;exact .inl ⟨h1,by simp⟩
  ·split at h
   ·rename_i hc
    cases h
    obtain⟨h1,rfl,rfl⟩:=hc;exact .inr ⟨h1,by simp⟩
   ·exact(stepE_dir h).mono fun e he=>by simp[he]
theorem dir_step {x:Nat}:∀ {es:List Ed}{v t:Nat},Dir es v x t→∃ t',stepE es v x=some t'
 | [],v,t,h=>by simp[Dir]at h
 | (f,y,u) :: l,v,t,h=>by
  simp only[stepE];split
  ·exact⟨_,rfl⟩
  ·rename_i h1
   split
   ·exact⟨_,rfl⟩
   ·rename_i h2
    refine dir_step (t:=t) ?_;rcases h with ⟨a,b⟩|⟨a,b⟩
    ·refine .inl ⟨a,?_⟩;rcases List.mem_cons.1 b with b|b
     ·simp only[Prod.mk.injEq]at b;exact absurd ⟨a,b.2.1.symm,b.1.symm⟩ h1
     ·exact b
    ·refine .inr ⟨a,?_⟩;rcases List.mem_cons.1 b with b|b
     ·simp only[Prod.mk.injEq]at b;exact absurd ⟨a,by omega,b.2.2.symm⟩ h2
     ·exact b
theorem stepE_iff {es:List Ed}(hd:Det es){v x t:Nat}:stepE es v x=some t↔Dir es v x t:=by
 constructor
 ·exact stepE_dir
 ·intro h;obtain⟨t',h'⟩:=dir_step h;rw[h',hd _ _ _ _ (stepE_dir h') h]
section
variable {E:List Edg} {st:St} {es0 es1 es2:List Ed} {r:Nat→Nat} {rows':List (Option Row)} {k:Nat} {o:Option (List Row)}
theorem Root.sm {par:List Nat}{u p:Nat}(h:Root par u p):Sm par u p:=⟨p,h,h.self⟩
structure Two (E:List Edg)(st:St)(es0 es1:List Ed)(r:Nat→Nat):Prop where
 inv:Inv E st
 hE:∀ s x t,(s,x,t)∈E↔Dir es0 s x t
 rep:Rep E es0 es1 r
 det:Det es1
theorem Two.inj (h:Two E st es0 es1 r){u v:Nat}(hu:Root st.par u u)(hv:Root st.par v v)(he:r u=r v):u=v:=by
 obtain⟨p,a,b⟩:=h.inv.same_iff hu.lt_left ((h.rep.cg h.hE h.det).1 he);rw[hu.unique a,hv.unique b]
theorem Two.root (h:Two E st es0 es1 r){u p:Nat}(hu:Root st.par u p):r u=r p:=(h.rep.cg h.hE h.det).2 (h.inv.snd.par _ _ hu.sm)
theorem Two.to (h:Two E st es0 es1 r){s x t:Nat}:To (rowsS st.par 0 st.next) s x t↔Root st.par s s∧Root st.par t t∧Dir es1 (r s) x (r t):=by
 rw[to_rows h.inv];constructor
 ·rintro⟨u,h1,h2,h3⟩
  obtain⟨s',e1,e2⟩:=h.inv.snd.ent s x u h2;refine⟨h1,h3.self,(h.rep.dir h.hE).2 ⟨s',u,e1,((h.rep.cg h.hE h.det).2 e2).symm,h.root h3⟩⟩
 ·rintro⟨h1,h2,h3⟩
  obtain⟨s0,t0,e1,e2,e3⟩:=(h.rep.dir h.hE).1 h3;obtain⟨p,t1,a1,a2,a3⟩:=h.inv.cm s0 x t0 e1;rw[h.inv.todo]at a3;have a3:=Eqv.nil (fun _ _ _=>Sm.trans) a3
  have hs0:=a1.lt_left;obtain⟨z,c1,c2⟩:=h.inv.same_iff hs0 ((h.rep.cg h.hE h.det).1 e2);have hz:z=s:=c2.unique h1;subst hz;have hp:p=z:=a1.unique c1;subst hp;have ht0:t0<st.par.length:=by obtain⟨q,_,hq⟩:=a3;exact hq.lt_left
  obtain⟨z',d1,d2⟩:=a3.trans (h.inv.same_iff ht0 ((h.rep.cg h.hE h.det).1 e3));have hz':z'=t:=d2.unique h2;subst hz';exact⟨t1,h1,a2,d1⟩
theorem Two.reach (h:Two E st es0 es1 r){u x v:Nat}(hd:Dir es1 u x v):∃ t,Root st.par t t∧r t=v:=by
 obtain⟨d,hf⟩:=h.inv.ok.forest;obtain⟨s0,t0,e1,e2,e3⟩:=(h.rep.dir h.hE).1 hd;obtain⟨p,t1,a1,a2,a3⟩:=h.inv.cm s0 x t0 e1;rw[h.inv.todo]at a3;obtain⟨q,_,hq⟩:=Eqv.nil (fun _ _ _=>Sm.trans) a3
 exact⟨q,hq.self,by rw[← e3];exact(h.root hq).symm⟩
theorem Two.cut (h:Two E st es0 es1 r){m:Nat}{start:Nat}(hs:Root st.par start start)(hs0:r start=0)(hm:MadeOf m start (rowsS st.par 0 st.next) rows' o)(hp:Pr es1 es2){s x t:Nat} :
  To rows' s x t↔Root st.par s s∧Root st.par t t∧Dir es2 (r s) x (r t):=by
 have hsub:∀ e∈es2,e∈es1:=fun e he=>hp.sub.mem he
 constructor
 ·intro ht;obtain⟨h1,h2,_⟩:=h.to.1 (hm.cut.sub _ _ _ ht);refine⟨h1,h2,hp.max (fun a x b=>∃ s t,r s=a∧r t=b∧To rows' s x t) ⟨?_,?_⟩ ?_ _ _ _ ⟨s,t,rfl,rfl,ht⟩⟩
  ·rintro _ x _ ⟨s,t,rfl,rfl,ht⟩
   exact⟨t,s,rfl,rfl,hm.wf.inv _ _ _ ht⟩
  ·rintro _ x _ ⟨s,t,rfl,rfl,ht⟩ hne
   obtain⟨x',t',hx,ht'⟩:=hm.two s x t ht fun he=>hne (by rw[he];exact hs0)
   exact⟨x',r t',hx,s,t',rfl,rfl,ht'⟩
  ·rintro _ x _ ⟨s,t,rfl,rfl,ht⟩
   exact(h.to.1 (hm.cut.sub _ _ _ ht)).2.2
 ·intro hh;refine hm.cut.max (fun s x t=>Root st.par s s∧Root st.par t t∧Dir es2 (r s) x (r t)) ⟨?_,?_⟩ ?_ s x t hh
  ·rintro s x t ⟨h1,h2,h3⟩
   exact⟨h2,h1,h3.back⟩
  ·rintro s x t ⟨h1,h2,h3⟩ hne
   obtain⟨x',t',hx,hd⟩:=hp.two _ _ _ h3 fun he=>hne (h.inj h1 hs (he.trans hs0.symm))
   obtain⟨q,hq,rfl⟩:=h.reach (hd.mono hsub);exact⟨x',q,hx,h1,hq,hd⟩
  ·rintro s x t ⟨h1,h2,h3⟩
   exact h.to.2 ⟨h1,h2,h3.mono hsub⟩
theorem Two.num (h:Two E st es0 es1 r){start:Nat}(hs:Root st.par start start)(hs0:r start=0)(hm:MadeOf (2*k) start (rowsS st.par 0 st.next) rows' o)(hp:Pr es1 es2)(K:Nat) :
  numE k es2 K 0 [0] []=numG (rowOf rows') K 0 [start] []:=by
 have hsub:∀ e∈es2,e∈es1:=fun e he=>hp.sub.mem he
 have hdet:=h.det.sub hsub;have hlive:∀ v,Root st.par v v→Live rows' v:=fun v hv=>(hm.cut.live v).2 ((live_rows h.inv).2 hv)
 have:=num_map (φ:=r) (P:=fun v=>Root st.par v v) (fun u v hu hv he=>h.inj hu hv he) (k:=k) (es:=es2) (ρ:=rowOf rows') (fun v hv=>?_) (fun v hv t ht=>?_) K 0 [start] [] (fun v hv=>by simp only[List.mem_singleton]at hv;subst hv;exact hs)
 ·rw[List.map_cons,List.map_nil,hs0]at this;exact this
 ·obtain⟨e1,e2,e3⟩:=row_live hm.wf (hlive v hv)
  apply List.ext_getElem?
  intro x;rw[List.getElem?_map]
  by_cases hx:x<2*k
  ·rw[rowE_get hx];have hxr:x<(rowOf rows' v).length:=by rw[e2];exact hx
   rw[List.getElem?_eq_getElem hxr];simp only[Option.map_some,Option.some.injEq];cases ho:(rowOf rows' v)[x] with
   | none=>
    cases hst:stepE es2 (r v) x with
    | none=>rfl
    | some u=>
     exfalso
     have hd:=stepE_dir hst;obtain⟨q,hq,rfl⟩:=h.reach (hd.mono hsub);obtain⟨row,h1,h2⟩:=(h.cut hs hs0 hm hp).2 ⟨hv,hq,hd⟩;rw[e1]at h1;cases h1
     rw[List.getElem?_eq_getElem hxr,ho]at h2;cases h2
   | some t=>
    have ht:To rows' v x t:=⟨_,e1,by rw[List.getElem?_eq_getElem hxr,ho]⟩
    exact(stepE_iff hdet).2 ((h.cut hs hs0 hm hp).1 ht).2.2
  ·rw[List.getElem?_eq_none (by rw[rowE_len];omega),List.getElem?_eq_none (by rw[e2];omega)];rfl
 ·obtain⟨e1,e2,e3⟩:=row_live hm.wf (hlive v hv);obtain⟨x,hx⟩:=List.getElem?_of_mem ht;exact((h.cut hs hs0 hm hp).1 ⟨_,e1,hx⟩).2.1
end
theorem numE_mono {k:Nat}{es:List Ed}:∀ (K K' i:Nat)(q:List Nat)(out res:List Row),K≤K'→numE k es K i q out=some res→numE k es K' i q out=some res
 | 0,_,_,_,_,_,_,h=>by simp[numE]at h
 | K+1,0,_,_,_,_,h,_=>by omega
 | K+1,K'+1,i,q,out,res,hK,h=>by
  simp only[numE]at h ⊢;split at h
  ·exact h
  ·exact numE_mono K K' _ _ _ res (by omega) h
theorem stall_ev {E:List Edg}{st:St}(hi:Inv E st){es0:List Ed}(hE:∀ s x t,(s,x,t)∈E↔Dir es0 s x t)(he:Evn es0){B:Nat}(hB:InB B es0)(hu:Uq es0){k:Nat}(h0:0<st.par.length) {rows':List (Option Row)}{o:Option (List Row)}
  (hm:MadeOf (2*k) (rt st.par 0) (rowsS st.par 0 st.next) rows' o) :
  ∃ K res,stallF k K es0=some res∧((o=some res∧res.length≤2000)∨(o=none∧2000<res.length)):=by
 obtain⟨K1,es1,r,a1,a2,a3,a4⟩:=folded_ev hE he hB _ es0 (fun v=>v) ⟨fun e=>⟨fun h=>⟨e,h,rfl⟩,fun⟨e0,h,heq⟩=>heq ▸ h⟩,fun v=>.refl v,fun _=>rfl,fun _=>Nat.le_refl _⟩ hu (Nat.le_refl _)
 have he1:Evn es1:=fun e h=>by
  obtain⟨e0,h0,rfl⟩:=(a2.img e).1 h;exact he e0 h0
 obtain⟨K2,es2,b1,b2⟩:=prunedE_ev _ es1 (Nat.le_refl _) he1 a3 a4;have h2:Two E st es0 es1 r:=⟨hi,hE,a2,a4⟩;obtain⟨d,hf⟩:=hi.ok.forest;obtain⟨p,hp⟩:=hf.root _ 0 (Nat.le_refl _) h0;have hrt:=rt_spec hp;rw[hrt]at hm;have hp0:r p=0:=by
  rw[← h2.root hp];have:=a2.le 0;omega
 have key:∀ (K3:Nat) (res:List Row),numG (rowOf rows') K3 0 [p] []=some res→stallF k (K1+K2+K3) es0=some res:=fun K3 res h=>by
  unfold stallF;rw[foldedE_mono K1 _ _ _ (by omega) a1]
  simp only;rw[prunedE_mono K2 _ _ _ (by omega) b1]
  simp only;refine numE_mono K3 _ _ _ _ _ (by omega) ?_
  rw[h2.num hp.self hp0 hm b2];exact h
 cases ho:o with
 | some res=>
  obtain⟨⟨K3,h3⟩,hl⟩:=hm.yes res ho;exact⟨_,res,key K3 res h3,.inl ⟨rfl,hl⟩⟩
 | none=>
  obtain⟨res,⟨K3,h3⟩,hl⟩:=hm.no ho;exact⟨_,res,key K3 res h3,.inr ⟨rfl,hl⟩⟩
end Go.Proofs.YtffdjfkekdoeaaaDoor.Pl
end
section
namespace Go.Proofs.YtffdjfkekdoeaaaDoor.Fo
open Fw Wd Rf Pl
def autR (res:FoldR):Aut × Int:=match res with
 | .ok m nexts=>(autOf m nexts,0)
 | .err c=>(⟨0,0,[],[]⟩,c)
theorem bfsRow_length:∀ (row:Row)(q:List Nat),(bfsRow row q).2.length=row.length
 | [],q=>rfl
 | none :: l,q=>by simp only[bfsRow,List.length_cons,bfsRow_length l q]
 | some t :: l,q=>by
  simp only[bfsRow];split
  ·simp only[List.length_cons,bfsRow_length l q]
  ·simp only[List.length_cons,bfsRow_length l (q ++ [t])]
theorem numG_rows {ρ:Nat→Row}{m:Nat}(hρ:∀ v,(ρ v).length≤m):∀ (K i:Nat)(q:List Nat)(out res:List Row),(∀ r∈out,r.length≤m)→numG ρ K i q out=some res→∀ r∈res,r.length≤m
 | 0,_,_,_,_,_,h=>by simp[numG]at h
 | K+1,i,q,out,res,ho,h=>by
  simp only[numG]at h;split at h
  ·cases h;exact ho
  ·rename_i v hv
   refine numG_rows hρ K _ _ _ res (fun r hr=>?_) h
   rcases List.mem_append.1 hr with hr|hr
   ·exact ho r hr
   ·simp only[List.mem_singleton]at hr;subst hr;rw[bfsRow_length];exact hρ v
theorem autIn_zero (w:World):AutIn w ((0:Int),(0:Int),(⟨none,0,0⟩:Sl),(⟨none,0,0⟩:Sl),()) ⟨0,0,[],[]⟩:=
 ⟨rfl,rfl,⟨RdT.nil _ _ _ _,fun _ _=>Nat.zero_le _,fun _ _=>Nat.zero_le _,[],RdT.nil _ _ _ _,rfl,fun i s r hi=>by simp at hi,fun _ _ _ _=>Nat.zero_le _⟩,Nat.zero_le _,Nat.zero_le _,fun r hr=>by simp at hr⟩
theorem autIn_of {w:World}{sa sn:Sl}{m:Nat}{nexts:List Row}{B:Nat}(h:AutR B w sa sn (accF nexts.length) (nexts.map (·.map ofO)))(h1:nexts.length≤2000)(h2:∀ r∈nexts,r.length≤16):AutIn w ((m:Int),(0:Int),sa,sn,()) (autOf m nexts):=
 ⟨rfl,rfl,h.mono (Nat.zero_le _),by
  show(accF nexts.length).length≤maxLen
  rw[accF,List.length_map,List.length_range];have:maxLen=9223372036854775807:=rfl;omega,by
  show(nexts.map (·.map ofO)).length≤maxLen
  rw[List.length_map];have:maxLen=9223372036854775807:=rfl;omega,fun r hr=>by
  obtain⟨r',hr',rfl⟩:=List.mem_map.1 hr;rw[List.length_map];have:=h2 r' hr';have:maxLen=9223372036854775807:=rfl;omega⟩
end Go.Proofs.YtffdjfkekdoeaaaDoor.Fo
end
section
namespace Go.Proofs.YtffdjfkekdoeaaaDoor.Pl
open Fo Rf Wd
def rdS (out:List Nat)(x:Nat):List Nat:=if out.getLast? = some (x ^^^ 1) then out.dropLast else out ++ [x]
def act (X l:List Nat):List Nat:=l.foldl rdS X
def rd (l:List Nat):List Nat:=act [] l
def inv (l:List Nat):List Nat:=(l.map (· ^^^ 1)).reverse
theorem act_app (X a b:List Nat):act X (a ++ b)=act (act X a) b:=List.foldl_append ..
theorem Rd.unsnoc:∀ {l:List Nat}{x:Nat},Rd (l ++ [x])→Rd l∧l.getLast?≠some (x ^^^ 1)
 | [],x,_=>⟨trivial,by simp⟩
 | [a],x,h=>⟨trivial,fun he=>by
  have h:x≠a ^^^ 1∧True:=h;simp only[List.getLast?_singleton,Option.some.injEq]at he;exact h.1 (by rw[he,xor_two])⟩
 | a :: b :: l,x,h=>by
  have h:b≠a ^^^ 1∧Rd (b :: l ++ [x]):=h;obtain⟨h1,h2⟩:=Rd.unsnoc h.2;exact⟨⟨h.1,h1⟩,by rw[List.getLast?_cons_cons];exact h2⟩
theorem Rd.snoc {l:List Nat}{x:Nat}(h:Rd l)(hx:l.getLast?≠some (x ^^^ 1)):Rd (l ++ [x]):=
 Rd_snoc l x h fun y hy he=>hx (by rw[hy,he,xor_two])
theorem rdS_rd {X:List Nat}(h:Rd X)(x:Nat):Rd (rdS X x):=by
 unfold rdS;split
 ·rcases List.eq_nil_or_concat X with rfl|⟨q,d,rfl⟩
  ·exact h
  ·rw[List.concat_eq_append]at h ⊢;rw[List.dropLast_concat];exact(Rd.unsnoc h).1
 ·rename_i hx
  exact h.snoc hx
theorem act_rd {X:List Nat}(h:Rd X):∀ l:List Nat,Rd (act X l):=by
 intro l;induction l generalizing X with
 | nil=>exact h
 | cons x l ih=>exact ih (rdS_rd h x)
theorem rd_rd (l:List Nat):Rd (rd l):=act_rd (X:=[]) trivial l
theorem rdS_two {X:List Nat}(h:Rd X)(x:Nat):rdS (rdS X x) (x ^^^ 1)=X:=by
 unfold rdS
 by_cases hx:X.getLast? = some (x ^^^ 1)
 ·rw[if_pos hx];rcases List.eq_nil_or_concat X with rfl|⟨q,d,rfl⟩
  ·simp at hx
  ·rw[List.concat_eq_append]at h hx ⊢;rw[List.dropLast_concat];simp only[List.getLast?_append,List.getLast?_singleton,Option.some_or,Option.some.injEq]at hx;subst hx;have:=(Rd.unsnoc h).2;rw[if_neg this]
 ·rw[if_neg hx,if_pos (by rw[List.getLast?_append,xor_two];rfl),List.dropLast_concat]
theorem rd_self:∀ (n:Nat)(l:List Nat),l.length=n→Rd l→rd l=l:=by
 intro n;induction n with
 | zero=>intro l hl _;rw[List.length_eq_zero_iff.1 hl];rfl
 | succ n ih=>
  intro l hl h;rcases List.eq_nil_or_concat l with rfl|⟨q,c,rfl⟩
  ·rfl
  ·rw[List.concat_eq_append]at *;obtain⟨h1,h2⟩:=Rd.unsnoc h
   show act [] (q ++ [c])=_
   rw[act_app];have:act [] q=q:=ih q (by simpa using hl) h1
   rw[this]
   show rdS q c=_
   unfold rdS;rw[if_neg h2]
theorem Rd.self {l:List Nat}(h:Rd l):rd l=l:=rd_self _ l rfl h
def Same (a b:List Nat):Prop:=∀ X,Rd X→act X a=act X b
theorem Same.refl (a:List Nat):Same a a:=fun _ _=>rfl
theorem Same.symm {a b:List Nat}(h:Same a b):Same b a:=fun X hX=>(h X hX).symm
theorem Same.trans {a b c:List Nat}(h:Same a b)(k:Same b c):Same a c:=fun X hX=>(h X hX).trans (k X hX)
theorem Same.app {a b c d:List Nat}(h:Same a b)(k:Same c d):Same (a ++ c) (b ++ d):=fun X hX=>by
 rw[act_app,act_app,h X hX,k _ (act_rd hX b)]
theorem same_pair (x:Nat):Same [x,x ^^^ 1] []:=fun X hX=>rdS_two hX x
theorem same_pair' (x:Nat):Same [x ^^^ 1,x] []:=by
 have:=same_pair (x ^^^ 1)
 rwa [xor_two]at this
theorem same_rdS (X:List Nat)(x:Nat):Same (rdS X x) (X ++ [x]):=by
 unfold rdS;split
 ·rename_i hx
  rcases List.eq_nil_or_concat X with rfl|⟨q,d,rfl⟩
  ·simp at hx
  ·rw[List.concat_eq_append]at hx ⊢;rw[List.dropLast_concat];simp only[List.getLast?_append,List.getLast?_singleton,Option.some_or,Option.some.injEq]at hx;subst hx;rw[List.append_assoc];have:=(Same.refl q).app (same_pair' x);rw[List.append_nil]at this;exact this.symm
 ·exact Same.refl _
theorem same_act:∀ (l X:List Nat),Same (act X l) (X ++ l)
 | [],X=>by rw[List.append_nil];exact Same.refl _
 | x :: l,X=>by
  have h1:=same_act l (rdS X x);have h2:=(same_rdS X x).app (Same.refl l);rw[List.append_assoc]at h2;exact h1.trans h2
theorem same_rd (l:List Nat):Same (rd l) l:=same_act l []
theorem Same.rd_eq {a b:List Nat}(h:Same a b):rd a=rd b:=h [] trivial
theorem inv_app (a b:List Nat):inv (a ++ b)=inv b ++ inv a:=by simp[inv]
theorem inv_cons (x:Nat)(a:List Nat):inv (x :: a)=inv a ++ [x ^^^ 1]:=by simp[inv]
theorem inv_inv (a:List Nat):inv (inv a)=a:=by
 unfold inv;rw[List.map_reverse,List.reverse_reverse,List.map_map]
 conv=>rhs;rw[← List.map_id a]
 exact List.map_congr_left fun x _=>xor_two x
theorem same_inv:∀ a:List Nat,Same (a ++ inv a) []
 | []=>Same.refl _
 | x :: a=>by
  rw[inv_cons];have h1:x :: a ++ (inv a ++ [x ^^^ 1])=[x] ++ (a ++ inv a) ++ [x ^^^ 1]:=by simp
  rw[h1];have h2:=((Same.refl [x]).app (same_inv a)).app (Same.refl [x ^^^ 1]);exact h2.trans (same_pair x)
theorem same_inv' (a:List Nat):Same (inv a ++ a) []:=by
 have:=same_inv (inv a)
 rwa [inv_inv]at this
theorem Same.inv {a b:List Nat}(h:Same a b):Same (Pl.inv a) (Pl.inv b):=by
 have h1:Same (Pl.inv a ++ (b ++ Pl.inv b)) (Pl.inv a ++ []):=(Same.refl _).app (same_inv b);have h2:Same (Pl.inv a ++ a ++ Pl.inv b) (Pl.inv a ++ b ++ Pl.inv b):=((Same.refl _).app h).app (Same.refl _);have h3:Same (Pl.inv a ++ a ++ Pl.inv b) ([] ++ Pl.inv b):=(same_inv' a).app (Same.refl _);rw[List.append_nil,← List.append_assoc]at h1;rw[List.nil_append]at h3;exact(h1.symm.trans h2.symm).trans h3
inductive Mem (gs:List (List Nat)):List Nat→Prop
 | one:Mem gs []
 | gen {g:List Nat}:g∈gs→Mem gs g
 | mul {a b:List Nat}:Mem gs a→Mem gs b→Mem gs (a ++ b)
 | neg {a:List Nat}:Mem gs a→Mem gs (inv a)
 | same {a b:List Nat}:Mem gs a→Same a b→Mem gs b
inductive Run (δ:Nat→Nat→Nat→Prop):Nat→List Nat→Nat→Prop
 | nil (s:Nat):Run δ s [] s
 | cons {s x u t:Nat} {l:List Nat}:δ s x u→Run δ u l t→Run δ s (x :: l) t
structure Aut' (δ:Nat→Nat→Nat→Prop):Prop where
 det:∀ s x t t',δ s x t→δ s x t'→t=t'
 inv:∀ s x t,δ s x t→δ t (x ^^^ 1) s
section
variable {δ:Nat→Nat→Nat→Prop}
theorem Run.app {s u t:Nat}{a b:List Nat}(h:Run δ s a u)(k:Run δ u b t):Run δ s (a ++ b) t:=by
 induction h with
 | nil _=>exact k
 | cons h _ ih=>exact .cons h (ih k)
theorem Run.split:∀ {a:List Nat}{s t:Nat}{b:List Nat},Run δ s (a ++ b) t→∃ u,Run δ s a u∧Run δ u b t
 | [],s,t,b,h=>⟨s,.nil s,h⟩
 | x :: a,s,t,b,h=>by
  cases h with
  | cons h1 h2=>
   obtain⟨u,h3,h4⟩:=Run.split h2;exact⟨u,.cons h1 h3,h4⟩
theorem Run.one {s x t:Nat}(h:δ s x t):Run δ s [x] t:=.cons h (.nil t)
theorem Run.of_one {s x t:Nat}(h:Run δ s [x] t):δ s x t:=by
 cases h with
 | cons h1 h2=>cases h2;exact h1
theorem Run.det (hA:Aut' δ){s t t':Nat}{a:List Nat}(h:Run δ s a t)(k:Run δ s a t'):t=t':=by
 induction h with
 | nil _=>cases k;rfl
 | cons h1 _ ih=>
  cases k with
  | cons k1 k2=>
   have:=hA.det _ _ _ _ h1 k1;subst this;exact ih k2
theorem Run.back (hA:Aut' δ){s t:Nat}{a:List Nat}(h:Run δ s a t):Run δ t (inv a) s:=by
 induction h with
 | nil s=>exact .nil s
 | cons h1 _ ih=>
  rw[inv_cons];exact ih.app (.one (hA.inv _ _ _ h1))
theorem Run.rdS (hA:Aut' δ){s u t x:Nat}{X:List Nat}(h:Run δ s X u)(k:δ u x t):Run δ s (rdS X x) t:=by
 unfold Pl.rdS;split
 ·rename_i hx
  rcases List.eq_nil_or_concat X with rfl|⟨q,d,rfl⟩
  ·simp at hx
  ·rw[List.concat_eq_append]at hx h ⊢;rw[List.dropLast_concat];simp only[List.getLast?_append,List.getLast?_singleton,Option.some_or,Option.some.injEq]at hx;subst hx;obtain⟨v,h1,h2⟩:=h.split;have h3:=hA.inv _ _ _ h2.of_one;rw[xor_two]at h3;have:=hA.det _ _ _ _ h3 k;subst this;exact h1
 ·exact h.app (.one k)
theorem Run.act (hA:Aut' δ):∀ (l:List Nat){s u t:Nat}{X:List Nat},Run δ s X u→Run δ u l t→Run δ s (act X l) t
 | [],s,u,t,X,h,k=>by cases k;exact h
 | x :: l,s,u,t,X,h,k=>by
  cases k with
  | cons k1 k2=>exact Run.act hA l (h.rdS hA k1) k2
theorem Run.rd (hA:Aut' δ){s t:Nat}{l:List Nat}(h:Run δ s l t):Run δ s (rd l) t:=Run.act hA l (.nil s) h
end
theorem mem_back {gs:List (List Nat)}{a b:List Nat}{x:Nat}(h:Mem gs (a ++ [x] ++ inv b)):Mem gs (b ++ [x ^^^ 1] ++ inv a):=by
 have:=h.neg;rw[inv_app,inv_app,inv_inv]at this;have e:b ++ (inv [x] ++ inv a)=b ++ [x ^^^ 1] ++ inv a:=by rw[List.append_assoc];rfl
 rwa [e]at this
section
variable {E:List Edg} {st:St}
noncomputable abbrev RowsOf (st:St):List (Option Row):=rowsS st.par 0 st.next
theorem rows_aut (h:Inv E st)(hb:Both E):Aut' (To (RowsOf st)):=⟨fun _ _ _ _ a b=>a.unique b,(wf_rows h hb).inv⟩
theorem edge_to (h:Inv E st){s x t:Nat}(he:(s,x,t)∈E):To (RowsOf st) (rt st.par s) x (rt st.par t):=by
 obtain⟨p,t1,a1,a2,a3⟩:=h.cm s x t he;rw[h.todo]at a3;obtain⟨q,b1,b2⟩:=Eqv.nil (fun _ _ _=>Sm.trans) a3
 rw[rt_spec a1,rt_spec b2];exact(to_rows h).2 ⟨t1,a1.self,a2,b1⟩
theorem run_rows (h:Inv E st){s t:Nat}{l:List Nat}(hr:Run (fun s x t=>(s,x,t)∈E) s l t):Run (To (RowsOf st)) (rt st.par s) l (rt st.par t):=by
 induction hr with
 | nil s=>exact .nil _
 | cons h1 _ ih=>exact .cons (edge_to h h1) ih
end
end Go.Proofs.YtffdjfkekdoeaaaDoor.Pl
end
section
namespace Go.Proofs.YtffdjfkekdoeaaaDoor.Pl
open Fo Rf Wd
theorem Rd_app:∀ {a b:List Nat},Rd a→Rd b→(∀ y z,a.getLast? = some y→b.head? = some z→z≠y ^^^ 1)→Rd (a ++ b)
 | [],b,_,hb,_=>hb
 | [x],[],_,_,_=>trivial
 | [x],z :: b,_,hb,h=>⟨h x z rfl rfl,hb⟩
 | x :: y :: a,b,ha,hb,h=>⟨ha.1,Rd_app (a:=y :: a) ha.2 hb fun u z hu hz=>h u z (by rw[List.getLast?_cons_cons];exact hu) hz⟩
theorem Rd_pre:∀ {a b:List Nat},Rd (a ++ b)→Rd a
 | [],_,_=>trivial
 | [_],_,_=>trivial
 | x :: y :: a,b,h=>⟨h.1,Rd_pre (a:=y :: a) h.2⟩
theorem Rd_inv:∀ {a:List Nat},Rd a→Rd (inv a)
 | [],_=>trivial
 | [x],_=>trivial
 | x :: y :: a,h=>by
  rw[inv_cons];refine(Rd_inv (a:=y :: a) h.2).snoc ?_;rw[inv_cons,List.getLast?_append];simp only[List.getLast?_singleton,Option.some_or,xor_two];intro he;exact h.1 (by rw[← Option.some.inj he,xor_two])
structure Gr (δ:Nat→Nat→Nat→Prop)(r:Nat)(N:Nat):Prop where
 aut:Aut' δ
 two:∀ s x t,δ s x t→s≠r→∃ x' t',x'≠x∧δ s x' t'
 lt:∀ s x t,δ s x t→s<N∧t<N
 r:r<N
inductive Tr (δ:Nat→Nat→Nat→Prop) (r:Nat):Nat→List (Nat × Nat)→Prop
 | nil:Tr δ r r []
 | step {v x u:Nat} {l:List (Nat × Nat)}:Tr δ r v l→δ v x u→Tr δ r u ((x,v) :: l)
def word (l:List (Nat × Nat)):List Nat:=(l.map (·.1)).reverse
def Simp (u:Nat)(l:List (Nat × Nat)):Prop:=(u :: l.map (·.2)).Nodup
theorem word_cons (x v:Nat)(l:List (Nat × Nat)):word ((x,v) :: l)=word l ++ [x]:=by simp[word]
theorem word_last (l:List (Nat × Nat)):(word l).getLast? = l.head?.map (·.1):=by
 unfold word;rw[List.getLast?_reverse,List.head?_map]
section
variable {δ:Nat→Nat→Nat→Prop} {r N:Nat}
theorem Tr.run {u:Nat}{l:List (Nat × Nat)}(h:Tr δ r u l):Run δ r (word l) u:=by
 induction h with
 | nil=>exact .nil r
 | step _ h2 ih=>rw[word_cons];exact ih.app (.one h2)
theorem Tr.mem_r {u:Nat}{l:List (Nat × Nat)}(h:Tr δ r u l):r∈u :: l.map (·.2):=by
 induction h with
 | nil=>simp
 | step _ _ ih=>
  simp only[List.map_cons,List.mem_cons]at ih ⊢;exact .inr ih
theorem Tr.cut {u t:Nat}{l:List (Nat × Nat)}(h:Tr δ r u l)(ht:t∈u :: l.map (·.2)):∃ l1 l2,l=l1 ++ l2∧Tr δ r t l2:=by
 induction h with
 | nil=>
  simp only[List.map_nil,List.mem_singleton]at ht;subst ht;exact⟨[],[],rfl,.nil⟩
 | @step v x u l h1 h2 ih=>
  rcases List.mem_cons.1 ht with rfl|ht
  ·exact⟨[],_,rfl,.step h1 h2⟩
  ·obtain⟨l1,l2,rfl,h3⟩:=ih ht;exact⟨(x,v) :: l1,l2,rfl,h3⟩
theorem Tr.lt (hG:Gr δ r N){u:Nat}{l:List (Nat × Nat)}(h:Tr δ r u l):∀ v∈u :: l.map (·.2),v<N:=by
 induction h with
 | nil=>intro v hv;simp only[List.map_nil,List.mem_singleton]at hv;subst hv;exact hG.r
 | step _ h2 ih=>
  intro v hv;rcases List.mem_cons.1 hv with rfl|hv
  ·exact(hG.lt _ _ _ h2).2
  ·exact ih v hv
theorem Tr.rd (hG:Gr δ r N){u:Nat}{l:List (Nat × Nat)}(h:Tr δ r u l)(hs:Simp u l):Rd (word l):=by
 induction h with
 | nil=>exact trivial
 | @step v x u l h1 h2 ih=>
  have hs':Simp v l:=(List.nodup_cons.1 hs).2;rw[word_cons];refine(ih hs').snoc ?_;rw[word_last];intro he;cases h1 with
  | nil=>simp at he
  | @step w y _ l1 k1 k2=>
   simp only[List.head?_cons,Option.map_some,Option.some.injEq]at he;subst he;have k3:=hG.aut.inv _ _ _ k2;rw[xor_two]at k3;have:=hG.aut.det _ _ _ _ h2 k3;subst this;have:=(List.nodup_cons.1 hs).1;simp at this
theorem inv_word (l:List (Nat × Nat)):inv (word l)=l.map fun p=>p.1 ^^^ 1:=by
 unfold inv word;rw[List.map_reverse,List.reverse_reverse,List.map_map];rfl
theorem cut_simp {u t:Nat}{l:List (Nat × Nat)}(h:Tr δ r u l)(hs:Simp u l)(ht:t∈u :: l.map (·.2)):∃ l1 l2,l=l1 ++ l2∧Tr δ r t l2∧Simp t l2:=by
 induction h with
 | nil=>
  simp only[List.map_nil,List.mem_singleton]at ht;subst ht;exact⟨[],[],rfl,.nil,hs⟩
 | @step v x u l h1 h2 ih=>
  rcases List.mem_cons.1 ht with rfl|ht
  ·exact⟨[],_,rfl,.step h1 h2,hs⟩
  ·obtain⟨l1,l2,rfl,h3,h4⟩:=ih (List.nodup_cons.1 hs).2 ht;exact⟨(x,v) :: l1,l2,rfl,h3,h4⟩
theorem close (hG:Gr δ r N):∀ (n u:Nat)(l:List (Nat × Nat))(x t:Nat),N-l.length≤n→Tr δ r u l→Simp u l→δ u x t→(∀ y v,l.head? = some (y,v)→x≠y ^^^ 1)→∃ q,Rd (word l ++ x :: q)∧Run δ t q r:=by
 intro n;induction n with
 | zero=>
  intro u l x t hn h hs;have:=nodup_len N _ hs (h.lt hG);simp at this;omega
 | succ n ih=>
  intro u l x t hn h hs hx hno;have hlen:=nodup_len N _ hs (h.lt hG);simp only[List.length_cons,List.length_map]at hlen;have hw:Rd (word l ++ [x]):=(h.rd hG hs).snoc (by
   rw[word_last];intro he;cases hl:l.head? with
   | none=>rw[hl]at he;cases he
   | some p=>
    obtain⟨y,v⟩:=p;rw[hl]at he;simp only[Option.map_some,Option.some.injEq]at he;exact hno y v hl (by rw[he,xor_two]))
  by_cases ht:t∈u :: l.map (·.2)
  ·obtain⟨l1,l2,hl,h2,hs2⟩:=cut_simp h hs ht;refine⟨inv (word l2),?_,h2.run.back hG.aut⟩;have e:word l ++ x :: inv (word l2)=(word l ++ [x]) ++ inv (word l2):=by simp
   rw[e];refine Rd_app hw (Rd_inv (h2.rd hG hs2)) fun y z hy hz=>?_
   rw[List.getLast?_append]at hy;simp only[List.getLast?_singleton,Option.some_or,Option.some.injEq]at hy;subst hy;rw[inv_word]at hz;cases h2 with
   | nil=>simp at hz
   | @step v y _ l3 k1 k2=>
    simp only[List.map_cons,List.head?_cons,Option.some.injEq]at hz;subst hz;intro he;have hyx:y=x:=by have:=congrArg (· ^^^ 1) he;simpa[xor_two] using this
    subst hyx;have:=hG.aut.det _ _ _ _ (hG.aut.inv _ _ _ k2) (hG.aut.inv _ _ _ hx);subst this;have:=(List.nodup_cons.1 hs).1;rw[hl]at this;simp at this
  ·have hs':Simp t ((x,u) :: l):=List.nodup_cons.2 ⟨by simpa using ht,hs⟩
   have hr:t≠r:=fun he=>ht (he ▸ h.mem_r)
   obtain⟨x',t',h1,h2⟩:=hG.two _ _ _ (hG.aut.inv _ _ _ hx) hr;obtain⟨q,a1,a2⟩:=ih t ((x,u) :: l) x' t' (by simp only[List.length_cons];omega) (.step h hx) hs' h2 (fun y v hy=>by
    simp only[List.head?_cons,Option.some.injEq,Prod.mk.injEq]at hy;rw[← hy.1];exact h1)
   rw[word_cons,List.append_assoc]at a1;exact⟨x' :: q,a1,.cons h2 a2⟩
theorem extend (hG:Gr δ r N){u:Nat}{l:List (Nat × Nat)}(h:Tr δ r u l)(hs:Simp u l):∃ q,Rd (word l ++ q)∧Run δ u q r:=by
 cases h with
 | nil=>exact⟨[],trivial,.nil r⟩
 | @step v y _ l k1 k2=>
  have hr:u≠r:=fun he=>by
   have h1:=(List.nodup_cons.1 hs).1;have h2:=k1.mem_r;rw[he]at h1;simp only[List.map_cons]at h1;exact h1 h2
  obtain⟨x',t',h1,h2⟩:=hG.two _ _ _ (hG.aut.inv _ _ _ k2) hr;obtain⟨q,a1,a2⟩:=close hG _ u ((y,v) :: l) x' t' (Nat.le_refl _) (.step k1 k2) hs h2 (fun y' v' hy=>by
   simp only[List.head?_cons,Option.some.injEq,Prod.mk.injEq]at hy;rw[← hy.1];exact h1)
  exact⟨x' :: q,a1,.cons h2 a2⟩
theorem reach_step {v x t:Nat}{l:List (Nat × Nat)}(h:Tr δ r v l)(hs:Simp v l)(hx:δ v x t):∃ l',Tr δ r t l'∧Simp t l':=by
 by_cases ht:t∈v :: l.map (·.2)
 ·obtain⟨_,l2,_,h2,h3⟩:=cut_simp h hs ht;exact⟨l2,h2,h3⟩
 ·exact⟨(x,v) :: l,.step h hx,List.nodup_cons.2 ⟨by simpa using ht,hs⟩⟩
theorem coset (hA:Aut' δ):∀ (n:Nat)(p q:List Nat)(v1 v2:Nat),p.length=n→Rd p→Rd q→Run δ r p v1→Run δ r q v2→Run δ r (rd (p ++ inv q)) r→v1=v2:=by
 intro n;induction n with
 | zero=>
  intro p q v1 v2 hn hp hq h1 h2 h3;rw[List.length_eq_zero_iff.1 hn]at h1 h3;rw[List.nil_append,(Rd_inv hq).self]at h3;have:=h3.back hA;rw[inv_inv]at this;cases h1
  exact Run.det hA this h2
 | succ n ih=>
  intro p q v1 v2 hn hp hq h1 h2 h3;rcases List.eq_nil_or_concat p with rfl|⟨a,x,rfl⟩
  ·simp at hn
  rw[List.concat_eq_append]at *;rcases List.eq_nil_or_concat q with rfl|⟨b,y,rfl⟩
  ·have e:a ++ [x] ++ inv []=a ++ [x]:=by simp[inv]
   rw[e,hp.self]at h3;cases h2
   exact Run.det hA h1 h3
  rw[List.concat_eq_append]at *
  by_cases hxy:x=y
  ·subst hxy;obtain⟨u1,k1,k2⟩:=h1.split;obtain⟨u2,k3,k4⟩:=h2.split;have e:rd (a ++ [x] ++ inv (b ++ [x]))=rd (a ++ inv b):=by
    apply Same.rd_eq
    rw[inv_app];have e1:a ++ [x] ++ (inv [x] ++ inv b)=a ++ [x,x ^^^ 1] ++ inv b:=by simp[inv]
    rw[e1];have:=((Same.refl a).app (same_pair x)).app (Same.refl (inv b));rw[List.append_nil]at this;exact this
   rw[e]at h3;have:=ih a b u1 u2 (by simpa using hn) (Rd.unsnoc hp).1 (Rd.unsnoc hq).1 k1 k3 h3
   subst this;exact Run.det hA k2 k4
  ·have hr:Rd (a ++ [x] ++ inv (b ++ [y])):=by
    refine Rd_app hp (Rd_inv hq) fun u z hu hz=>?_
    rw[List.getLast?_append]at hu;simp only[List.getLast?_singleton,Option.some_or,Option.some.injEq]at hu;subst hu;rw[inv_app]at hz;have hz:y ^^^ 1=z:=by simpa[inv] using hz
    subst hz;intro he;exact hxy (by have:=congrArg (· ^^^ 1) he;simpa[xor_two] using this.symm)
   rw[hr.self]at h3;obtain⟨u,k1,k2⟩:=h3.split;have:=Run.det hA h1 k1;subst this;have k3:=k2.back hA;rw[inv_inv]at k3;exact Run.det hA k3 h2
end
section
variable {δ ε:Nat→Nat→Nat→Prop} {a b N M:Nat}
structure Pair (δ ε:Nat→Nat→Nat→Prop)(a b N M:Nat):Prop where
 l:Gr δ a N
 r:Gr ε b M
 same:∀ p,Rd p→(Run δ a p a↔Run ε b p b)
theorem Pair.symm (h:Pair δ ε a b N M):Pair ε δ b a M N:=⟨h.r,h.l,fun p hp=>(h.same p hp).symm⟩
def Rch (δ:Nat→Nat→Nat→Prop)(a v:Nat):Prop:=∃ l,Tr δ a v l∧Simp v l
open Classical in
noncomputable def to (δ ε:Nat→Nat→Nat→Prop) (a b v:Nat):Nat:=if h:∃ v' p,Rd p∧Run δ a p v∧Run ε b p v' then Classical.choose h else 0
theorem Pair.spec (h:Pair δ ε a b N M){v v':Nat}{p:List Nat}(hp:Rd p)(h1:Run δ a p v)(h2:Run ε b p v'):to δ ε a b v=v':=by
 have hx:∃ v' p,Rd p∧Run δ a p v∧Run ε b p v':=⟨v',p,hp,h1,h2⟩;unfold to;rw[dif_pos hx];obtain⟨q,k1,k2,k3⟩:=Classical.choose_spec hx;refine coset h.r.aut _ q p _ _ rfl k1 hp k3 h2 ?_;exact(h.same _ (rd_rd _)).1 ((k2.app (h1.back h.l.aut)).rd h.l.aut)
theorem Pair.tr (h:Pair δ ε a b N M){v:Nat}{l:List (Nat × Nat)}(ht:Tr δ a v l)(hs:Simp v l):Run ε b (word l) (to δ ε a b v):=by
 obtain⟨q,h1,h2⟩:=extend h.l ht hs;obtain⟨u,k1,k2⟩:=((h.same _ h1).1 (ht.run.app h2)).split;rw[h.spec (ht.rd h.l hs) ht.run k1];exact k1
theorem Pair.inj (h:Pair δ ε a b N M){u v:Nat}(hu:Rch δ a u)(hv:Rch δ a v)(he:to δ ε a b u=to δ ε a b v):u=v:=by
 obtain⟨l,k1,k2⟩:=hu;obtain⟨l',k3,k4⟩:=hv;have h1:=h.tr k1 k2;have h2:=h.tr k3 k4;rw[he]at h1;refine coset h.l.aut _ _ _ _ _ rfl (k1.rd h.l k2) (k3.rd h.l k4) k1.run k3.run ?_;exact(h.same _ (rd_rd _)).2 ((h1.app (h2.back h.r.aut)).rd h.r.aut)
theorem Pair.step (h:Pair δ ε a b N M){v x t:Nat}(hv:Rch δ a v)(hx:δ v x t):ε (to δ ε a b v) x (to δ ε a b t):=by
 obtain⟨l,k1,k2⟩:=hv
 by_cases hc:∀ y w,l.head? = some (y,w)→x≠y ^^^ 1
 ·obtain⟨q,h1,h2⟩:=close h.l _ v l x t (Nat.le_refl _) k1 k2 hx hc;obtain⟨u,e1,e2⟩:=((h.same _ h1).1 (k1.run.app (.cons hx h2))).split;have hu:=h.spec (k1.rd h.l k2) k1.run e1;cases e2 with
  | @cons _ _ u' _ _ f1 f2=>
   have h3:Rd (word l ++ [x]):=by
    have e:word l ++ x :: q=(word l ++ [x]) ++ q:=by simp
    rw[e]at h1;exact Rd_pre h1
   rw[hu,h.spec h3 (k1.run.app (.one hx)) (e1.app (.one f1))];exact f1
 ·simp only[Classical.not_forall,Classical.not_not]at hc;obtain⟨y,w,hl,rfl⟩:=hc;cases k1 with
  | nil=>simp at hl
  | @step w' y' _ l1 e1 e2=>
   simp only[List.head?_cons,Option.some.injEq,Prod.mk.injEq]at hl;obtain⟨rfl,rfl⟩:=hl;have:=h.l.aut.det _ _ _ _ (h.l.aut.inv _ _ _ e2) hx;subst this;have hs1:Simp w' l1:=(List.nodup_cons.1 k2).2;have r1:=h.tr (.step e1 e2) k2;rw[word_cons]at r1;obtain⟨z,f1,f2⟩:=r1.split;rw[h.spec (e1.rd h.l hs1) e1.run f1];exact h.r.aut.inv _ _ _ f2.of_one
theorem Pair.rch (h:Pair δ ε a b N M){v:Nat}{l:List (Nat × Nat)}(hv:Tr δ a v l)(hs:Simp v l):Rch ε b (to δ ε a b v):=by
 induction hv with
 | nil=>
  rw[h.spec (p:=[]) trivial (.nil a) (.nil b)];exact⟨[],.nil,by simp[Simp]⟩
 | @step v x u l h1 h2 ih=>
  have hs1:Simp v l:=(List.nodup_cons.1 hs).2;obtain⟨l',k1,k2⟩:=ih hs1;exact reach_step k1 k2 (h.step ⟨l,h1,hs1⟩ h2)
theorem Pair.two (h:Pair δ ε a b N M){v:Nat}(hv:Rch δ a v):to ε δ b a (to δ ε a b v)=v:=by
 obtain⟨l,k1,k2⟩:=hv;exact h.symm.spec (k1.rd h.l k2) (h.tr k1 k2) k1.run
theorem Pair.back (h:Pair δ ε a b N M){v x t':Nat}(hv:Rch δ a v)(hx:ε (to δ ε a b v) x t'):∃ t,δ v x t∧t'=to δ ε a b t:=by
 obtain⟨l,k1,k2⟩:=id hv;have hb:=h.rch k1 k2;have h1:=h.symm.step hb hx;rw[h.two hv]at h1;refine⟨_,h1,?_⟩;exact h.r.aut.det _ _ _ _ hx (h.step hv h1)
end
end Go.Proofs.YtffdjfkekdoeaaaDoor.Pl
end
section
namespace Go.Proofs.YtffdjfkekdoeaaaDoor.Pl
open Fo Rf Wd
theorem num_mapG {φ:Nat→Nat}{P:Nat→Prop}(inj:∀ u v,P u→P v→φ u=φ v→u=v){ρ ρ':Nat→Row}(hρ:∀ v,P v→ρ' (φ v)=(ρ v).map (Option.map φ))(hP:∀ v,P v→∀ t,some t∈ρ v→P t) :
  ∀ (K i:Nat) (q:List Nat) (out:List Row),(∀ v∈q,P v)→numG ρ' K i (q.map φ) out=numG ρ K i q out
 | 0,_,_,_,_=>rfl
 | K+1,i,q,out,hq=>by
  simp only[numG,List.getElem?_map];cases hv:q[i]? with
  | none=>rfl
  | some v=>
   have hpv:=hq v (List.mem_of_getElem? hv);obtain⟨h1,h2⟩:=bfsRow_map inj (ρ v) q (hP v hpv) hq;simp only[Option.map_some];rw[hρ v hpv,h1];exact num_mapG inj hρ hP K (i+1) _ _ h2
theorem made_gr {m r:Nat}{rows rows':List (Option Row)}{o:Option (List Row)}(hm:MadeOf m r rows rows' o)(hr:Live rows r):Gr (To rows') r rows'.length where
 aut:=⟨fun _ _ _ _ a b=>a.unique b,hm.wf.inv⟩
 two:=hm.two
 lt:=fun s x t h=>⟨by obtain⟨row,h1,_⟩:=h;exact(List.getElem?_eq_some_iff.1 h1).1,live_lt (hm.wf.tgt s x t h)⟩
 r:=live_lt ((hm.cut.live r).2 hr)
theorem rch_live {m r:Nat}{rows rows':List (Option Row)}{o:Option (List Row)}(hm:MadeOf m r rows rows' o)(hr:Live rows r){v:Nat}(h:Rch (To rows') r v):Live rows' v:=by
 obtain⟨l,h1,_⟩:=h;cases h1 with
 | nil=>exact(hm.cut.live r).2 hr
 | step _ h2=>exact hm.wf.tgt _ _ _ h2
theorem pair_num {m a b:Nat}{rA rA' rB rB':List (Option Row)}{oA oB:Option (List Row)}(hA:MadeOf m a rA rA' oA)(hB:MadeOf m b rB rB' oB)(la:Live rA a)(lb:Live rB b)
  (hs:∀ p,Rd p→(Run (To rA') a p a↔Run (To rB') b p b)) (K:Nat):numG (rowOf rB') K 0 [b] []=numG (rowOf rA') K 0 [a] []:=by
 have hP:Pair (To rA') (To rB') a b rA'.length rB'.length:=⟨made_gr hA la,made_gr hB lb,hs⟩;have h0:to (To rA') (To rB') a b a=b:=hP.spec (p:=[]) trivial (.nil a) (.nil b);have:=num_mapG (φ:=to (To rA') (To rB') a b) (P:=Rch (To rA') a) (fun u v hu hv he=>hP.inj hu hv he) (ρ:=rowOf rA') (ρ':=rowOf rB') (fun v hv=>?_) (fun v hv t ht=>?_) K 0 [a] [] (fun v hv=>by
  simp only[List.mem_singleton]at hv;subst hv;exact⟨[],.nil,by simp[Simp]⟩)
 ·rw[List.map_cons,List.map_nil,h0]at this;exact this
 ·obtain⟨e1,e2,_⟩:=row_live hA.wf (rch_live hA la hv);obtain⟨l,k1,k2⟩:=id hv;obtain⟨f1,f2,_⟩:=row_live hB.wf (rch_live hB lb (hP.rch k1 k2))
  apply List.ext_getElem?
  intro x;rw[List.getElem?_map]
  by_cases hx:x<m
  ·have hxa:x<(rowOf rA' v).length:=by rw[e2];exact hx
   have hxb:x<(rowOf rB' (to (To rA') (To rB') a b v)).length:=by rw[f2];exact hx
   rw[List.getElem?_eq_getElem hxa,List.getElem?_eq_getElem hxb];simp only[Option.map_some,Option.some.injEq];cases ha:(rowOf rA' v)[x] with
   | none=>
    cases hb:(rowOf rB' (to (To rA') (To rB') a b v))[x] with
    | none=>rfl
    | some u=>
     exfalso
     obtain⟨t,ht,_⟩:=hP.back hv (x:=x) (t':=u) ⟨_,f1,by rw[List.getElem?_eq_getElem hxb,hb]⟩
     obtain⟨row,h1,h2⟩:=ht;rw[e1]at h1;cases h1;rw[List.getElem?_eq_getElem hxa,ha]at h2;cases h2
   | some t=>
    have ht:To rA' v x t:=⟨_,e1,by rw[List.getElem?_eq_getElem hxa,ha]⟩
    obtain⟨row,h1,h2⟩:=hP.step hv ht;rw[f1]at h1;cases h1;rw[List.getElem?_eq_getElem hxb]at h2;exact Option.some.inj h2
  ·rw[List.getElem?_eq_none (by rw[f2];omega),List.getElem?_eq_none (by rw[e2];omega)];rfl
 ·obtain⟨e1,e2,_⟩:=row_live hA.wf (rch_live hA la hv);obtain⟨x,hx⟩:=List.getElem?_of_mem ht;obtain⟨l,k1,k2⟩:=hv;exact reach_step k1 k2 ⟨_,e1,hx⟩
theorem idxOf_pre {q q':List Nat}(h:q <+: q'){t:Nat}(ht:t∈q):q'.idxOf t=q.idxOf t:=by
 obtain⟨r,rfl⟩:=h;rw[List.idxOf_append,if_pos ht]
theorem bfsRow_spec:∀ (row:Row)(q:List Nat),q.Nodup→q <+: (bfsRow row q).1∧(bfsRow row q).1.Nodup∧(bfsRow row q).2=row.map (Option.map (bfsRow row q).1.idxOf)∧∀ t,some t∈row→t∈(bfsRow row q).1
 | [],q,hq=>⟨List.prefix_refl _,hq,rfl,fun t ht=>by simp at ht⟩
 | none :: l,q,hq=>by
  obtain⟨h1,h2,h3,h4⟩:=bfsRow_spec l q hq;refine⟨h1,h2,?_,fun t ht=>h4 t (by simpa using ht)⟩
  simp only[bfsRow,List.map_cons,Option.map_none];rw[← h3]
 | some t :: l,q,hq=>by
  by_cases ht:t∈q
  ·obtain⟨h1,h2,h3,h4⟩:=bfsRow_spec l q hq;have e:bfsRow (some t :: l) q=((bfsRow l q).1,some (q.idxOf t) :: (bfsRow l q).2):=by simp only[bfsRow];rw[if_pos ht]
   rw[e];refine⟨h1,h2,?_,fun u hu=>?_⟩
   ·show some (q.idxOf t) :: (bfsRow l q).2=some ((bfsRow l q).1.idxOf t) :: l.map (Option.map (bfsRow l q).1.idxOf)
    rw[idxOf_pre h1 ht,← h3]
   ·rcases List.mem_cons.1 hu with hu|hu
    ·cases hu;exact h1.subset ht
    ·exact h4 u hu
  ·have hq':(q ++ [t]).Nodup:=by
    rw[List.nodup_append];exact⟨hq,by simp,fun a ha b hb=>by simp only[List.mem_singleton]at hb;subst hb;exact fun he=>ht (he ▸ ha)⟩
   obtain⟨h1,h2,h3,h4⟩:=bfsRow_spec l (q ++ [t]) hq';have e:bfsRow (some t :: l) q=((bfsRow l (q ++ [t])).1,some q.length :: (bfsRow l (q ++ [t])).2):=by simp only[bfsRow];rw[if_neg ht]
   rw[e];have hm:t∈q ++ [t]:=by simp
   refine⟨List.IsPrefix.trans (List.prefix_append _ _) h1,h2,?_,fun u hu=>?_⟩
   ·show some q.length :: (bfsRow l (q ++ [t])).2=some ((bfsRow l (q ++ [t])).1.idxOf t) :: l.map (Option.map (bfsRow l (q ++ [t])).1.idxOf)
    rw[idxOf_pre h1 hm,← h3,List.idxOf_append,if_neg ht];simp
   ·rcases List.mem_cons.1 hu with hu|hu
    ·cases hu;exact h1.subset hm
    ·exact h4 u hu
structure NumOf (ρ:Nat→Row)(q0 q:List Nat)(res:List Row):Prop where
 pre:q0 <+: q
 nd:q.Nodup
 len:res.length=q.length
 row:∀ (j v:Nat),q[j]? = some v→res[j]? = some ((ρ v).map (Option.map q.idxOf))∧∀ t,some t∈ρ v→t∈q
 all:∀ P:Nat→Prop,(∀ v∈q0,P v)→(∀ v,P v→∀ t,some t∈ρ v→P t)→∀ v∈q,P v
theorem numG_spec {ρ:Nat→Row}:∀ (K i:Nat)(q:List Nat)(out res:List Row),q.Nodup→out.length=i→i≤q.length→(∀ (j v:Nat),j<i→q[j]? = some v→out[j]? = some ((ρ v).map (Option.map q.idxOf))∧∀ t,some t∈ρ v→t∈q)→numG ρ K i q out=some res →
  ∃ q',NumOf ρ q q' res
 | 0,_,_,_,_,_,_,_,_,h=>by simp[numG]at h
 | K+1,i,q,out,res,hn,ho,hi,hr,h=>by
  simp only[numG]at h;split at h
  ·rename_i hv
   cases h
   have hl:q.length≤i:=by simpa using hv
   refine⟨q,List.prefix_refl _,hn,by omega,fun j v hj=>hr j v ?_ hj,fun P h1 _=>h1⟩
   have:=(List.getElem?_eq_some_iff.1 hj).1;omega
  ·rename_i v hv
   have hlt:=(List.getElem?_eq_some_iff.1 hv).1;obtain⟨h1,h2,h3,h4⟩:=bfsRow_spec (ρ v) q hn;have hll:=h1.length_le;have hstep:∀ (j u:Nat),j<i+1→(bfsRow (ρ v) q).1[j]? = some u→(out ++ [(bfsRow (ρ v) q).2])[j]? = some ((ρ u).map (Option.map (bfsRow (ρ v) q).1.idxOf))∧∀ t,some t∈ρ u→t∈(bfsRow (ρ v) q).1:=fun j u hj hu=>by
    have hqj:q[j]? = some u:=by
     obtain⟨tl,htl⟩:=h1;rw[← htl,List.getElem?_append_left (by omega)]at hu
     exact hu
    by_cases hji:j<i
    ·obtain⟨k1,k2⟩:=hr j u hji hqj;refine⟨?_,fun t ht=>h1.subset (k2 t ht)⟩
     rw[List.getElem?_append_left (by omega),k1]
     congr 1
     refine List.map_congr_left fun o ho'=>?_
     cases o with
     | none=>rfl
     | some t=>simp only[Option.map_some];rw[idxOf_pre h1 (k2 t ho')]
    ·have hj':j=i:=by omega
     subst hj';rw[hv]at hqj;cases hqj;rw[List.getElem?_append_right (by omega),ho,Nat.sub_self]
     exact⟨by rw[← h3];rfl,h4⟩
   obtain⟨q',hq'⟩:=numG_spec K (i+1) _ _ res h2 (by simp[ho]) (by omega) hstep h
   exact⟨q',h1.trans hq'.pre,hq'.nd,hq'.len,hq'.row,fun P p1 p2=>hq'.all P (bfsRow_map (φ:=fun v=>v) (P:=P) (fun u v _ _ h=>h) (ρ v) q (fun t ht=>p2 v (p1 v (List.mem_of_getElem? hv)) t ht) p1).2 p2⟩
theorem num_self {ρ:Nat→Row}{r K:Nat}{res:List Row}(h:numG ρ K 0 [r] []=some res):∃ q,NumOf ρ [r] q res∧numG (fun i=>res.getD i []) K 0 [0] []=some res:=by
 obtain⟨q,hq⟩:=numG_spec K 0 [r] [] res (by simp) rfl (by simp) (fun j v hj=>by omega) h
 refine⟨q,hq,?_⟩;have hr:r∈q:=hq.pre.subset (by simp)
 have h0:q.idxOf r=0:=by rw[idxOf_pre hq.pre (by simp)];simp
 have:=num_mapG (φ:=q.idxOf) (P:=fun v=>v∈q) (fun u v hu hv he=>?_) (ρ:=ρ) (ρ':=fun i=>res.getD i []) (fun v hv=>?_) (fun v hv t ht=>?_) K 0 [r] [] (fun v hv=>by simp only[List.mem_singleton]at hv;subst hv;exact hr)
 ·rw[List.map_cons,List.map_nil,h0,h]at this;exact this
 ·have h1:=List.getElem_idxOf (List.idxOf_lt_length_iff.2 hu);have h2:=List.getElem_idxOf (List.idxOf_lt_length_iff.2 hv);rw[← h1,← h2];simp only[he]
 ·have hlt:=List.idxOf_lt_length_iff.2 hv;have hg:q[q.idxOf v]? = some v:=by rw[List.getElem?_eq_getElem hlt,List.getElem_idxOf hlt]
  obtain⟨k1,_⟩:=hq.row _ _ hg
  show res.getD (q.idxOf v) []=_
  rw[List.getD_eq_getElem?_getD,k1];rfl
 ·have hlt:=List.idxOf_lt_length_iff.2 hv;have hg:q[q.idxOf v]? = some v:=by rw[List.getElem?_eq_getElem hlt,List.getElem_idxOf hlt]
  exact(hq.row _ _ hg).2 t ht
end Go.Proofs.YtffdjfkekdoeaaaDoor.Pl
end
