/- Parts of a proof, laid one behind the other by our own merge.py: PwQ3 PwQ4 PwSt PwTok PwApp. -/
import Derived.Test.YtpifnlfmojfgpaaGreatDoorCr3
import Derived.Laws.IdiomCopy
import Derived.Laws.OwnMore
set_option linter.unusedVariables false
set_option linter.unusedSimpArgs false
section
namespace Go.Proofs.YtpifnlfmojfgpaaGreatDoor.Pw
open Fw RowKit
def loadV (P:Program) (t:TypeId) (vs:List Value):Value:=bif isAggT P t then .agg vs.toArray else vs.headD undef
theorem okTy_spec {P:Program} {t:TypeId} (h:okTy P t = true):(∃ d,P.underlying t = some d) ∧ (isAggT P t = true → sizeP P t = (shOf P 8 t).sz ∧ (P.info? t).isSome = true):=by
 unfold okTy at h
 cases hb:isAggT P t with
 | true=>
  rw [hb] at h
  simp only [cond_true,Bool.and_eq_true] at h
  refine ⟨?_,fun _=>⟨Nat.eq_of_beq_eq_true h.1,h.2⟩⟩
  cases hu:P.underlying t with
  | none=>simp [isAggT,hu] at hb
  | some d=>exact ⟨d,rfl⟩
 | false=>
  rw [hb] at h
  simp only [cond_false] at h
  exact ⟨Option.isSome_iff_exists.1 h,fun h=>by cases h⟩
theorem run_load {P:Program} {w:World} {t:TypeId} {a:Addr} {vs:List Value} (h:okTy P t = true) (hl:vs.length = (shOf P 8 t).sz) (hc:∀ (j:Nat) v,vs[j]? = some v → w.cell? (a.add j) = some v) :
  (Instr.loadAt t (.pointer (some a))).run P w = .ok (loadV P t vs) w:=by
 obtain ⟨⟨d,hu⟩,h2⟩:=okTy_spec h
 unfold loadV
 cases hag:isAggT P t with
 | false=>
  rw [shOf_one hag] at hl
  obtain ⟨v,rfl⟩:∃ v,vs = [v]:=List.length_eq_one_iff.1 hl
  have:=hc 0 v rfl
  rw [add0] at this
  simp [Instr.loadAt,Instr.sureAddr,loadVar,run_isAgg hu,hag,this]
 | true=>
  obtain ⟨h3,h4⟩:=h2 hag
  have hsz:sizeP P t = vs.length:=by omega
  simp only [Instr.loadAt,Instr.sureAddr,loadVar,Sem.run_bind,Sem.run_pure,Result.andThen_ok,run_isAgg hu,hag,if_true,run_sizeOf_some h4,hsz,run_loadCells_list w a vs hc,cond_true]
theorem sz_one {av:AV} (h:av.isAgg = false):av.sz = 1:=by
 cases av <;> first | rfl | (cases h; done) | skip
 case pv t x=>cases t <;> first | rfl | cases h
theorem RS.load {P:Program} {s:Cx} {t:TypeId} {av:AV} {vs:List Value} (hr:RV s av vs) (ha:av.isAgg = isAggT P t):RS s av (loadV P t vs):=by
 refine RS.one ⟨vs,hr,?_⟩
 unfold loadV
 cases hb:isAggT P t with
 | true=>rw [hb] at ha; rw [pack_agg ha]; rfl
 | false=>
  rw [hb] at ha
  rw [pack_one ha]
  have:=hr.len
  rw [sz_one ha] at this
  obtain ⟨v,rfl⟩:∃ v,vs = [v]:=List.length_eq_one_iff.1 this
  rfl
theorem nth_agg {av a:AV} {i:Nat} (h:av.nth i = some a):av.isAgg = true:=by
 cases av <;> first | rfl | (cases i <;> simp [AV.nth] at h; done) | skip
 case pv t x=>cases t <;> first | rfl | (cases i <;> simp [AV.nth] at h)
theorem sub_list {s:Cx} {t:PT} {xs:List t.den} {a:Option Addr} {n c:Nat} (h:Rp s.A s.w (.lst t) xs [.slice a n c]) {lo hi:Nat} (h1:lo ≤ hi) (h2:hi ≤ xs.length) :
  RS s (.pv (.lst t) ((xs.take hi).drop lo)) (sliced a lo hi c t.sz):=by
 obtain ⟨a',n',c',he,hn,hc,hm,hx⟩:=h
 simp only [List.cons.injEq,Value.slice.injEq,and_true] at he
 obtain ⟨rfl,rfl,rfl⟩:=he
 refine RS.one ⟨[sliced a lo hi c t.sz],?_,by rw [pack_one rfl]⟩
 unfold sliced
 refine ⟨_,_,_,rfl,by simp; omega,by omega,by omega,fun i x hi'=>?_⟩
 rw [List.getElem?_drop,List.getElem?_take] at hi'
 split at hi'
 ·rename_i hlt
  obtain ⟨g,o,us,h3,h4,h5⟩:=hx _ _ hi'
  subst h3
  rw [if_neg (by omega)]
  refine ⟨g,o + lo * t.sz,us,by simp [mk_add],h4,fun j v hj=>?_⟩
  have:=h5 j v hj
  rw [Nat.add_mul] at this
  rw [show o + lo * t.sz + i * t.sz + j = o + (lo * t.sz + i * t.sz) + j by omega]
  exact this
 ·cases hi'
theorem okEl_spec {P:Program} {t:TypeId} {n:Nat} (h:okEl P t n = true):∃ el,P.underlying t = some (.slice el) ∧ P.elem t = el ∧ sizeP P el = n ∧ (P.info? el).isSome = true ∧ P.underlying t = some (.slice (P.elem t)):=by
 unfold okEl slElem at h
 split at h
 ·rename_i el he
  split at he
  ·rename_i e hu
   simp only [Option.some.injEq] at he; subst he
   simp only [Bool.and_eq_true] at h
   have:P.elem t = e:=by unfold Program.elem; rw [hu]
   exact ⟨e,hu,this,Nat.eq_of_beq_eq_true h.1,h.2,by rw [this]; exact hu⟩
  ·cases he
 ·cases h
theorem boundA_ok {s:Cx} {E:AEnv} {e:Env} (hE:∀ d,RS s (E d) (e d)) {o:Option Operand} {d:Int} {K:Int → Prop} (h:boundA (o.map (evA E)) d K) :
  (o = none ∧ K d) ∨ ∃ x k n,o = some x ∧ ev e x = .int k n ∧ K n:=by
 cases o with
 | none=>exact .inl ⟨rfl,h⟩
 | some x=>
  simp only [Option.map_some,boundA] at h
  obtain ⟨k,n,h1,h2⟩:=intA_ok (evA_ok hE x) h
  exact .inr ⟨x,k,n,rfl,h1,h2⟩
theorem slice_list {P:Program} {s:Cx} {E:AEnv} {e:Env} (hE:∀ d,RS s (E d) (e d)) {xt:TypeId} {lo hi:Option Operand} {t:PT} {xs:List t.den} {v:Value} {K:AV → Prop} (hk:okEl P xt t.sz = true)
  (hr:∃ a n c,v = .slice a n c ∧ Rp s.A s.w (.lst t) xs [v])
  (h:boundA (lo.map (evA E)) 0 fun a=>boundA (hi.map (evA E)) xs.length fun b=>SubL xs a b fun r=>K (.pv (.lst t) r)) :
  ∃ av v',K av ∧ RS s av v' ∧ ∀ w',(Instr.sliceAt xt v (lo.map (ev e)) (hi.map (ev e)) none).run P w' = .ok v' w':=by
 obtain ⟨a,n,c,rfl,hr⟩:=hr
 obtain ⟨el,hu,he,hsz,hi0,hu'⟩:=okEl_spec hk
 have hlen:n = xs.length ∧ n ≤ c:=by
  obtain ⟨a',n',c',he,hn,hc,hm,hx⟩:=hr
  simp only [List.cons.injEq,Value.slice.injEq,and_true] at he
  obtain ⟨rfl,rfl,rfl⟩:=he
  exact ⟨hn,hc⟩
 obtain ⟨rfl,hlc⟩:=hlen
 have hso:∀ w',(sizeOf (P.elem xt)).run P w' = .ok t.sz w':=fun w'=>by rw [he,run_sizeOf_some hi0,hsz]
 rcases boundA_ok (o:=lo) hE h with ⟨rfl,h'⟩ | ⟨x,k,l,rfl,hx,h'⟩
 all_goals clear h
 ·rcases boundA_ok (o:=hi) hE h' with ⟨rfl,h⟩ | ⟨y,k',m,rfl,hy,h⟩ <;> clear h'
  ·refine ⟨_,_,h.k,sub_list hr (by simp) (by simp),fun w'=>?_⟩
   rw [run_sliceAt_slice w' xt _ _ _ _ hu']
   simp only [Option.map_none]
   rw [run_slice_all w' xt a xs.length c hu',hso]
   simp
  ·refine ⟨_,_,h.k,sub_list hr (by simp) (by have:=h.h2; omega),fun w'=>?_⟩
   rw [run_sliceAt_slice w' xt _ _ _ _ hu']
   simp only [Option.map_none,Option.map_some,hy]
   rw [run_slice_h w' xt a xs.length c hu' k' m h.h1 (by have:=h.h2; omega),hso]
   simp
 ·rcases boundA_ok (o:=hi) hE h' with ⟨rfl,h⟩ | ⟨y,k',m,rfl,hy,h⟩ <;> clear h'
  ·refine ⟨_,_,h.k,sub_list hr (by have:=h.h1; have:=h.h0; omega) (by simp),fun w'=>?_⟩
   rw [run_sliceAt_slice w' xt _ _ _ _ hu']
   simp only [Option.map_none,Option.map_some,hx]
   rw [run_slice_l w' xt a xs.length c hu' k l h.h0 h.h1,hso]
   simp
  ·refine ⟨_,_,h.k,sub_list hr (by have:=h.h1; have:=h.h0; omega) (by have:=h.h2; omega),fun w'=>?_⟩
   rw [run_sliceAt_slice w' xt _ _ _ _ hu']
   simp only [Option.map_some,hx,hy]
   rw [run_slice_lh w' xt a xs.length c hu' k k' l m h.h0 h.h1 (by have:=h.h2; omega),hso]
   simp
theorem str_sub {s:Cx} (b:ByteArray) (lo hi:Nat) (h:b.data.toList.length ≤ big):RS s (.pv .str ((b.data.toList.take hi).drop lo)) (.string (b.extract lo hi)):=by
 have he:(b.extract lo hi).data.toList = (b.data.toList.take hi).drop lo:=by
  rw [ByteArray.data_extract,Array.toList_extract,List.extract_eq_take_drop,List.drop_take]
 have:=RS.of_str s (b.extract lo hi) (by rw [he,List.length_drop,List.length_take]; omega)
 rwa [he] at this
theorem slice_str {P:Program} {s:Cx} {E:AEnv} {e:Env} (hE:∀ d,RS s (E d) (e d)) {xt:TypeId} {lo hi:Option Operand} {b:ByteArray} {K:AV → Prop} (hk:isStrT P xt = true) (hb:b.data.toList.length ≤ big)
  (h:boundA (lo.map (evA E)) 0 fun x=>boundA (hi.map (evA E)) b.data.toList.length fun y=>SubL b.data.toList x y fun r=>K (.pv .str r)) :
  ∃ av v',K av ∧ RS s av v' ∧ ∀ w',(Instr.sliceAt xt (.string b) (lo.map (ev e)) (hi.map (ev e)) none).run P w' = .ok v' w':=by
 have hu:P.underlying xt = some .string:=by
  unfold isStrT at hk
  split at hk
  ·assumption
  ·cases hk
 have hs:=size_len b
 rcases boundA_ok (o:=lo) hE h with ⟨rfl,h'⟩ | ⟨x,k,l,rfl,hx,h'⟩
 all_goals clear h
 ·rcases boundA_ok (o:=hi) hE h' with ⟨rfl,h⟩ | ⟨y,k',m,rfl,hy,h⟩ <;> clear h'
  ·refine ⟨_,_,h.k,str_sub b 0 _ hb,fun w'=>?_⟩
   rw [run_sliceAt_string w' xt _ _ _ _ hu]
   simp only [Option.map_none]
   rw [run_slice_string_all w' xt b hu,hs]
   simp
  ·refine ⟨_,_,h.k,str_sub b 0 _ hb,fun w'=>?_⟩
   rw [run_sliceAt_string w' xt _ _ _ _ hu]
   simp only [Option.map_none,Option.map_some,hy]
   rw [run_slice_string_h w' xt b hu k' m h.h1 (by have:=h.h2; omega)]
 ·rcases boundA_ok (o:=hi) hE h' with ⟨rfl,h⟩ | ⟨y,k',m,rfl,hy,h⟩ <;> clear h'
  ·refine ⟨_,_,h.k,str_sub b _ _ hb,fun w'=>?_⟩
   rw [run_sliceAt_string w' xt _ _ _ _ hu]
   simp only [Option.map_none,Option.map_some,hx]
   rw [run_slice_string_l w' xt b hu k l h.h0 (by have:=h.h1; omega),hs]
   simp
  ·refine ⟨_,_,h.k,str_sub b _ _ hb,fun w'=>?_⟩
   rw [run_sliceAt_string w' xt _ _ _ _ hu]
   simp only [Option.map_some,hx,hy]
   rw [run_slice_string w' xt b k k' l m hu h.h0 h.h1 (by have:=h.h2; omega)]
theorem Rp.flatV {A:Pos} {w:World}:∀ {t:PT} {x:t.den} {vs:List Value},t.flat = true → Rp A w t x vs → FlatV t x vs
 | .int _,_,_,_,h=>h
 | .bool,_,_,_,h=>h
 | .str,_,_,_,⟨b,h1,h2,_⟩=>⟨b,h1,h2⟩
 | .lst _,_,_,h,_=>by cases h
 | .nil,_,_,_,h=>h
 | .cons _ _,_,_,hf,⟨us,us',he,h1,h2⟩=>by
  simp only [PT.flat,Bool.and_eq_true] at hf
  exact ⟨us,us',he,h1.flatV hf.1,h2.flatV hf.2⟩
theorem binP_ok {P:Program} {s:Cx} {xt:TypeId} {op:BinOp} {a b:AV} {u v:Value} {x y:Operand} {K:AV → Prop} (ha:RS s a u) (hb:RS s b v) (h:binP P xt op a b K) :
  ∃ av r,K av ∧ RS s av r ∧ ∀ w,(do eqGuard op xt x y u v; binOp op xt u v:Sem Value).run P w = .ok r w:=by
 unfold binP at h
 split at h
 ·rename_i k n k' m
  split at h
  ·rename_i he _
   cases he
   rw [ha.int,hb.int]
   exact intB_ok h
  ·exact h.elim
 ·obtain ⟨p,rfl,rfl,_⟩:=ha.str
  obtain ⟨q,rfl,rfl,_⟩:=hb.str
  exact strB_ok h
 ·rename_i t1 t2 xx t1' t2' yy
  split at h
  ·rename_i he _
   obtain ⟨heq,h⟩:=h
   unfold eqB at h
   cases hf:(PT.cons t1 t2).flat with
   | false=>rw [hf] at h; exact h.elim
   | true=>
    rw [hf] at h
    simp only [cond_true] at h
    obtain ⟨us,rfl,hu⟩:=ha.agg rfl
    obtain ⟨vs,rfl,hv⟩:=hb.agg rfl
    have hv':FlatV (PT.cons t1 t2) (castP he yy) vs:=by
     have hv2:Rp s.A s.w (.cons t1' t2') yy vs:=hv
     cases he
     exact Rp.flatV hf hv2
    have hu':FlatV (PT.cons t1 t2) xx us:=Rp.flatV hf hu
    split at h
    ·exact ⟨_,_,h,RS.of_bool _ _,fun w=>heq.e _ _ _ _ hu' hv' w x y⟩
    ·exact ⟨_,_,h,RS.of_bool _ _,fun w=>heq.n _ _ _ _ hu' hv' w x y⟩
    ·exact h.elim
  ·exact h.elim
 ·have hb:=hb.cst
  subst hb
  cases hs:(slElem P xt).isSome with
  | false=>rw [hs] at h; exact h.elim
  | true=>
   rw [hs] at h
   simp only [cond_true] at h
   obtain ⟨el,hu,_⟩:=slElem_spec hs
   cases op <;> first | exact h.elim | skip
   all_goals
    obtain ⟨p,n,c,rfl,hk⟩:=isNil_ok ha h
    exact nilB_ok hu hk
 ·have hb:=hb.cst
  subst hb
  obtain ⟨hi,rfl⟩:=ha.adr
  cases hs:isPtrT P xt with
  | false=>rw [hs] at h; exact h.elim
  | true=>
   rw [hs] at h
   simp only [cond_true] at h
   have hu:P.underlying xt = some (.pointer (P.pointee xt)):=by
    unfold isPtrT at hs
    split at hs
    ·rename_i e he; rw [he]; simp [Program.pointee,he]
    ·cases hs
   have hg:∀ (op:BinOp) (q:Option Addr),eqGuard op xt x y (.pointer q) (.pointer none) = pure ():=fun op q=>by cases op <;> rfl
   cases op <;> first | exact h.elim | skip
   ·refine ⟨_,_,h,RS.of_lit _ _,fun w=>?_⟩
    rw [hg,Sem.run_bind,Sem.run_pure,Result.andThen_ok,run_eql_pointer_nil w xt _ hu]; rfl
   ·refine ⟨_,_,h,RS.of_lit _ _,fun w=>?_⟩
    rw [hg,Sem.run_bind,Sem.run_pure,Result.andThen_ok,run_neq_pointer_nil w xt _ hu]; rfl
 ·cases hs:isBoolT P xt with
  | false=>rw [hs] at h; exact h.elim
  | true=>
   rw [hs] at h
   simp only [cond_true] at h
   obtain ⟨p,rfl,h⟩:=boolA_ok ha h
   obtain ⟨q,rfl,h⟩:=boolA_ok hb h
   exact boolB_ok hs h
end Go.Proofs.YtpifnlfmojfgpaaGreatDoor.Pw
end
section
namespace Go.Proofs.YtpifnlfmojfgpaaGreatDoor.Pw
open Fw RowKit
theorem isStrT_spec {P:Program} {t:TypeId} (hk:isStrT P t = true):P.underlying t = some .string:=by
 unfold isStrT at hk
 split at hk
 ·assumption
 ·cases hk
theorem okBytes_spec {P:Program} {t:TypeId} (hk:okBytes P t = true):∃ e,P.underlying t = some (.slice e) ∧ P.underlying e = some (.int .u8):=by
 unfold okBytes at hk
 split at hk
 ·rename_i el he
  split at hk
  ·rename_i hu
   unfold slElem at he
   split at he
   ·rename_i e hu'
    simp only [Option.some.injEq] at he; subst he
    exact ⟨e,hu',hu⟩
   ·cases he
  ·cases hk
 ·cases hk
theorem getL_at {α:Type} {xs:List α} {i:Int} {K:α → Prop} (h:GetL xs i K):∃ x,0 ≤ i ∧ i.toNat < xs.length ∧ xs[i.toNat]? = some x ∧ K x:=by
 obtain ⟨x,h0,h1,hk⟩:=h
 exact ⟨x,h0,(List.getElem?_eq_some_iff.1 h1).1,h1,hk⟩
theorem rp_list {s:Cx} {v:AV} {u:Value} {K:(t:PT) → List t.den → Prop} (hr:RS s v u) (h:listA v K):∃ t xs,K t xs ∧ ∃ a n c,u = .slice a n c ∧ Rp s.A s.w (.lst t) xs [u]:=by
 unfold listA at h
 split at h
 ·obtain ⟨a,n,c,h1,h2⟩:=hr.lst
  exact ⟨_,_,h,a,n,c,h1,h2⟩
 ·obtain ⟨_,h1,h2⟩:=hr.ls
  exact ⟨_,_,h,_,_,_,h1,h2⟩
 ·exact h.elim
theorem rp_slice {A:Pos} {w:World} {t:PT} {xs:List t.den} {a:Option Addr} {n c:Nat} (h:Rp A w (.lst t) xs [.slice a n c]):n = xs.length ∧ n ≤ c ∧ c ≤ maxLen ∧
  ∀ (i:Nat) (x:t.den),xs[i]? = some x → ∃ g o us,a = some ⟨g,o,none⟩ ∧ Rp A w t x us ∧ ∀ (j:Nat) (v:Value),us[j]? = some v → A g (o + i * t.sz + j) ∧ w.cell? ⟨g,o + i * t.sz + j,none⟩ = some v:=by
 obtain ⟨a',n',c',he,hn,hc,hm,hx⟩:=h
 simp only [List.cons.injEq,Value.slice.injEq,and_true] at he
 obtain ⟨rfl,rfl,rfl⟩:=he
 exact ⟨hn,hc,hm,hx⟩
theorem convBytes {P:Program} {s:Cx} {M:Nat → Nat → Bool} {H:AHeap} {src dst:TypeId} {u:Value} {xs:List Int} {K:AV → Prop} (hd:isStrT P dst = true) (hs:okBytes P src = true) (hr:∃ a n c,u = .slice a n c ∧ Rp s.A s.w (.lst (.int .u8)) xs [u])
  (h:BytL xs fun b=>K (.pv .str b)):∃ av v,K av ∧ RS s av v ∧ ∀ w',Still s M H w' → (convert src dst u).run P w' = .ok v w':=by
 obtain ⟨b,rfl,hn,hk⟩:=h
 obtain ⟨a,n,c,rfl,hr⟩:=hr
 obtain ⟨hlen,_,_,hx⟩:=rp_slice hr
 obtain ⟨e,he1,he2⟩:=okBytes_spec hs
 rw [List.length_map] at hlen
 subst hlen
 have hb:RS s (.pv .str b) (.string ⟨b.toArray⟩):=by
  have:=RS.of_str s ⟨b.toArray⟩ (by simpa using hn)
  simpa using this
 refine ⟨_,_,hk,hb,fun w' hw=>?_⟩
 cases b with
 | nil=>
  cases a with
  | none=>rw [List.length_nil,run_convert_bytes_nil w' src e he1 he2 _ _ dst (isStrT_spec hd)]; rfl
  | some a=>exact run_convert_bytes_back w' src dst e a c [] he1 he2 (isStrT_spec hd) (fun j hj=>by simp at hj)
 | cons c0 l=>
  obtain ⟨g,o,us,ha,_,_⟩:=hx 0 (c0.toNat:Int) rfl
  subst ha
  refine run_convert_bytes_back w' src dst e ⟨g,o,none⟩ c (c0 :: l) he1 he2 (isStrT_spec hd) fun j hj=>?_
  obtain ⟨g',o',us',ha,h1,h2⟩:=hx j ((c0 :: l)[j].toNat:Int) (by rw [List.getElem?_map,List.getElem?_eq_getElem hj]; rfl)
  simp only [Option.some.injEq,Addr.mk.injEq,and_true] at ha
  obtain ⟨rfl,rfl⟩:=ha
  simp only [Rp] at h1
  subst h1
  have h3:=h2 0 _ rfl
  rw [mk_add]
  simp only [PT.sz,Nat.mul_one,Nat.add_zero] at h3
  rw [hw.a _ _ h3.1]; exact h3.2
theorem lenA_ok {P:Program} {s:Cx} {t ty:TypeId} {v:AV} {u:Value} {K:AV → Prop} (hr:RS s v u) (h:lenA P t v K) :
  ∃ av r,K av ∧ RS s av r ∧ ∀ w,(Builtin.len_ #[t] ty #[u]).run P w = .ok r w:=by
 unfold lenA at h
 cases hs:isStrT P t with
 | true=>
  rw [hs] at h
  simp only [cond_true] at h
  split at h
  ·obtain ⟨b,rfl,rfl,hb⟩:=hr.str
   refine ⟨_,_,h.k (by unfold big at hb; omega),RS.of_int _ _ _,fun w=>?_⟩
   rw [← size_len]
   simp [Builtin.len_,run_underlying_some (isStrT_spec hs),goInt]
  ·exact h.elim
 | false=>
  rw [hs] at h
  simp only [cond_false] at h
  cases hl:(slElem P t).isSome with
  | false=>rw [hl] at h; exact h.elim
  | true=>
   rw [hl] at h
   simp only [cond_true] at h
   obtain ⟨e,hu,_⟩:=slElem_spec hl
   have hrun:∀ a n c w,(Builtin.len_ #[t] ty #[.slice a n c]).run P w = .ok (.int .i64 (n:Int)) w:=fun a n c w=>by
    simp [Builtin.len_,run_underlying_some hu,goInt]
   split at h
   ·obtain ⟨a,n,c,rfl,h2⟩:=hr.lst
    obtain ⟨hn,hc,hm,_⟩:=rp_slice h2
    subst hn
    refine ⟨_,_,h.k (by have:maxLen = 9223372036854775807:=rfl; omega),RS.of_int _ _ _,fun w=>hrun _ _ _ w⟩
   ·obtain ⟨_,h1,h2⟩:=hr.ls
    subst h1
    obtain ⟨hn,hc,hm,_⟩:=rp_slice h2
    refine ⟨_,_,h.k (by have:maxLen = 9223372036854775807:=rfl; omega),RS.of_int _ _ _,fun w=>?_⟩
    rw [← hn]; exact hrun _ _ _ w
   ·have:=hr.cst
    subst this
    exact ⟨_,_,h,RS.of_int _ _ _,fun w=>hrun _ _ _ w⟩
   ·exact h.elim
theorem fn_caps {s:Cx} {E:AEnv} {e:Env} (hE:∀ d,RS s (E d) (e d)):∀ (l:List Operand),l.all (fun x=>(evA E x).val && !(evA E x).isAgg) = true → RV s (l.foldr (fun x l=>.acons (evA E x) l) .anil) (l.map (ev e))
 | [],_=>rfl
 | x :: l,h=>by
  simp only [List.all_cons,Bool.and_eq_true,Bool.not_eq_true'] at h
  obtain ⟨⟨h1,h2⟩,h3⟩:=h
  obtain ⟨vs,h4,h5⟩:=(evA_ok hE x).val h1
  rw [pack_one h2] at h5
  subst h5
  exact ⟨[ev e x],_,rfl,h4,fn_caps hE l h3⟩
theorem rt_nth {s:Cx}:∀ (i:Nat) {l a:AV} {vs:List Value},l.nth i = some a → RT s l vs → ∃ v,vs[i]? = some v ∧ RS1 s a v
 | 0,l,a,vs,h,hr=>by
  cases l <;> first | (cases vs <;> exact hr.elim) | skip
  case anil=>simp [AV.nth] at h
  case acons x y=>
   cases vs with
   | nil=>exact hr.elim
   | cons v vs=>
    simp only [AV.nth,Option.some.injEq] at h; subst h
    exact ⟨v,rfl,hr.1⟩
 | i + 1,l,a,vs,h,hr=>by
  cases l <;> first | (cases vs <;> exact hr.elim) | skip
  case anil=>simp [AV.nth] at h
  case acons x y=>
   cases vs with
   | nil=>exact hr.elim
   | cons v vs=>
    simp only [AV.nth] at h
    obtain ⟨u,h1,h2⟩:=rt_nth i h hr.2
    exact ⟨u,by simpa using h1,h2⟩
theorem optA_ok {o:Option AV} {K:AV → Prop} (h:optA o K):∃ v,o = some v ∧ K v:=by
 unfold optA at h
 split at h
 ·exact ⟨_,rfl,h⟩
 ·exact h.elim
theorem field_part {P:Program} {s:Cx} {av a:AV} {f off:Nat} {t:TypeId} {vs:List Value} (hr:RV s av vs) (hn:av.nth f = some a)
  (hb:(Nat.beq off (av.offs f) && (isAggT P t == a.isAgg) && (bif isAggT P t then Nat.beq (sizeP P t) a.sz && (P.info? t).isSome else (P.underlying t).isSome)) = true) :
  ∃ v,RS s a v ∧ ∀ w,(part t vs.toArray off).run P w = .ok v w:=by
 simp only [Bool.and_eq_true] at hb
 obtain ⟨⟨h1,h2⟩,h3⟩:=hb
 have h1:=Nat.eq_of_beq_eq_true h1
 have h2:isAggT P t = a.isAgg:=by simpa using h2
 have hp:=nth_ok f hn hr
 have hle:=nth_le (s:=s) f hn
 have hl:=hr.len
 cases hag:isAggT P t with
 | true=>
  rw [hag] at h2 h3
  simp only [cond_true,Bool.and_eq_true] at h3
  have hsz:=Nat.eq_of_beq_eq_true h3.1
  obtain ⟨v,h4,h5⟩:=partW_any (P:=P) (t:=t) (cs:=vs.toArray) (off:=off) (K:=fun v=>v = .agg (vs.toArray.extract off (off + sizeP P t))) (by unfold partW; rw [hag,h3.2]; rfl)
  subst h5
  refine ⟨_,RS.one ⟨_,hp,?_⟩,h4⟩
  rw [pack_agg h2.symm,h1,hsz]
  congr 1
  apply Array.toList_inj.1
  simp [List.extract_eq_take_drop]
 | false=>
  rw [hag] at h2 h3
  simp only [cond_false] at h3
  have hs1:=sz_one h2.symm
  have hlt:off < vs.length:=by omega
  obtain ⟨v,h4,h5⟩:=partW_any (P:=P) (t:=t) (cs:=vs.toArray) (off:=off) (K:=fun v=>v = vs[off]) (by unfold partW; rw [hag,h3]; simp [List.getElem?_eq_getElem hlt])
  subst h5
  refine ⟨_,RS.one ⟨_,hp,?_⟩,h4⟩
  rw [pack_one h2.symm,← h1,hs1,List.drop_eq_getElem_cons hlt]
  rfl
theorem opQ_ok {P:Program} {s:Cx} {M:Nat → Nat → Bool} {H:AHeap} {E:AEnv} {e:Env} (hH:HR P s H) (hE:∀ d,RS s (E d) (e d)) {o:Oper} {K:AV → Prop} (hq:isQ P o.op = true) (h:opQ P M o.op E H K) :
  ∃ av v,K av ∧ RS s av v ∧ ∀ w',Still s M H w' → (execOp (ev e) o).run P w' = .ok (.value v) w':=by
 obtain ⟨dst,op,ty,pos,after,guard⟩:=o
 have fin:∀ {sm:Sem Value},(∃ av v,K av ∧ RS s av v ∧ ∀ w',Still s M H w' → sm.run P w' = .ok v w') → ∃ av v,K av ∧ RS s av v ∧ ∀ w',Still s M H w' → (do pure (.value (← sm)):Sem Next).run P w' = .ok (.value v) w':=fun {sm} hs=>by
  obtain ⟨av,v,h1,h2,h3⟩:=hs
  exact ⟨av,v,h1,h2,fun w' hw=>by simp [h3 w' hw]⟩
 cases op <;> first | (exfalso; revert hq; simp [isQ]; done) | skip
 all_goals
  simp only [opQ] at h
  simp only [execOp]
 case move x=>exact ⟨_,_,h,evA_ok hE x,fun w' _=>rfl⟩
 case assign x=>exact ⟨_,_,h,evA_ok hE x,fun w' _=>rfl⟩
 case pick c a b=>
  have hc:=evA_ok hE c
  split at h
  ·rename_i t ht
   rw [ht] at hc
   rw [hc.lit]
   cases t
   ·exact ⟨_,_,h,evA_ok hE b,fun w' _=>rfl⟩
   ·exact ⟨_,_,h,evA_ok hE a,fun w' _=>rfl⟩
  ·rename_i t ht
   rw [ht] at hc
   rw [hc.bool]
   cases t
   ·exact ⟨_,_,h.f rfl,evA_ok hE b,fun w' _=>rfl⟩
   ·exact ⟨_,_,h.t rfl,evA_ok hE a,fun w' _=>rfl⟩
  ·exact h.elim
 case build t ps=>
  split at h
  ·rename_i z hz
   cases hb:buildOk P t with
   | false=>rw [hb] at h; exact h.elim
   | true=>
    rw [hb] at h
    simp only [cond_true] at h
    obtain ⟨u,hf,hk⟩:=optA_ok h
    obtain ⟨v,hv,hr,hag,_⟩:=zeroA_ok (s:=s) hz
    have hagt:isAggT P t = true:=by
     unfold buildOk at hb
     unfold isAggT
     split at hb
     ·rename_i hu; first | rfl | rw [hu]
     ·rename_i hu; first | rfl | rw [hu]
     ·cases hb
    obtain ⟨c,h1,h2,h3⟩:=fillA_ok (s:=s) _ (ps.toList.map fun (i,x)=>(i,ev e x)) (by simp) (fun j a v hj hv=>by
     simp only [List.getElem?_map] at hj hv
     cases hp:ps.toList[j]? with
     | none=>rw [hp] at hj; cases hj
     | some p=>
      rw [hp] at hj hv
      simp only [Option.map_some,Option.some.injEq] at hj hv
      subst hj; subst hv
      exact evA_ok hE p.2) hf (hag.trans hagt) hr
    refine ⟨u,.agg c,hk,RS.one ⟨c.toList,h2,by rw [pack_agg h3]⟩,fun w' _=>?_⟩
    have hbv:buildV P t (ps.map fun (i,x)=>(i,ev e x)) = some (.agg c):=by
     unfold buildV
     unfold buildOk at hb
     rw [hv]
     unfold placeOf at h1
     cases hu:P.underlying t with
     | none=>rw [hu] at hb; cases hb
     | some d=>
      rw [hu] at hb h1
      cases d <;> first | (cases hb; done) | skip
      case struct fs=>
       dsimp only at hb h1 ⊢
       rw [hb] at h1 ⊢
       simp only [cond_true] at h1 ⊢
       have:(fun i:Nat=>(placesOf P fs)[i]?) = fun i:Nat=>(fs[i]?).map fun f:Field=>(f.offset,sizeP P f.type):=by
        funext i; simp [placesOf]
       rw [this,Array.toList_map,h1]; rfl
      case array n el=>
       dsimp only at hb h1 ⊢
       rw [hb] at h1 ⊢
       simp only [cond_true] at h1 ⊢
       rw [Array.toList_map,h1]; rfl
    rw [Sem.run_bind,Fw.run_build hbv]; rfl
  ·exact h.elim
 case load t x=>
  refine fin ?_
  have hx:=evA_ok hE x
  split at h
  ·rename_i id o hv
   rw [hv] at hx
   obtain ⟨hid,he⟩:=hx.adr
   rw [he]
   cases hb:(okTy P t && (List.range (shOf P 8 t).sz).all (fun j=>!M id (o + j))) with
   | false=>rw [hb] at h; exact h.elim
   | true=>
    rw [hb] at h
    simp only [cond_true] at h
    simp only [Bool.and_eq_true,List.all_eq_true,List.mem_range,Bool.not_eq_true'] at hb
    obtain ⟨av,hc,hk⟩:=optA_ok h
    obtain ⟨vs,h1,h2,h3⟩:=ofCells_ok (s:=s) (f:=fun j v=>∀ w',Still s M H w' → w'.cell? ⟨(s.b id).1,(s.b id).2 + j,none⟩ = some v) (shOf P 8 t) o (fun j a hj ha=>by
     obtain ⟨_,_,⟨v,h4,h5⟩,_⟩:=hH.cell _ _ _ ha
     exact ⟨v,fun w' hw=>by rw [hw.c id (o + j) (by rw [ha]; exact fun h=>by cases h) (hb.2 j hj)]; exact h4,h5⟩) hc
    have hag:=shOf_agg (P:=P) (t:=t) (fun j a ha=>(hH.cell _ _ _ ha).2.1) hc
    refine ⟨av,loadV P t vs,hk,RS.load h2 hag,fun w' hw=>run_load hb.1 h1 fun j v hj=>?_⟩
    rw [mk_add,Nat.add_assoc]; exact h3 j v hj w' hw
  ·rename_i t' y hv
   rw [hv] at hx
   obtain ⟨g,o,us,he,h1,h2⟩:=hx.ref
   rw [he]
   cases hb:(okTy P t && Nat.beq (shOf P 8 t).sz t'.sz && (isAggT P t == t'.isAgg)) with
   | false=>rw [hb] at h; exact h.elim
   | true=>
    rw [hb] at h
    simp only [cond_true] at h
    simp only [Bool.and_eq_true] at hb
    obtain ⟨⟨hb1,hb2⟩,hb3⟩:=hb
    have hb3:isAggT P t = t'.isAgg:=by simpa using hb3
    refine ⟨_,loadV P t us,h,RS.load (av:=.pv t' y) h1 hb3.symm,fun w' hw=>run_load hb1 (by rw [h1.len]; exact (Nat.eq_of_beq_eq_true hb2).symm) fun j v hj=>?_⟩
    rw [mk_add,hw.a _ _ (h2 j v hj).1]; exact (h2 j v hj).2
  ·exact h.elim
 case nilCheck x=>
  have hx:=evA_ok hE x
  split at h
  ·rename_i id o hv
   rw [hv] at hx
   have hx':=hx
   obtain ⟨hid,he⟩:=hx.adr
   rw [he] at hx' ⊢
   exact ⟨_,_,h,hx',fun w' _=>rfl⟩
  ·rename_i t y hv
   rw [hv] at hx
   have hx':=hx
   obtain ⟨g,o,us,he,_⟩:=hx.ref
   rw [he] at hx' ⊢
   exact ⟨_,_,h,hx',fun w' _=>rfl⟩
  ·rename_i f c hv
   rw [hv] at hx
   have hx':=hx
   obtain ⟨cs,_,he⟩:=hx.fn
   rw [he] at hx' ⊢
   exact ⟨_,_,h,hx',fun w' _=>rfl⟩
  ·exact h.elim
 case binOp op xt x y yt=>
  obtain ⟨av,r,h1,h2,h3⟩:=binP_ok (x:=x) (y:=y) (evA_ok hE x) (evA_ok hE y) h
  exact ⟨av,r,h1,h2,fun w' _=>by rw [Sem.run_bind,h3 w']; rfl⟩
 case unOp op xt x=>
  refine fin ?_
  have hx:=evA_ok hE x
  cases op <;> simp only at h <;> first | exact h.elim | skip
  case neg=>
   split at h
   ·rename_i k n hv
    rw [hv] at hx
    rw [hx.int]
    exact ⟨_,_,h,RS.of_int _ _ _,fun w' _=>by simp [Op.unary,Op.intArith]⟩
   ·exact h.elim
  case not=>
   split at h
   ·rename_i b hv
    rw [hv] at hx
    rw [hx.lit]
    exact ⟨_,_,h,RS.of_lit _ _,fun w' _=>by simp [Op.unary]⟩
   ·rename_i b hv
    rw [hv] at hx
    rw [hx.bool]
    exact ⟨_,_,h,RS.of_bool _ _,fun w' _=>by simp [Op.unary]⟩
   ·exact h.elim
 case convert sr d x=>
  refine fin ?_
  have hx:=evA_ok hE x
  split at h
  ·rename_i k' n hv
   rw [hv] at hx
   rw [hx.int]
   split at h
   ·rename_i k0 k hk0 hk
    cases hb:decide (k0 = k') with
    | false=>rw [hb] at h; exact h.elim
    | true=>
     rw [hb] at h
     have hus:∃ d,P.underlying sr = some d:=by
      unfold i64of at hk0
      split at hk0
      ·rename_i hu; exact ⟨_,hu⟩
      ·cases hk0
     have hud:P.underlying d = some (.int k):=by
      unfold i64of at hk
      split at hk
      ·rename_i hu; simp only [Option.some.injEq] at hk; subst hk; exact hu
      ·cases hk
     have hik:P.intKind d = k:=by unfold Program.intKind; rw [hud]
     refine ⟨_,_,h,RS.of_int _ _ _,fun w' _=>?_⟩
     rw [run_convert_int w' sr d k' n (Option.isSome_iff_exists.2 hus) (by rw [hik]; exact hud),hik]
   ·exact h.elim
  ·rename_i xs hv
   rw [hv] at hx
   cases hb:(isStrT P d && okBytes P sr) with
   | false=>rw [hb] at h; exact h.elim
   | true=>
    rw [hb] at h
    simp only [Bool.and_eq_true] at hb
    obtain ⟨a,n,c,h1,h2⟩:=hx.lst
    exact convBytes hb.1 hb.2 ⟨a,n,c,h1,h2⟩ h
  ·rename_i xs id hv
   rw [hv] at hx
   cases hb:(isStrT P d && okBytes P sr) with
   | false=>rw [hb] at h; exact h.elim
   | true=>
    rw [hb] at h
    simp only [Bool.and_eq_true] at hb
    obtain ⟨_,h1,h2⟩:=hx.ls
    exact convBytes hb.1 hb.2 ⟨_,_,_,h1,h2⟩ h
  ·exact h.elim
 case makeInterface xt x=>
  refine fin ?_
  have hx:=evA_ok hE x
  split at h
  ·exact h.elim
  ·rename_i d hd hu
   cases hb:(evA E x).val with
   | false=>rw [hb] at h; exact h.elim
   | true=>
    rw [hb] at h
    obtain ⟨vs,h1,h2⟩:=hx.val hb
    refine ⟨_,.iface xt (ev e x),h,RS.one ⟨_,⟨vs,_,h1,h2,rfl⟩,by rw [pack_one rfl]⟩,fun w' _=>?_⟩
    simp only [Instr.makeInterface,Sem.run_bind,run_underlying_some hu,Result.andThen_ok]
    cases d <;> first | rfl | exact absurd rfl (hd _)
  ·exact h.elim
 case makeFunc fn fi ca=>
  split at h
  ·rename_i f
   cases hb:(Nat.beq fi.size 0 && ca.toList.all (fun x=>(evA E x).val && !(evA E x).isAgg)) with
   | false=>rw [hb] at h; exact h.elim
   | true=>
    rw [hb] at h
    simp only [Bool.and_eq_true] at hb
    have hfi:fi = #[]:=Array.eq_empty_of_size_eq_zero (Nat.eq_of_beq_eq_true hb.1)
    subst hfi
    refine ⟨_,.func (.func f) #[] (ca.map (ev e)),h,RS.one ⟨_,⟨_,fn_caps hE ca.toList hb.2,rfl⟩,?_⟩,fun w' _=>by rw [Array.map_empty]; rfl⟩
    rw [pack_one rfl]
    congr 2
    apply Array.toList_inj.1
    simp
  ·exact h.elim
 case fieldAddr st x f=>
  refine fin ?_
  have hx:=evA_ok hE x
  split at h
  ·rename_i off t hf
   cases hb:Nat.blt 0 (sizeP P t) with
   | false=>rw [hb] at h; exact h.elim
   | true=>
    rw [hb] at h
    simp only [cond_true] at h
    split at h
    ·rename_i id o hv
     rw [hv] at hx
     obtain ⟨hid,he⟩:=hx.adr
     rw [he]
     refine ⟨_,.pointer (some ⟨(s.b id).1,(s.b id).2 + (o + off),none⟩),h,RS.one ⟨_,⟨hid,rfl⟩,by rw [pack_one rfl]⟩,fun w' _=>?_⟩
     rw [run_fieldAt hf (by simpa using hb),mk_add,Nat.add_assoc]
    ·rename_i t' y hv
     rw [hv] at hx
     obtain ⟨g,o,us,he,h1,h2⟩:=hx.ref
     rw [he]
     cases hb2:Nat.beq off ((AV.pv t' y).offs f) with
     | false=>rw [hb2] at h; exact h.elim
     | true=>
      rw [hb2] at h
      simp only [cond_true] at h
      split at h
      ·rename_i t'' z hn
       have ho:=Nat.eq_of_beq_eq_true hb2
       have h3:=nth_ok f hn (show RV s (.pv t' y) us from h1)
       refine ⟨_,.pointer (some ⟨g,o + off,none⟩),h,RS.one ⟨_,⟨g,o + off,_,rfl,h3,fun j v hj=>?_⟩,by rw [pack_one rfl]⟩,fun w' _=>?_⟩
       ·rw [List.getElem?_take] at hj
        split at hj
        ·rw [List.getElem?_drop] at hj
         rw [ho,Nat.add_assoc]; exact h2 _ _ hj
        ·cases hj
       ·rw [run_fieldAt hf (by simpa using hb),mk_add]
      ·exact h.elim
    ·exact h.elim
  ·exact h.elim
 case field st x f=>
  refine fin ?_
  have hx:=evA_ok hE x
  split at h
  ·rename_i off t hf
   split at h
   ·rename_i a hn
    cases hb:(Nat.beq off ((evA E x).offs f) && (isAggT P t == a.isAgg) && (bif isAggT P t then Nat.beq (sizeP P t) a.sz && (P.info? t).isSome else (P.underlying t).isSome)) with
    | false=>rw [hb] at h; exact h.elim
    | true=>
     rw [hb] at h
     obtain ⟨vs,he,hr⟩:=hx.agg (nth_agg hn)
     rw [he]
     obtain ⟨v,h1,h2⟩:=field_part hr hn hb
     refine ⟨a,v,h,h1,fun w' _=>?_⟩
     unfold fieldOff at hf
     split at hf
     ·rename_i fs hu
      cases hx:fs[f]? with
      | none=>simp [hx] at hf
      | some x=>
       simp only [hx,Option.map_some,Option.some.injEq,Prod.mk.injEq] at hf
       obtain ⟨rfl,rfl⟩:=hf
       simp [Instr.field,run_underlying_some hu,hx,asAgg,h2 w']
     ·cases hf
   ·exact h.elim
  ·exact h.elim
 case indexAddr t x i=>
  refine fin ?_
  obtain ⟨st,xs,h,a,n,c,he,hr⟩:=rp_list (evA_ok hE x) h
  rw [he] at hr ⊢
  cases hb:okEl P t st.sz with
  | false=>rw [hb] at h; exact h.elim
  | true=>
   rw [hb] at h
   simp only [cond_true] at h
   obtain ⟨k,m,hi,h⟩:=intA_ok (evA_ok hE i) h
   rw [hi]
   obtain ⟨y,h0,hlt,hy,hk⟩:=getL_at h
   obtain ⟨el,hu,hel,hsz,hi0,hu'⟩:=okEl_spec hb
   obtain ⟨hn,_,_,hx⟩:=rp_slice hr
   obtain ⟨g,o,us,ha,h1,h2⟩:=hx _ _ hy
   subst ha
   refine ⟨_,.pointer (some ⟨g,o + m.toNat * st.sz,none⟩),hk,RS.one ⟨_,⟨g,_,us,rfl,h1,h2⟩,by rw [pack_one rfl]⟩,fun w' _=>?_⟩
   have hlt':m < (n:Int):=by omega
   simp [Instr.indexAt,asIntOf,run_underlying_some hu,h0,hlt',run_sizeOf_some hi0,hsz,mk_add]
 case index t x i=>
  refine fin ?_
  have hx:=evA_ok hE x
  split at h
  ·rename_i sv hv
   rw [hv] at hx
   obtain ⟨b,he,rfl,_⟩:=hx.str
   rw [he]
   cases hb:isStrT P t with
   | false=>rw [hb] at h; exact h.elim
   | true=>
    rw [hb] at h
    simp only [cond_true] at h
    obtain ⟨k,m,hi,h⟩:=intA_ok (evA_ok hE i) h
    rw [hi]
    obtain ⟨y,h0,hlt,hy,hk⟩:=getL_at h
    have hlt':m.toNat < b.size:=by rw [size_len]; exact hlt
    have hg:b[m.toNat]? = some y:=by
     rw [getElem?_pos b m.toNat hlt']
     rw [List.getElem?_eq_getElem hlt] at hy
     rw [← hy]; rfl
    refine ⟨_,_,hk,RS.of_int _ _ _,fun w' _=>?_⟩
    simp [Instr.index,asIntOf,run_underlying_some (isStrT_spec hb),h0,hg]
  ·exact h.elim
 case slice xt x lo hi mx=>
  refine fin ?_
  have hx:=evA_ok hE x
  split at h
  ·simp only [Option.map_none]
   unfold subA at h
   split at h
   ·rename_i sv hv
    rw [hv] at hx
    obtain ⟨b,he,rfl,hb⟩:=hx.str
    rw [he]
    cases hs:isStrT P xt with
    | false=>rw [hs] at h; exact h.elim
    | true=>
     rw [hs] at h
     obtain ⟨av,v,h1,h2,h3⟩:=slice_str hE hs hb h
     exact ⟨av,v,h1,h2,fun w' _=>h3 w'⟩
   ·rename_i t xs hv
    rw [hv] at hx
    cases hs:okEl P xt t.sz with
    | false=>rw [hs] at h; exact h.elim
    | true=>
     rw [hs] at h
     obtain ⟨a,n,c,h1,h2⟩:=hx.lst
     obtain ⟨av,v,h1,h2,h3⟩:=slice_list hE hs ⟨a,n,c,h1,h2⟩ h
     exact ⟨av,v,h1,h2,fun w' _=>h3 w'⟩
   ·rename_i t xs id hv
    rw [hv] at hx
    cases hs:okEl P xt t.sz with
    | false=>rw [hs] at h; exact h.elim
    | true=>
     rw [hs] at h
     obtain ⟨_,h1,h2⟩:=hx.ls
     obtain ⟨av,v,h1,h2,h3⟩:=slice_list hE hs ⟨_,_,_,h1,h2⟩ h
     exact ⟨av,v,h1,h2,fun w' _=>h3 w'⟩
   ·exact h.elim
  ·exact h.elim
 case extract t i=>
  have hx:=evA_ok hE t
  split at h
  ·rename_i l hv
   rw [hv] at hx
   obtain ⟨vs,he,hr⟩:=hx
   obtain ⟨a,hn,hk⟩:=optA_ok h
   obtain ⟨v,h1,h2⟩:=rt_nth i hn hr
   rw [he]
   exact ⟨a,v,hk,RS.one h2,fun w' _=>by simp [Instr.extract,h1]⟩
  ·exact h.elim
 case call c=>
  obtain ⟨callee,args,argTypes⟩:=c
  cases callee <;> first | (exfalso; revert hq; simp [isQ]; done) | skip
  rename_i b
  cases b <;> first | (exfalso; revert hq; simp [isQ]; done) | skip
  dsimp only at h
  have hlen:(do let d ← resolve (ev e) ⟨.builtin .len,args,argTypes⟩ ty; invoke d.target d.args:Sem Next) = (do pure (.value (← Builtin.len_ argTypes ty (args.map (ev e)))):Sem Next):=rfl
  rw [hlen]
  refine fin ?_
  split at h
  ·rename_i x t h1 h2
   have e1:args = #[x]:=by rw [← Array.toList_inj]; exact h1
   have e2:argTypes = #[t]:=by rw [← Array.toList_inj]; exact h2
   subst e1; subst e2
   obtain ⟨av,r,h3,h4,h5⟩:=lenA_ok (ty:=ty) (evA_ok hE x) h
   exact ⟨av,r,h3,h4,fun w' _=>by simpa using h5 w'⟩
  ·exact h.elim
end Go.Proofs.YtpifnlfmojfgpaaGreatDoor.Pw
end
section
namespace Go.Proofs.YtpifnlfmojfgpaaGreatDoor.Pw
open Fw RowKit
structure Fr (O:Pos) (w w':World):Prop where
 os:w'.os = w.os
 tape:w'.tape = w.tape
 output:w'.output = w.output
 size:w.heap.size ≤ w'.heap.size
 cell:∀ g o,g < w.heap.size → ¬ O g o → w'.cell? ⟨g,o,none⟩ = w.cell? ⟨g,o,none⟩ ∧ w'.frozen? ⟨g,o,none⟩ = w.frozen? ⟨g,o,none⟩
 block:∀ g,g < w.heap.size → (∀ o,¬ O g o) → w'.heap[g]? = w.heap[g]?
theorem Fr.refl (O:Pos) (w:World):Fr O w w:=⟨rfl,rfl,rfl,Nat.le_refl _,fun _ _ _ _=>⟨rfl,rfl⟩,fun _ _ _=>rfl⟩
theorem Fr.trans {O:Pos} {a b c:World} (h:Fr O a b) (k:Fr O b c):Fr O a c:=
 ⟨k.os.trans h.os,k.tape.trans h.tape,k.output.trans h.output,Nat.le_trans h.size k.size,
  fun g o hg ho=>⟨((k.cell g o (Nat.lt_of_lt_of_le hg h.size) ho).1).trans (h.cell g o hg ho).1,((k.cell g o (Nat.lt_of_lt_of_le hg h.size) ho).2).trans (h.cell g o hg ho).2⟩,
  fun g hg ho=>(k.block g (Nat.lt_of_lt_of_le hg h.size) ho).trans (h.block g hg ho)⟩
theorem Fr.of_chg {O:Pos} {S:Nat → Prop} {w w':World} (h:Chg S w w') (hS:∀ g,g < w.heap.size → S g → ∀ o,O g o):Fr O w w':=by
 have hb:∀ g o,g < w.heap.size → ¬ O g o → w'.heap[g]? = w.heap[g]?:=fun g o hg ho=>h.block g hg fun hs=>ho (hS g hg hs o)
 refine ⟨h.os,h.tape,h.output,h.size,fun g o hg ho=>⟨World.cell?_of_block (hb g o hg ho),World.frozen?_of_block (hb g o hg ho)⟩,fun g hg ho=>hb g 0 hg (ho 0)⟩
theorem Fr.mono {O O':Pos} {w w':World} (h:Fr O w w') (hO:∀ g o,g < w.heap.size → O g o → O' g o):Fr O' w w':=
 ⟨h.os,h.tape,h.output,h.size,fun g o hg ho=>h.cell g o hg fun hs=>ho (hO g o hg hs),fun g hg ho=>h.block g hg fun o hs=>ho o (hO g o hg hs)⟩
structure Ow where
 c:Nat → Nat → Prop
 t:Nat → Prop
def OP (O:Ow) (A0:Pos):Pos:=fun g o=>O.c g o ∨ (O.t g ∧ ¬ A0 g o)
structure St (P:Program) (O:Ow) (A0:Pos) (w0:World) (s:Cx) (H:AHeap):Prop where
 hr:HR P s H
 own:∀ i o,H.c i o ≠ none → O.c (s.b i).1 ((s.b i).2 + o)
 tok:∀ i e a,H.t i = some e → (s.s i).a = some a → O.t a.block
 fr:Fr (OP O A0) w0 s.w
 new:∀ g,w0.heap.size ≤ g → O.t g ∧ ∀ o,O.c g o
 an:∀ g o,s.A g o → A0 g o ∨ OP O A0 g o
 sub:∀ g o,A0 g o → s.A g o ∧ s.w.cell? ⟨g,o,none⟩ = w0.cell? ⟨g,o,none⟩
theorem setL_c (i:Nat) (l:List AV) (o:Nat) (H:AHeap) (j p:Nat):(H.setL i o l).c j p = if j = i ∧ o ≤ p ∧ p < o + l.length then l[p - o]? else H.c j p:=by
 simp only [AHeap.setL]
 cases h1:Nat.beq j i with
 | false=>
  have h1:=Nat.ne_of_beq_eq_false h1
  rw [if_neg (fun h=>h1 h.1)]; rfl
 | true=>
  have h1:=Nat.eq_of_beq_eq_true h1
  cases h2:Nat.ble o p with
  | false=>
   have h2:¬ o ≤ p:=fun h=>by rw [Nat.ble_eq_true_of_le h] at h2; cases h2
   rw [if_neg (fun h=>h2 h.2.1)]; rfl
  | true=>
   have h2:=Nat.le_of_ble_eq_true h2
   simp only [Bool.and_self,cond_true,lget_eq]
   by_cases h3:p < o + l.length
   ·rw [if_pos ⟨h1,h2,h3⟩,List.getElem?_eq_getElem (show p - o < l.length by omega)]
   ·rw [if_neg (fun h=>h3 h.2.2),List.getElem?_eq_none (by omega)]
theorem setL_t (i:Nat) (l:List AV) (o:Nat) (H:AHeap):(H.setL i o l).t = H.t:=rfl
def CellsOk (s:Cx) (avs:List AV) (vs:List Value):Prop:=vs.length = avs.length ∧ ∀ (j:Nat) av,avs[j]? = some av → av.isAgg = false ∧ ∃ v,vs[j]? = some v ∧ RV s av [v]
theorem RV.flat {s:Cx}:∀ {av:AV} {vs:List Value},RV s av vs → CellsOk s av.cells vs
 | .pv t x,vs,h=>⟨by
   have hl:∀ {t:PT} (x:t.den),(pvCells t x).length = t.sz:=by
    intro t
    induction t with
    | cons h t ih1 ih2=>intro x; simp only [pvCells,List.length_append,ih1,ih2,PT.sz]
    | _=>intro x; rfl
   rw [Rp.len h]; exact (hl x).symm,fun j av hj=>Rp.flat h j av hj⟩
 | .acons a b,vs,⟨us,us',he,h1,h2⟩=>by
  subst he
  obtain ⟨l1,f1⟩:=h1.flat
  obtain ⟨l2,f2⟩:=h2.flat
  refine ⟨by simp only [AV.cells,List.length_append]; omega,fun j av hj=>?_⟩
  simp only [AV.cells] at hj
  by_cases hlt:j < a.cells.length
  ·rw [List.getElem?_append_left hlt] at hj
   obtain ⟨h3,v,h4,h5⟩:=f1 j av hj
   exact ⟨h3,v,by rw [List.getElem?_append_left (by omega)]; exact h4,h5⟩
  ·rw [List.getElem?_append_right (by omega)] at hj
   obtain ⟨h3,v,h4,h5⟩:=f2 _ av hj
   exact ⟨h3,v,by rw [List.getElem?_append_right (by omega),l1]; exact h4,h5⟩
 | .anil,vs,h=>by simp only [RV] at h; subst h; exact ⟨rfl,fun j av hj=>by simp [AV.cells] at hj⟩
 | .lit b,vs,h=>by
  have h':=h
  simp only [RV] at h; subst h
  exact ⟨rfl,fun j av hj=>by
   cases j with
   | zero=>simp [AV.cells] at hj; subst hj; exact ⟨rfl,_,rfl,h'⟩
   | succ j=>simp [AV.cells] at hj⟩
 | .ls t xs id,vs,h=>by
  have h':=h
  obtain ⟨_,rfl,_⟩:=h
  exact ⟨rfl,fun j av hj=>by
   cases j with
   | zero=>simp [AV.cells] at hj; subst hj; exact ⟨rfl,_,rfl,h'⟩
   | succ j=>simp [AV.cells] at hj⟩
 | .adr id o,vs,h=>by
  have h':=h
  obtain ⟨_,rfl⟩:=h
  exact ⟨rfl,fun j av hj=>by
   cases j with
   | zero=>simp [AV.cells] at hj; subst hj; exact ⟨rfl,_,rfl,h'⟩
   | succ j=>simp [AV.cells] at hj⟩
 | .ref t x,vs,h=>by
  have h':=h
  obtain ⟨_,_,_,rfl,_⟩:=h
  exact ⟨rfl,fun j av hj=>by
   cases j with
   | zero=>simp [AV.cells] at hj; subst hj; exact ⟨rfl,_,rfl,h'⟩
   | succ j=>simp [AV.cells] at hj⟩
 | .fn f c,vs,h=>by
  have h':=h
  obtain ⟨_,_,rfl⟩:=h
  exact ⟨rfl,fun j av hj=>by
   cases j with
   | zero=>simp [AV.cells] at hj; subst hj; exact ⟨rfl,_,rfl,h'⟩
   | succ j=>simp [AV.cells] at hj⟩
 | .yld l,vs,h=>by
  have h':=h
  simp only [RV] at h; subst h
  exact ⟨rfl,fun j av hj=>by
   cases j with
   | zero=>simp [AV.cells] at hj; subst hj; exact ⟨rfl,_,rfl,h'⟩
   | succ j=>simp [AV.cells] at hj⟩
 | .ifc t v,vs,h=>by
  have h':=h
  obtain ⟨_,_,_,_,rfl⟩:=h
  exact ⟨rfl,fun j av hj=>by
   cases j with
   | zero=>simp [AV.cells] at hj; subst hj; exact ⟨rfl,_,rfl,h'⟩
   | succ j=>simp [AV.cells] at hj⟩
 | .cst v,vs,h=>by
  have h':=h
  obtain ⟨rfl,_⟩:=h
  exact ⟨rfl,fun j av hj=>by
   cases j with
   | zero=>simp [AV.cells] at hj; subst hj; exact ⟨rfl,_,rfl,h'⟩
   | succ j=>simp [AV.cells] at hj⟩
 | .top,vs,h=>by
  have h':=h
  obtain ⟨_,rfl,_⟩:=h
  exact ⟨rfl,fun j av hj=>by
   cases j with
   | zero=>simp [AV.cells] at hj; subst hj; exact ⟨rfl,_,rfl,h'⟩
   | succ j=>simp [AV.cells] at hj⟩
 | .tup _,_,h=>h.elim
theorem block_lt {w:World} {g o:Nat} {v:Value} (h:w.cell? ⟨g,o,none⟩ = some v):g < w.heap.size:=World.block_lt_of_cell? w ⟨g,o,none⟩ h
theorem TailOk.keep {P:Program} {A A':Pos} {w w':World} {sl:Sl} {e:TypeId} (h:TailOk P A w sl e) (hb:∀ a,sl.a = some a → w'.heap[a.block]? = w.heap[a.block]?) (hA:∀ a,sl.a = some a → ∀ k,sl.n * sizeP P e ≤ k → A' a.block k → A a.block k):TailOk P A' w' sl e:=by
 rcases h with h | ⟨g,cur,h1,h2,h3,h4,h5,h6⟩
 ·exact .inl h
 ·exact .inr ⟨g,cur,h1,(hb _ h1).trans h2,h3,h4,h5,fun k hk ha=>h6 k hk (hA _ h1 k hk ha)⟩
theorem cell_alloc {w:World} {o:Obj} {g k:Nat} (h:g < w.heap.size):(w.alloc o).cell? ⟨g,k,none⟩ = w.cell? ⟨g,k,none⟩:=World.cell?_of_block (heap_alloc_old w o g h)
theorem frozen_alloc {w:World} {o:Obj} {g k:Nat} (h:g < w.heap.size):(w.alloc o).frozen? ⟨g,k,none⟩ = w.frozen? ⟨g,k,none⟩:=World.frozen?_of_block (heap_alloc_old w o g h)
def Cx.push (s:Cx) (w':World):Cx:={ s with w:=w',b:=fun i=>if i = s.n then (s.w.heap.size,0) else s.b i,n:=s.n + 1 }
theorem push_ext {s:Cx} {o:Obj} (hlow:∀ g k,s.A g k → g < s.w.heap.size):Ext s (s.push (s.w.alloc o)):=
 ⟨fun g k hg=>⟨hg,cell_alloc (hlow g k hg)⟩,fun i hi=>by simp [Cx.push,Nat.ne_of_lt hi],fun _ _=>rfl,Nat.le_succ _⟩
theorem HR.push {P:Program} {s:Cx} {H:AHeap} (h:HR P s H) {cs:Array Value} {t:TypeId} {avs:List AV} (hc:CellsOk s avs cs.toList):HR P (s.push (s.w.alloc (.cells cs t))) (H.setL s.n 0 avs):=by
 have hx:=push_ext (s:=s) (o:=.cells cs t) h.low
 have old:∀ i o av,H.c i o = some av → i < s.n ∧ (s.b i).1 < s.w.heap.size:=fun i o av hi=>by
  obtain ⟨h1,_,⟨v,h2,_⟩,_⟩:=h.cell i o av hi
  exact ⟨h1,block_lt h2⟩
 have tl:∀ i e,H.t i = some e → i < s.n ∧ ∀ a,(s.s i).a = some a → a.block < s.w.heap.size:=fun i e hi=>by
  obtain ⟨h1,h2⟩:=h.tok i e hi
  refine ⟨h1,fun a ha=>?_⟩
  rcases h2 with h2 | ⟨g,cur,h3,h4,_⟩
  ·rw [h2] at ha; cases ha
  ·rw [h3] at ha; cases ha; exact lt_of_heap h4
 have split:∀ i o av,(H.setL s.n 0 avs).c i o = some av → (i = s.n ∧ avs[o]? = some av) ∨ (i < s.n ∧ H.c i o = some av):=fun i o av hi=>by
  rw [setL_c] at hi
  by_cases hq:i = s.n ∧ 0 ≤ o ∧ o < 0 + avs.length
  ·rw [if_pos hq] at hi; exact .inl ⟨hq.1,by simpa using hi⟩
  ·rw [if_neg hq] at hi; exact .inr ⟨(old i o av hi).1,hi⟩
 have bn:((s.push (s.w.alloc (.cells cs t))).b s.n) = (s.w.heap.size,0):=by simp [Cx.push]
 have bo:∀ i,i < s.n → (s.push (s.w.alloc (.cells cs t))).b i = s.b i:=fun i hi=>hx.b i hi
 have some_of:∀ {α:Type} {x:Option α},x ≠ none → ∃ y,x = some y:=fun {α x} hx=>by cases x <;> first | exact absurd rfl hx | exact ⟨_,rfl⟩
 refine ⟨fun g o hg=>?_,fun i o av hi=>?_,fun i o j p hi hj hg ho=>?_,fun i e hi=>?_,fun i e j o hi hj a ha=>?_,fun i j e f hi hj hne a c ha hc=>?_⟩
 ·have:=h.low g o hg
  simp only [Cx.push,World.size_alloc]; omega
 ·rcases split i o av hi with ⟨rfl,ha⟩ | ⟨hlt,ha⟩
  ·obtain ⟨h1,v,h2,h3⟩:=hc.2 o av ha
   have h2':cs[o]? = some v:=by rw [← Array.getElem?_toList]; exact h2
   refine ⟨Nat.lt_succ_self _,h1,⟨v,?_,h3.ext hx⟩,?_,?_⟩
   ·rw [bn]; simp only [Nat.zero_add]
    show (s.w.alloc (.cells cs t)).cell? ⟨s.w.heap.size,o,none⟩ = some v
    rw [World.cell?_alloc_new]; exact h2'
   ·rw [bn]; exact World.frozen?_alloc_new s.w cs t _
   ·rw [bn]; intro hA; exact absurd (h.low _ _ hA) (by simp)
  ·obtain ⟨h1,h2,⟨v,h3,h4⟩,h5,h6⟩:=h.cell i o av ha
   have hb:=block_lt h3
   refine ⟨Nat.lt_succ_of_lt h1,h2,⟨v,?_,h4.ext hx⟩,?_,?_⟩
   ·rw [bo i hlt]; exact (cell_alloc hb).trans h3
   ·rw [bo i hlt]; exact (frozen_alloc hb).trans h5
   ·rw [bo i hlt]; exact h6
 ·obtain ⟨av,hi⟩:=some_of hi
  obtain ⟨av',hj⟩:=some_of hj
  rcases split i o av hi with ⟨rfl,ha⟩ | ⟨hlt,ha⟩ <;> rcases split j p av' hj with ⟨rfl,ha'⟩ | ⟨hlt',ha'⟩
  ·rw [bn] at ho; exact ⟨rfl,by simpa using ho⟩
  ·rw [bn,bo j hlt'] at hg; exact absurd hg (Nat.ne_of_gt (old _ _ _ ha').2)
  ·rw [bn,bo i hlt] at hg; exact absurd hg (Nat.ne_of_lt (old _ _ _ ha).2)
  ·rw [bo i hlt,bo j hlt'] at hg ho
   exact h.inj i o j p (by rw [ha]; exact fun h=>by cases h) (by rw [ha']; exact fun h=>by cases h) hg ho
 ·rw [setL_t] at hi
  obtain ⟨h1,h2⟩:=h.tok i e hi
  exact ⟨Nat.lt_succ_of_lt h1,h2.keep (fun a ha=>heap_alloc_old s.w _ _ ((tl i e hi).2 a ha)) (fun _ _ _ _ h=>h)⟩
 ·rw [setL_t] at hi
  obtain ⟨av,hj⟩:=some_of hj
  have hlt:=(tl i e hi).2 a ha
  rcases split j o av hj with ⟨rfl,ha'⟩ | ⟨hlt',ha'⟩
  ·rw [bn]; exact Nat.ne_of_lt hlt
  ·rw [bo j hlt']; exact h.apart i e j o hi (by rw [ha']; exact fun h=>by cases h) a ha
 ·rw [setL_t] at hi hj
  exact h.tinj i j e f hi hj hne a c ha hc
theorem St.push {P:Program} {O:Ow} {A0:Pos} {w0:World} {s:Cx} {H:AHeap} (h:St P O A0 w0 s H) {cs:Array Value} {t:TypeId} {avs:List AV} (hc:CellsOk s avs cs.toList) :
  St P O A0 w0 (s.push (s.w.alloc (.cells cs t))) (H.setL s.n 0 avs) ∧ Ext s (s.push (s.w.alloc (.cells cs t))) ∧ RS (s.push (s.w.alloc (.cells cs t))) (.adr s.n 0) (.pointer (some ⟨s.w.heap.size,0,none⟩)):=by
 have hx:=push_ext (s:=s) (o:=.cells cs t) h.hr.low
 have hfr:Fr (OP O A0) s.w (s.w.alloc (.cells cs t)):=Fr.of_chg (S:=Nil) (Chg.alloc _ _) (fun _ _ h=>h.elim)
 refine ⟨⟨h.hr.push hc,fun i o hi=>?_,fun i e a hi ha=>?_,h.fr.trans hfr,h.new,h.an,fun g o hg=>?_⟩,hx,RS.one ⟨_,⟨Nat.lt_succ_self _,?_⟩,by rw [pack_one rfl]⟩⟩
 ·rw [setL_c] at hi
  by_cases hq:i = s.n ∧ 0 ≤ o ∧ o < 0 + avs.length
  ·obtain ⟨rfl,_⟩:=hq
   simp only [Cx.push,if_true]
   exact (h.new _ h.fr.size).2 _
  ·rw [if_neg hq] at hi
   cases hv:H.c i o with
   | none=>exact absurd hv hi
   | some av=>
    have:=(h.hr.cell i o av hv).1
    rw [hx.b i this]
    exact h.own i o hi
 ·rw [setL_t] at hi
  exact h.tok i e a hi ha
 ·obtain ⟨h1,h2⟩:=h.sub g o hg
  exact ⟨h1,(hx.sub g o h1).2.trans h2⟩
 ·simp [Cx.push]
theorem setCells_frozen (w:World) (g o:Nat) (vs:List Value) (x:Addr):(w.setCells g o vs).frozen? x = w.frozen? x:=World.frozen?_setCells g vs o w x
theorem setCells_chg (g:Nat):∀ (vs:List Value) (o:Nat) (w:World),Chg (· = g) w (w.setCells g o vs)
 | [],_,w=>Chg.refl w
 | v :: vs,o,w=>(Chg.setCell (S:=(· = g)) w (a:=⟨g,o,none⟩) v rfl).then (setCells_chg g vs (o + 1) _)
def Cx.wr (s:Cx) (w':World):Cx:={ s with w:=w' }
theorem St.store {P:Program} {O:Ow} {A0:Pos} {w0:World} {s:Cx} {H:AHeap} (h:St P O A0 w0 s H) {id off:Nat} {avs:List AV} {vs:List Value} (hc:CellsOk s avs vs) (hown:∀ j,j < avs.length → H.c id (off + j) ≠ none) :
  St P O A0 w0 (s.wr (s.w.setCells (s.b id).1 ((s.b id).2 + off) vs)) (H.setL id off avs) ∧ Ext s (s.wr (s.w.setCells (s.b id).1 ((s.b id).2 + off) vs)) ∧
  (∀ j,j < vs.length → ∃ v,s.w.cell? ⟨(s.b id).1,(s.b id).2 + off + j,none⟩ = some v) ∧ (∀ j,j < vs.length → s.w.frozen? ⟨(s.b id).1,(s.b id).2 + off + j,none⟩ = false) ∧
  (∀ i o,H.c i o ≠ none → (¬ (i = id ∧ off ≤ o ∧ o < off + avs.length)) → (s.w.setCells (s.b id).1 ((s.b id).2 + off) vs).cell? ⟨(s.b i).1,(s.b i).2 + o,none⟩ = s.w.cell? ⟨(s.b i).1,(s.b i).2 + o,none⟩):=by
 obtain ⟨g,hg⟩:∃ g,g = (s.b id).1:=⟨_,rfl⟩
 obtain ⟨p,hp⟩:∃ p,p = (s.b id).2 + off:=⟨_,rfl⟩
 obtain ⟨w',hw'⟩:∃ w',w' = s.w.setCells g p vs:=⟨_,rfl⟩
 rw [← hg,← hp,← hw']
 have some_of:∀ {α:Type} {x:Option α},x ≠ none → ∃ y,x = some y:=fun {α x} hx=>by cases x <;> first | exact absurd rfl hx | exact ⟨_,rfl⟩
 have hl:=hc.1
 have mine:∀ j,j < avs.length → ∃ v,s.w.cell? ⟨g,p + j,none⟩ = some v ∧ s.w.frozen? ⟨g,p + j,none⟩ = false ∧ ¬ s.A g (p + j):=fun j hj=>by
  obtain ⟨av,hv⟩:=some_of (hown j hj)
  obtain ⟨_,_,⟨v,h3,_⟩,h5,h6⟩:=h.hr.cell id (off + j) av hv
  rw [← Nat.add_assoc,← hg,← hp] at h3 h5 h6
  exact ⟨v,h3,h5,h6⟩
 have out:∀ k o,(k = g → o < p ∨ p + vs.length ≤ o) → w'.cell? ⟨k,o,none⟩ = s.w.cell? ⟨k,o,none⟩:=fun k o hk=>by
  rw [hw']; exact World.cell?_setCells_out g vs p s.w ⟨k,o,none⟩ fun h1 _=>hk h1
 have ins:∀ j (hj:j < vs.length),w'.cell? ⟨g,p + j,none⟩ = some vs[j]:=fun j hj=>by
  rw [hw']; exact World.cell?_setCells_in g vs p s.w (fun j hj=>by obtain ⟨v,h1,_⟩:=mine j (by omega); rw [h1]; rfl) j hj
 have fz:∀ x,w'.frozen? x = s.w.frozen? x:=fun x=>by rw [hw']; exact setCells_frozen _ _ _ _ _
 have chg:Chg (· = g) s.w w':=by rw [hw']; exact setCells_chg g vs p s.w
 have hx:Ext s (s.wr w'):=⟨fun k o hA=>⟨hA,out k o fun hk=>by
   subst hk
   by_cases h1:o < p
   ·exact .inl h1
   ·by_cases h2:p + vs.length ≤ o
    ·exact .inr h2
    ·exfalso
     obtain ⟨_,_,_,h3⟩:=mine (o - p) (by omega)
     rw [show p + (o - p) = o by omega] at h3
     exact h3 hA⟩,fun _ _=>rfl,fun _ _=>rfl,Nat.le_refl _⟩
 have away:∀ i o,H.c i o ≠ none → (¬ (i = id ∧ off ≤ o ∧ o < off + avs.length)) → w'.cell? ⟨(s.b i).1,(s.b i).2 + o,none⟩ = s.w.cell? ⟨(s.b i).1,(s.b i).2 + o,none⟩:=fun i o hi hq=>by
  refine out _ _ fun hk=>?_
  by_cases h1:(s.b i).2 + o < p
  ·exact .inl h1
  ·by_cases h2:p + vs.length ≤ (s.b i).2 + o
   ·exact .inr h2
   ·exfalso
    have hlt:(s.b i).2 + o - p < avs.length:=by omega
    have:=h.hr.inj i o id (off + ((s.b i).2 + o - p)) hi (hown _ hlt) (by rw [hk,hg]) (by rw [← Nat.add_assoc,← hp]; omega)
    exact hq ⟨this.1,by omega,by omega⟩
 have split:∀ i o av,(H.setL id off avs).c i o = some av → (i = id ∧ off ≤ o ∧ o < off + avs.length ∧ avs[o - off]? = some av) ∨ ((¬ (i = id ∧ off ≤ o ∧ o < off + avs.length)) ∧ H.c i o = some av):=fun i o av hi=>by
  rw [setL_c] at hi
  by_cases hq:i = id ∧ off ≤ o ∧ o < off + avs.length
  ·rw [if_pos hq] at hi; exact .inl ⟨hq.1,hq.2.1,hq.2.2,hi⟩
  ·rw [if_neg hq] at hi; exact .inr ⟨hq,hi⟩
 have back:∀ i o,(H.setL id off avs).c i o ≠ none → H.c i o ≠ none:=fun i o hi=>by
  obtain ⟨av,hv⟩:=some_of hi
  rcases split i o av hv with ⟨rfl,h1,h2,_⟩ | ⟨_,h1⟩
  ·have:=hown (o - off) (by omega)
   rwa [show off + (o - off) = o by omega] at this
  ·rw [h1]; exact fun h=>by cases h
 have hne:∀ i e a,H.t i = some e → (s.s i).a = some a → 0 < avs.length → a.block ≠ g:=fun i e a hi ha h0=>by
  rw [hg]; exact h.hr.apart i e id off hi (hown 0 h0) a ha
 have blk:∀ k,k < s.w.heap.size → (0 < avs.length → k ≠ g) → w'.heap[k]? = s.w.heap[k]?:=fun k hk hkg=>by
  by_cases h0:0 < avs.length
  ·exact chg.block k hk (hkg h0)
  ·have:vs = []:=List.eq_nil_of_length_eq_zero (by omega)
   rw [hw',this]; rfl
 have tl:∀ i e,H.t i = some e → ∀ a,(s.s i).a = some a → a.block < s.w.heap.size:=fun i e hi a ha=>by
  obtain ⟨h1,h2⟩:=h.hr.tok i e hi
  rcases h2 with h2 | ⟨g,cur,h3,h4,_⟩
  ·rw [h2] at ha; cases ha
  ·rw [h3] at ha; cases ha; exact lt_of_heap h4
 refine ⟨⟨⟨fun k o hk=>Nat.lt_of_lt_of_le (h.hr.low k o hk) chg.size,fun i o av hi=>?_,fun i o j q hi hj=>h.hr.inj i o j q (back _ _ hi) (back _ _ hj),fun i e hi=>?_,fun i e j o hi hj a ha=>?_,fun i j e f hi hj=>?_⟩,
  fun i o hi=>h.own i o (back i o hi),fun i e a hi ha=>?_,h.fr.trans ?_,h.new,h.an,fun k o hk=>?_⟩,hx,fun j hj=>?_,fun j hj=>?_,away⟩
 ·rcases split i o av hi with ⟨rfl,h1,h2,h3⟩ | ⟨hq,h1⟩
  ·obtain ⟨h4,v,h5,h6⟩:=hc.2 _ _ h3
   have hlt:o - off < vs.length:=by omega
   obtain ⟨_,_,h7,h8⟩:=mine (o - off) (by omega)
   have e1:(s.b i).2 + o = p + (o - off):=by rw [hp]; omega
   obtain ⟨av',hv'⟩:=some_of (back i o (by rw [hi]; exact fun h=>by cases h))
   refine ⟨(h.hr.cell i o av' hv').1,h4,⟨v,?_,h6.ext hx⟩,?_,?_⟩
   ·show w'.cell? ⟨(s.b i).1,(s.b i).2 + o,none⟩ = some v
    rw [e1,← hg,ins _ hlt]; rw [List.getElem?_eq_getElem hlt] at h5; exact h5
   ·show w'.frozen? ⟨(s.b i).1,(s.b i).2 + o,none⟩ = false
    rw [e1,← hg,fz]; exact h7
   ·show ¬ s.A (s.b i).1 ((s.b i).2 + o)
    rw [e1,← hg]; exact h8
  ·obtain ⟨h2,h3,⟨v,h4,h5⟩,h6,h7⟩:=h.hr.cell i o av h1
   refine ⟨h2,h3,⟨v,(away i o (by rw [h1]; exact fun h=>by cases h) hq).trans h4,h5.ext hx⟩,(fz _).trans h6,h7⟩
 ·rw [setL_t] at hi
  obtain ⟨h1,h2⟩:=h.hr.tok i e hi
  exact ⟨h1,h2.keep (fun a ha=>blk _ (tl i e hi a ha) (hne i e a hi ha)) (fun _ _ _ _ h=>h)⟩
 ·rw [setL_t] at hi
  exact h.hr.apart i e j o hi (back _ _ hj) a ha
 ·rw [setL_t] at hi hj
  exact h.hr.tinj i j e f hi hj
 ·rw [setL_t] at hi
  exact h.tok i e a hi ha
 ·refine ⟨chg.os,chg.tape,chg.output,chg.size,fun k o hk ho=>⟨out k o fun hkg=>?_,fz _⟩,fun k hk ho=>blk k hk fun h0 hkg=>?_⟩
  ·by_cases h1:o < p
   ·exact .inl h1
   ·by_cases h2:p + vs.length ≤ o
    ·exact .inr h2
    ·exfalso
     have:=h.own id (off + (o - p)) (hown _ (by omega))
     rw [← Nat.add_assoc,← hg,← hp,show p + (o - p) = o by omega,← hkg] at this
     exact ho (.inl this)
  ·have:=h.own id (off + 0) (hown 0 h0)
   rw [← hg,← hkg] at this
   exact ho _ (.inl this)
 ·obtain ⟨h1,h2⟩:=h.sub k o hk
  exact ⟨h1,(hx.sub k o h1).2.trans h2⟩
 ·obtain ⟨v,h1,_⟩:=mine j (by omega)
  exact ⟨v,h1⟩
 ·obtain ⟨v,_,h1,_⟩:=mine j (by omega)
  exact h1
end Go.Proofs.YtpifnlfmojfgpaaGreatDoor.Pw
end
section
namespace Go.Proofs.YtpifnlfmojfgpaaGreatDoor.Pw
open Fw RowKit
theorem setT_t (H:AHeap) (i:Nat) (v:Option TypeId) (j:Nat):(H.setT i v).t j = if j = i then v else H.t j:=by
 simp only [AHeap.setT]
 cases h1:Nat.beq j i with
 | true=>simp [Nat.eq_of_beq_eq_true h1]
 | false=>simp [Nat.ne_of_beq_eq_false h1]
theorem flat_of {A:Pos} {w:World} {t:PT} {C:Nat → Value → Prop}:∀ (xs:List t.den) (off:Nat),(∀ (i:Nat) x,xs[i]? = some x → ∃ us,Rp A w t x us ∧ ∀ (j:Nat) v,us[j]? = some v → C (off + i * t.sz + j) v) →
  ∃ flat:List Value,flat.length = xs.length * t.sz ∧ (∀ (j:Nat) v,flat[j]? = some v → C (off + j) v) ∧ (∀ (i:Nat) x,xs[i]? = some x → Rp A w t x ((flat.drop (i * t.sz)).take t.sz)) ∧ ∀ v ∈ flat,v.oneCell' = true
 | [],off,h=>⟨[],by simp,fun j v hj=>by simp at hj,fun i x hx=>by simp at hx,fun v hv=>by simp at hv⟩
 | x :: xs,off,h=>by
  obtain ⟨us,h1,h2⟩:=h 0 x rfl
  have hl:=h1.len
  obtain ⟨flat,h3,h4,h5,h6⟩:=flat_of xs (off + t.sz) (fun i y hy=>by
   obtain ⟨us,h3,h4⟩:=h (i + 1) y (by simpa using hy)
   refine ⟨us,h3,fun j v hj=>?_⟩
   have:=h4 j v hj
   rwa [Nat.add_mul,Nat.one_mul,show off + (i * t.sz + t.sz) + j = off + t.sz + i * t.sz + j by omega] at this)
  refine ⟨us ++ flat,by rw [List.length_append,h3,hl,List.length_cons,Nat.add_mul]; omega,fun j v hj=>?_,fun i y hy=>?_,fun v hv=>?_⟩
  ·by_cases hlt:j < us.length
   ·rw [List.getElem?_append_left hlt] at hj
    have:=h2 j v hj
    rwa [Nat.zero_mul,Nat.add_zero] at this
   ·rw [List.getElem?_append_right (by omega)] at hj
    have:=h4 _ v hj
    rwa [show off + t.sz + (j - us.length) = off + j by omega] at this
  ·cases i with
   | zero=>
    simp only [List.getElem?_cons_zero,Option.some.injEq] at hy; subst hy
    rw [Nat.zero_mul,List.drop_zero,← hl,List.take_left']
    ·exact h1
    ·rfl
   | succ i=>
    rw [Nat.add_mul,Nat.one_mul,Nat.add_comm,← hl,drop_app,hl]
    exact h5 i y (by simpa using hy)
  ·rcases List.mem_append.1 hv with hv | hv
   ·exact h1.oneCell v hv
   ·exact h6 v hv
theorem Rp.row {A:Pos} {w:World} {t:PT} {xs:List t.den} {a:Option Addr} {n c:Nat} (h:Rp A w (.lst t) xs [.slice a n c]) :
  ∃ flat:List Value,flat.length = xs.length * t.sz ∧ (∀ (j:Nat) v,flat[j]? = some v → ∃ g o,a = some ⟨g,o,none⟩ ∧ A g (o + j) ∧ w.cell? ⟨g,o + j,none⟩ = some v) ∧
   (∀ (i:Nat) x,xs[i]? = some x → Rp A w t x ((flat.drop (i * t.sz)).take t.sz)) ∧ ∀ v ∈ flat,v.oneCell' = true:=by
 obtain ⟨_,_,_,hx⟩:=rp_slice h
 have:=flat_of (A:=A) (w:=w) (C:=fun j v=>∃ g o,a = some ⟨g,o,none⟩ ∧ A g (o + j) ∧ w.cell? ⟨g,o + j,none⟩ = some v) xs 0 (fun i x hi=>by
  obtain ⟨g,o,us,h1,h2,h3⟩:=hx i x hi
  exact ⟨us,h2,fun j v hj=>⟨g,o,h1,by have:=(h3 j v hj).1; rwa [Nat.add_assoc,← Nat.zero_add (i * t.sz)] at this,by have:=(h3 j v hj).2; rwa [Nat.add_assoc,← Nat.zero_add (i * t.sz)] at this⟩⟩)
 simpa using this
def Cx.pushT (s:Cx) (w':World) (g0 m:Nat) (sl:Sl):Cx:={ A:=fun g o=>s.A g o ∨ (g = g0 ∧ o < m),w:=w',b:=s.b,s:=fun i=>if i = s.n then sl else s.s i,n:=s.n + 1 }
theorem St.mkTok0 {P:Program} {O:Ow} {A0:Pos} {w0:World} {s:Cx} {H:AHeap} (h:St P O A0 w0 s H) {w':World} {g0 n c:Nat} {e:TypeId} {cur:Array Value} {t:PT} {xs:List t.den} {flat:List Value}
  (hchg:Chg (· = g0) s.w w') (hblk:w'.heap[g0]? = some (.cells cur e (0,0))) (hnc:n ≤ c) (hcm:c ≤ maxLen) (hcs:cur.size = c * sizeP P e) (hsz:sizeP P e = t.sz) (hn:n = xs.length)
  (hflat:cur.toList.take (n * t.sz) = flat) (hfl:flat.length = n * t.sz) (hx:∀ (i:Nat) x,xs[i]? = some x → Rp s.A s.w t x ((flat.drop (i * t.sz)).take t.sz))
  (hold:∀ k,s.A g0 k → k < n * t.sz ∧ w'.cell? ⟨g0,k,none⟩ = s.w.cell? ⟨g0,k,none⟩) (hfree:∀ i o,H.c i o ≠ none → (s.b i).1 ≠ g0) (htok:∀ i e a,H.t i = some e → (s.s i).a = some a → a.block ≠ g0)
  (hO:s.w.heap.size ≤ g0 ∨ ∃ n0 cur0,n0 ≤ n ∧ (O.t g0 ∧ ∀ k,n0 * t.sz ≤ k → ¬ A0 g0 k) ∧ (∀ k,k < n0 * t.sz → s.A g0 k) ∧ s.w.heap[g0]? = some (.cells cur0 e (0,0))) :
  St P O A0 w0 (s.pushT w' g0 (n * t.sz) ⟨some ⟨g0,0,none⟩,n,c⟩) (H.setT s.n (some e)) ∧ Ext s (s.pushT w' g0 (n * t.sz) ⟨some ⟨g0,0,none⟩,n,c⟩) ∧
   RS (s.pushT w' g0 (n * t.sz) ⟨some ⟨g0,0,none⟩,n,c⟩) (.ls t xs s.n) (.slice (some ⟨g0,0,none⟩) n c):=by
 obtain ⟨s',hs'⟩:∃ s',s' = s.pushT w' g0 (n * t.sz) ⟨some ⟨g0,0,none⟩,n,c⟩:=⟨_,rfl⟩
 have hA:∀ g o,s'.A g o ↔ s.A g o ∨ (g = g0 ∧ o < n * t.sz):=fun g o=>by rw [hs']; exact Iff.rfl
 have hw:s'.w = w':=by rw [hs']; rfl
 have hb:s'.b = s.b:=by rw [hs']; rfl
 have hsn:s'.n = s.n + 1:=by rw [hs']; rfl
 have hso:∀ i,i < s.n → s'.s i = s.s i:=fun i hi=>by rw [hs']; simp [Cx.pushT,Nat.ne_of_lt hi]
 have hsm:s'.s s.n = ⟨some ⟨g0,0,none⟩,n,c⟩:=by rw [hs']; simp [Cx.pushT]
 rw [← hs']
 have some_of:∀ {α:Type} {x:Option α},x ≠ none → ∃ y,x = some y:=fun {α x} hx=>by cases x <;> first | exact absurd rfl hx | exact ⟨_,rfl⟩
 have hx0:Ext s s':=⟨fun g o hg=>⟨(hA g o).2 (.inl hg),by
   rw [hw]
   by_cases hgg:g = g0
   ·subst hgg; exact (hold o hg).2
   ·exact World.cell?_of_block (hchg.block g (h.hr.low g o hg) hgg)⟩,fun i hi=>by rw [hb],fun i hi=>hso i hi,by omega⟩
 have old:∀ i o av,H.c i o = some av → i < s.n ∧ (s.b i).1 < s.w.heap.size ∧ (s.b i).1 ≠ g0:=fun i o av hi=>by
  obtain ⟨h1,_,⟨v,h2,_⟩,_⟩:=h.hr.cell i o av hi
  exact ⟨h1,block_lt h2,hfree i o (by rw [hi]; exact fun h=>by cases h)⟩
 have tl:∀ i e,H.t i = some e → i < s.n ∧ ∀ a,(s.s i).a = some a → a.block < s.w.heap.size:=fun i e hi=>by
  obtain ⟨h1,h2⟩:=h.hr.tok i e hi
  refine ⟨h1,fun a ha=>?_⟩
  rcases h2 with h2 | ⟨g,cur,h3,h4,_⟩
  ·rw [h2] at ha; cases ha
  ·rw [h3] at ha; cases ha; exact lt_of_heap h4
 have tsplit:∀ i f,(H.setT s.n (some e)).t i = some f → (i = s.n ∧ f = e) ∨ (i < s.n ∧ H.t i = some f):=fun i f hi=>by
  rw [setT_t] at hi
  by_cases hq:i = s.n
  ·rw [if_pos hq] at hi; cases hi; exact .inl ⟨hq,rfl⟩
  ·rw [if_neg hq] at hi; exact .inr ⟨(tl i f hi).1,hi⟩
 have hcell:∀ k,k < n * t.sz → w'.cell? ⟨g0,k,none⟩ = flat[k]?:=fun k hk=>by
  rw [cell_of_row w' g0 k cur e (0,0) hblk,← hflat,List.getElem?_take,if_pos hk]; simp
 refine ⟨⟨⟨fun g o hg=>?_,fun i o av hi=>?_,fun i o j p hi hj=>?_,fun i f hi=>?_,fun i f j o hi hj a ha=>?_,fun i j f f' hi hj hne a c' ha hc=>?_⟩,fun i o hi=>?_,fun i f a hi ha=>?_,h.fr.trans ?_,h.new,fun g o hg=>?_,fun g o hg=>?_⟩,hx0,?_⟩
 ·rw [hw]
  rcases (hA g o).1 hg with hg | ⟨rfl,_⟩
  ·exact Nat.lt_of_lt_of_le (h.hr.low g o hg) hchg.size
  ·exact lt_of_heap hblk
 ·have hi:H.c i o = some av:=hi
  obtain ⟨h1,h2,h3⟩:=old i o av hi
  obtain ⟨_,h4,⟨v,h5,h6⟩,h7,h8⟩:=h.hr.cell i o av hi
  have hbk:=hchg.block _ h2 h3
  rw [hw,hb]
  refine ⟨by omega,h4,⟨v,(World.cell?_of_block hbk).trans h5,h6.ext hx0⟩,(World.frozen?_of_block hbk).trans h7,fun hA'=>?_⟩
  rcases (hA _ _).1 hA' with hA' | ⟨hg,_⟩
  ·exact h8 hA'
  ·exact h3 hg
 ·rw [hb]; exact h.hr.inj i o j p hi hj
 ·rcases tsplit i f hi with ⟨rfl,rfl⟩ | ⟨hlt,hi⟩
  ·refine ⟨by omega,.inr ⟨g0,cur,?_,?_,?_,?_,?_,fun k hk hA'=>?_⟩⟩
   ·rw [hsm]
   ·rw [hw]; exact hblk
   ·rw [hsm]; exact hnc
   ·rw [hsm]; exact hcm
   ·rw [hsm]; exact hcs
   ·rw [hsm] at hk
    have hk:n * t.sz ≤ k:=by rw [← hsz]; exact hk
    rcases (hA _ _).1 hA' with hA' | ⟨_,hg⟩
    ·have:=(hold k hA').1; omega
    ·omega
  ·obtain ⟨h1,h2⟩:=h.hr.tok i f hi
   refine ⟨by omega,?_⟩
   rw [hso i hlt,hw]
   refine h2.keep (fun a ha=>hchg.block _ ((tl i f hi).2 a ha) (htok i f a hi ha)) (fun a ha k hk hA'=>?_)
   rcases (hA _ _).1 hA' with hA' | ⟨hg,_⟩
   ·exact hA'
   ·exact absurd hg (htok i f a hi ha)
 ·have hj:H.c j o ≠ none:=hj
  obtain ⟨av,hv⟩:=some_of hj
  rw [hb]
  rcases tsplit i f hi with ⟨rfl,rfl⟩ | ⟨hlt,hi⟩
  ·rw [hsm] at ha; cases ha
   exact fun he=>(old j o av hv).2.2 he.symm
  ·rw [hso i hlt] at ha
   exact h.hr.apart i f j o hi hj a ha
 ·rcases tsplit i f hi with ⟨e1,e2⟩ | ⟨hlt,hi'⟩ <;> rcases tsplit j f' hj with ⟨e3,e4⟩ | ⟨hlt',hj'⟩
  ·exact absurd (e1.trans e3.symm) hne
  ·rw [e1,hsm] at ha; cases ha
   rw [hso j hlt'] at hc
   exact fun he=>htok j f' c' hj' hc he.symm
  ·rw [e3,hsm] at hc; cases hc
   rw [hso i hlt] at ha
   exact htok i f a hi' ha
  ·rw [hso i hlt] at ha
   rw [hso j hlt'] at hc
   exact h.hr.tinj i j f f' hi' hj' hne a c' ha hc
 ·rw [hb]; exact h.own i o hi
 ·rcases tsplit i f hi with ⟨rfl,rfl⟩ | ⟨hlt,hi⟩
  ·rw [hsm] at ha; cases ha
   rcases hO with hO | ⟨n0,cur0,h1,h2,_⟩
   ·exact (h.new _ (Nat.le_trans h.fr.size hO)).1
   ·exact h2.1
  ·rw [hso i hlt] at ha
   exact h.tok i f a hi ha
 ·rw [hw]
  refine ⟨hchg.os,hchg.tape,hchg.output,hchg.size,fun g o hg ho=>?_,fun g hg ho=>?_⟩
  ·by_cases hgg:g = g0
   ·subst hgg
    rcases hO with hO | ⟨n0,cur0,h1,h2,h3,h4⟩
    ·omega
    ·have hk:o < n0 * t.sz:=by
      by_cases hq:o < n0 * t.sz
      ·exact hq
      ·exact absurd (.inr ⟨h2.1,h2.2 o (by omega)⟩) ho
     refine ⟨(hold o (h3 o hk)).2,?_⟩
     have f1:=frozenOf (k:=o) hblk
     have f2:=frozenOf (k:=o) h4
     rw [mk_add,Nat.zero_add] at f1 f2
     rw [f1,f2]
   ·have:=hchg.block g hg hgg
    exact ⟨World.cell?_of_block this,World.frozen?_of_block this⟩
  ·by_cases hgg:g = g0
   ·subst hgg
    rcases hO with hO | ⟨n0,cur0,h1,h2,h3,h4⟩
    ·omega
    ·exact absurd (.inr ⟨h2.1,h2.2 _ (Nat.le_refl _)⟩) (ho _)
   ·exact hchg.block g hg hgg
 ·rcases (hA _ _).1 hg with hg | ⟨rfl,hk⟩
  ·exact h.an g o hg
  ·rcases hO with hO | ⟨n0,cur0,h1,h2,h3,h4⟩
   ·exact .inr (.inl ((h.new _ (Nat.le_trans h.fr.size hO)).2 _))
   ·by_cases hq:o < n0 * t.sz
    ·exact h.an _ _ (h3 o hq)
    ·exact .inr (.inr ⟨h2.1,h2.2 o (by omega)⟩)
 ·obtain ⟨h1,h2⟩:=h.sub g o hg
  exact ⟨(hx0.sub g o h1).1,(hx0.sub g o h1).2.trans h2⟩
 ·refine RS.one ⟨[.slice (some ⟨g0,0,none⟩) n c],⟨by omega,by rw [hsm],⟨_,_,_,rfl,hn,hnc,hcm,fun i x hi=>⟨g0,0,_,rfl,(hx i x hi).ext hx0.sub,fun j v hj=>?_⟩⟩⟩,by rw [pack_one rfl]⟩
  rw [List.getElem?_take] at hj
  split at hj
  ·rename_i hjlt
   rw [List.getElem?_drop] at hj
   have hlt:=(List.getElem?_eq_some_iff.1 hj).1
   rw [hfl] at hlt
   rw [Nat.zero_add]
   exact ⟨(hA _ _).2 (.inr ⟨rfl,hlt⟩),by rw [hw,hcell _ hlt]; exact hj⟩
  ·cases hj
theorem St.mkTok {P:Program} {O:Ow} {A0:Pos} {w0:World} {s:Cx} {H:AHeap} (h:St P O A0 w0 s H) {w':World} {g0 n c:Nat} {e:TypeId} {cur:Array Value} {t:PT} {xs:List t.den} {flat:List Value}
  (hchg:Chg (· = g0) s.w w') (hblk:w'.heap[g0]? = some (.cells cur e (0,0))) (hnc:n ≤ c) (hcm:c ≤ maxLen) (hcs:cur.size = c * sizeP P e) (hsz:sizeP P e = t.sz) (hn:n = xs.length)
  (hflat:cur.toList.take (n * t.sz) = flat) (hfl:flat.length = n * t.sz) (hx:∀ (i:Nat) x,xs[i]? = some x → Rp s.A s.w t x ((flat.drop (i * t.sz)).take t.sz))
  (hold:∀ k,s.A g0 k → k < n * t.sz ∧ w'.cell? ⟨g0,k,none⟩ = s.w.cell? ⟨g0,k,none⟩) (hfree:∀ i o,H.c i o ≠ none → (s.b i).1 ≠ g0) (htok:∀ i e a,H.t i = some e → (s.s i).a = some a → a.block ≠ g0)
  (hO:s.w.heap.size ≤ g0 ∨ ∃ n0 cur0,n0 ≤ n ∧ (O.t g0 ∧ ∀ k,n0 * t.sz ≤ k → ¬ A0 g0 k) ∧ (∀ k,k < n0 * t.sz → s.A g0 k) ∧ s.w.heap[g0]? = some (.cells cur0 e (0,0))) :
  ∃ s',s'.w = w' ∧ s'.n = s.n + 1 ∧ s'.b = s.b ∧ St P O A0 w0 s' (H.setT s.n (some e)) ∧ Ext s s' ∧ RS s' (.ls t xs s.n) (.slice (some ⟨g0,0,none⟩) n c):=by
 obtain ⟨h1,h2,h3⟩:=h.mkTok0 hchg hblk hnc hcm hcs hsz hn hflat hfl hx hold hfree htok hO
 exact ⟨s.pushT w' g0 (n * t.sz) ⟨some ⟨g0,0,none⟩,n,c⟩,rfl,rfl,rfl,h1,h2,h3⟩
theorem HR.keep {P:Program} {s:Cx} {H:AHeap} (h:HR P s H) {w':World} {g0:Nat} (hc:Chg (· = g0) s.w w') (hf:∀ i o,H.c i o ≠ none → (s.b i).1 ≠ g0) :
  ∀ i o,H.c i o ≠ none → w'.cell? ⟨(s.b i).1,(s.b i).2 + o,none⟩ = s.w.cell? ⟨(s.b i).1,(s.b i).2 + o,none⟩:=fun i o hi=>by
 cases hv:H.c i o with
 | none=>exact absurd hv hi
 | some av=>
  obtain ⟨_,_,⟨v,k1,_⟩,_⟩:=h.cell i o av hv
  exact World.cell?_of_block (hc.block _ (block_lt k1) (hf i o hi))
theorem HR.keepN {P:Program} {s:Cx} {H:AHeap} (h:HR P s H) {w':World} (hc:Chg Nil s.w w') :
  ∀ i o,H.c i o ≠ none → w'.cell? ⟨(s.b i).1,(s.b i).2 + o,none⟩ = s.w.cell? ⟨(s.b i).1,(s.b i).2 + o,none⟩:=fun i o hi=>by
 cases hv:H.c i o with
 | none=>exact absurd hv hi
 | some av=>
  obtain ⟨_,_,⟨v,k1,_⟩,_⟩:=h.cell i o av hv
  exact World.cell?_of_block (hc.block _ (block_lt k1) (fun h=>h))
theorem St.nilTok {P:Program} {O:Ow} {A0:Pos} {w0:World} {s:Cx} {H:AHeap} (h:St P O A0 w0 s H) (e:TypeId) (t:PT) :
  ∃ s',s'.w = s.w ∧ s'.n = s.n + 1 ∧ s'.b = s.b ∧ St P O A0 w0 s' (H.setT s.n (some e)) ∧ Ext s s' ∧ RS s' (.ls t [] s.n) (.slice none 0 0):=by
 obtain ⟨s',hs'⟩:∃ s':Cx,s' = { A:=s.A,w:=s.w,b:=s.b,s:=fun i=>if i = s.n then ⟨none,0,0⟩ else s.s i,n:=s.n + 1 }:=⟨_,rfl⟩
 have hA:s'.A = s.A:=by rw [hs']
 have hw:s'.w = s.w:=by rw [hs']
 have hb:s'.b = s.b:=by rw [hs']
 have hsn:s'.n = s.n + 1:=by rw [hs']
 have hso:∀ i,i < s.n → s'.s i = s.s i:=fun i hi=>by rw [hs']; simp [Nat.ne_of_lt hi]
 have hsm:s'.s s.n = ⟨none,0,0⟩:=by rw [hs']; simp
 have hx0:Ext s s':=⟨fun g o hg=>⟨by rw [hA]; exact hg,by rw [hw]⟩,fun i hi=>by rw [hb],fun i hi=>hso i hi,by omega⟩
 have tsplit:∀ i f,(H.setT s.n (some e)).t i = some f → (i = s.n ∧ f = e) ∨ (i < s.n ∧ H.t i = some f):=fun i f hi=>by
  rw [setT_t] at hi
  by_cases hq:i = s.n
  ·rw [if_pos hq] at hi; cases hi; exact .inl ⟨hq,rfl⟩
  ·rw [if_neg hq] at hi; exact .inr ⟨(h.hr.tok i f hi).1,hi⟩
 refine ⟨s',hw,hsn,hb,⟨⟨?_,fun i o av hi=>?_,?_,fun i f hi=>?_,fun i f j o hi hj a ha=>?_,fun i j f f' hi hj hne a c' ha hc=>?_⟩,?_,fun i f a hi ha=>?_,?_,h.new,?_,?_⟩,hx0,?_⟩
 ·rw [hA,hw]; exact h.hr.low
 ·obtain ⟨h1,h4,⟨v,h5,h6⟩,h7,h8⟩:=h.hr.cell i o av hi
  rw [hw,hb,hA]
  exact ⟨by omega,h4,⟨v,h5,h6.ext hx0⟩,h7,h8⟩
 ·rw [hb]; exact h.hr.inj
 ·rcases tsplit i f hi with ⟨e1,e2⟩ | ⟨hlt,hi'⟩
  ·rw [e1,hsm]; exact ⟨by omega,.inl rfl⟩
  ·obtain ⟨h1,h2⟩:=h.hr.tok i f hi'
   rw [hso i hlt,hw,hA]; exact ⟨by omega,h2⟩
 ·rcases tsplit i f hi with ⟨e1,e2⟩ | ⟨hlt,hi'⟩
  ·rw [e1,hsm] at ha; cases ha
  ·rw [hso i hlt] at ha; rw [hb]; exact h.hr.apart i f j o hi' hj a ha
 ·rcases tsplit i f hi with ⟨e1,e2⟩ | ⟨hlt,hi'⟩ <;> rcases tsplit j f' hj with ⟨e3,e4⟩ | ⟨hlt',hj'⟩
  ·exact absurd (e1.trans e3.symm) hne
  ·rw [e1,hsm] at ha; cases ha
  ·rw [e3,hsm] at hc; cases hc
  ·rw [hso i hlt] at ha
   rw [hso j hlt'] at hc
   exact h.hr.tinj i j f f' hi' hj' hne a c' ha hc
 ·rw [hb]; exact h.own
 ·rcases tsplit i f hi with ⟨e1,e2⟩ | ⟨hlt,hi'⟩
  ·rw [e1,hsm] at ha; cases ha
  ·rw [hso i hlt] at ha; exact h.tok i f a hi' ha
 ·rw [hw]; exact h.fr
 ·rw [hA]; exact h.an
 ·rw [hA,hw]; exact h.sub
 ·refine RS.one ⟨[.slice none 0 0],⟨by omega,by rw [hsm],⟨_,_,_,rfl,rfl,Nat.le_refl _,Nat.zero_le _,fun i x hi=>by simp at hi⟩⟩,by rw [pack_one rfl]⟩
theorem St.dropT {P:Program} {O:Ow} {A0:Pos} {w0:World} {s:Cx} {H:AHeap} (h:St P O A0 w0 s H) (i:Nat):St P O A0 w0 s (H.setT i none):=by
 have hs:∀ j f,(H.setT i none).t j = some f → j ≠ i ∧ H.t j = some f:=fun j f hj=>by
  rw [setT_t] at hj
  by_cases hq:j = i
  ·rw [if_pos hq] at hj; cases hj
  ·rw [if_neg hq] at hj; exact ⟨hq,hj⟩
 exact ⟨⟨h.hr.low,h.hr.cell,h.hr.inj,fun j f hj=>h.hr.tok j f (hs j f hj).2,fun j f k o hj=>h.hr.apart j f k o (hs j f hj).2,fun j k f f' hj hk=>h.hr.tinj j k f f' (hs j f hj).2 (hs k f' hk).2⟩,
  h.own,fun j f a hj=>h.tok j f a (hs j f hj).2,h.fr,h.new,h.an,h.sub⟩
theorem St.newTok {P:Program} {O:Ow} {A0:Pos} {w0:World} {s:Cx} {H:AHeap} (h:St P O A0 w0 s H) {w1:World} (hw1:w1.heap = s.w.heap) (h1:w1.os = s.w.os) (h2:w1.tape = s.w.tape) (h3:w1.output = s.w.output) {n c:Nat} {e:TypeId} {cur:Array Value} {t:PT} {xs:List t.den}
  (hnc:n ≤ c) (hcm:c ≤ maxLen) (hcs:cur.size = c * sizeP P e) (hsz:sizeP P e = t.sz) (hn:n = xs.length)
  (hx:∀ (i:Nat) x,xs[i]? = some x → Rp s.A s.w t x (((cur.toList.take (n * t.sz)).drop (i * t.sz)).take t.sz)) :
  ∃ s',s'.w = w1.alloc (.cells cur e) ∧ s'.n = s.n + 1 ∧ s'.b = s.b ∧ St P O A0 w0 s' (H.setT s.n (some e)) ∧ Ext s s' ∧ RS s' (.ls t xs s.n) (.slice (some ⟨s.w.heap.size,0,none⟩) n c):=by
 have hsize:w1.heap.size = s.w.heap.size:=by rw [hw1]
 have hchg:Chg (· = s.w.heap.size) s.w (w1.alloc (.cells cur e)):=⟨h1,h2,h3,by simp [hsize],fun k hk _=>by rw [heap_alloc_old _ _ _ (by omega),hw1]⟩
 have hblk:(w1.alloc (.cells cur e)).heap[s.w.heap.size]? = some (.cells cur e (0,0)):=by rw [← hsize]; exact heap_alloc_new w1 _
 have hle:n * t.sz ≤ cur.toList.length:=by rw [Array.length_toList,hcs,hsz]; exact Nat.mul_le_mul_right _ hnc
 obtain ⟨h4,h5,h6⟩:=h.mkTok0 (flat:=cur.toList.take (n * t.sz)) hchg hblk hnc hcm hcs hsz hn rfl (by rw [List.length_take]; omega) hx (fun k hk=>absurd (h.hr.low _ _ hk) (by simp)) (fun i o hi=>by
   cases hv:H.c i o with
   | none=>exact absurd hv hi
   | some av=>
    obtain ⟨_,_,⟨v,h2,_⟩,_⟩:=h.hr.cell i o av hv
    exact Nat.ne_of_lt (block_lt h2)) (fun i f a hi ha=>by
   rcases (h.hr.tok i f hi).2 with h2 | ⟨g,cur,h3,h4,_⟩
   ·rw [h2] at ha; cases ha
   ·rw [h3] at ha; cases ha; exact Nat.ne_of_lt (lt_of_heap h4)) (.inl (Nat.le_refl _))
 exact ⟨s.pushT (w1.alloc (.cells cur e)) s.w.heap.size (n * t.sz) ⟨some ⟨s.w.heap.size,0,none⟩,n,c⟩,rfl,rfl,rfl,h4,h5,h6⟩
end Go.Proofs.YtpifnlfmojfgpaaGreatDoor.Pw
end
section
namespace Go.Proofs.YtpifnlfmojfgpaaGreatDoor.Pw
open Fw RowKit
theorem St.grow {P:Program} {O:Ow} {A0:Pos} {w0:World} {s:Cx} {H:AHeap} (h:St P O A0 w0 s H) {w':World} (hc:Chg Nil s.w w'):St P O A0 w0 (s.wr w') H ∧ Ext s (s.wr w'):=by
 have hb:∀ g,g < s.w.heap.size → w'.heap[g]? = s.w.heap[g]?:=fun g hg=>hc.block g hg fun h=>h
 have hx:Ext s (s.wr w'):=⟨fun g o hg=>⟨hg,World.cell?_of_block (hb g (h.hr.low g o hg))⟩,fun _ _=>rfl,fun _ _=>rfl,Nat.le_refl _⟩
 refine ⟨⟨⟨fun g o hg=>Nat.lt_of_lt_of_le (h.hr.low g o hg) hc.size,fun i o av hi=>?_,h.hr.inj,fun i e hi=>?_,h.hr.apart,h.hr.tinj⟩,h.own,h.tok,h.fr.trans (Fr.of_chg hc fun _ _ h=>h.elim),h.new,h.an,fun g o hg=>?_⟩,hx⟩
 ·obtain ⟨h1,h2,⟨v,h3,h4⟩,h5,h6⟩:=h.hr.cell i o av hi
  have:=hb _ (block_lt h3)
  exact ⟨h1,h2,⟨v,(World.cell?_of_block this).trans h3,h4.ext hx⟩,(World.frozen?_of_block this).trans h5,h6⟩
 ·obtain ⟨h1,h2⟩:=h.hr.tok i e hi
  refine ⟨h1,h2.keep (fun a ha=>?_) (fun _ _ _ _ h=>h)⟩
  rcases h2 with h2 | ⟨g,cur,h3,h4,_⟩
  ·rw [h2] at ha; cases ha
  ·rw [h3] at ha; cases ha; exact hb _ (lt_of_heap h4)
 ·obtain ⟨h1,h2⟩:=h.sub g o hg
  exact ⟨h1,(hx.sub g o h1).2.trans h2⟩
theorem row_cur {w:World} {B:Nat} {e:TypeId} {sz g n c:Nat} {flat:List Value} (h:w.ownsRow B e sz (.slice (some ⟨g,0,none⟩) n c) n flat) :
  ∃ cur,w.heap[g]? = some (.cells cur e (0,0)) ∧ n ≤ c ∧ c ≤ maxLen ∧ cur.size = c * sz ∧ cur.toList.take (n * sz) = flat ∧ flat.length = n * sz ∧ B ≤ g:=by
 rcases h.2 with ⟨hh,_⟩ | ⟨g',cap',cur,hh,hb,hg,h1,h2,h3,h4⟩
 ·simp at hh
 ·simp only [Value.slice.injEq,Option.some.injEq,Addr.mk.injEq,and_true,true_and] at hh
  obtain ⟨rfl,rfl⟩:=hh
  exact ⟨cur,hg,h1,h2,h3,h4,h.1,hb⟩
theorem append_none {P:Program} {w:World} (t ty e:TypeId) (i:TypeInfo) (ht:P.underlying t = some (.slice e)) (hi:P.info? e = some i) (v:Value) (c:Nat) (hv:v = .slice none 0 0 ∨ ∃ a n c,v = .slice (some a) n c ∧ n ≤ c) :
  (Builtin.append_ #[t,t] ty #[v,.slice none 0 c]).run P w = .ok v w:=by
 rcases hv with rfl | ⟨a,n,c',rfl,hnc⟩
 ·simp [Builtin.append_,run_underlying ht,sizeOf,typeInfo,hi,Builtin.lenOf,Builtin.firstCells]
 ·simp [Builtin.append_,run_underlying ht,sizeOf,typeInfo,hi,Builtin.lenOf,Builtin.firstCells,hnc,storeCells]
theorem flat_app {A:Pos} {w:World} {t:PT} {xs ys:List t.den} {fx fy:List Value} (hlx:fx.length = xs.length * t.sz) (hx:∀ (i:Nat) x,xs[i]? = some x → Rp A w t x ((fx.drop (i * t.sz)).take t.sz))
  (hy:∀ (i:Nat) x,ys[i]? = some x → Rp A w t x ((fy.drop (i * t.sz)).take t.sz)):∀ (i:Nat) x,(xs ++ ys)[i]? = some x → Rp A w t x (((fx ++ fy).drop (i * t.sz)).take t.sz):=fun i x hi=>by
 by_cases hlt:i < xs.length
 ·rw [List.getElem?_append_left hlt] at hi
  have h1:(i + 1) * t.sz ≤ fx.length:=by rw [hlx]; exact Nat.mul_le_mul_right _ hlt
  rw [Nat.add_mul,Nat.one_mul] at h1
  rw [List.drop_append_of_le_length (by omega),List.take_append_of_le_length (by rw [List.length_drop]; omega)]
  exact hx i x hi
 ·rw [List.getElem?_append_right (by omega)] at hi
  have:=hy _ x hi
  have he:i * t.sz = fx.length + (i - xs.length) * t.sz:=by rw [hlx,← Nat.add_mul]; congr 1; omega
  rw [he,drop_app]; exact this
def OldOk (P:Program) (s:Cx) (H:AHeap) (e:TypeId) (t:PT) (xs:List t.den) (v:Value) (H1:AHeap):Prop:=
 (v = .slice none 0 0 ∧ xs = [] ∧ H1 = H) ∨ ∃ id,H.t id = some e ∧ v = (s.s id).v ∧ Rp s.A s.w (.lst t) xs [v] ∧ H1 = H.setT id none
theorem append_ok {P:Program} {O:Ow} {A0:Pos} {w0:World} {s:Cx} {H H1:AHeap} (h:St P O A0 w0 s H) {st ty e:TypeId} {t:PT} (ok:slOk P st e t.sz 2048 = true) (hsz:0 < t.sz) {xs ys:List t.den} {v u:Value}
  (hv:OldOk P s H e t xs v H1) (hu:Rp s.A s.w (.lst t) ys [u]) (hb:xs.length + ys.length ≤ 68719476736) :
  ∃ s' r,(Builtin.append_ #[st,st] ty #[v,u]).run P s.w = .ok r s'.w ∧ s'.n = s.n + 1 ∧ s'.b = s.b ∧ St P O A0 w0 s' (H1.setT s.n (some e)) ∧ Ext s s' ∧ RS s' (.ls t (xs ++ ys) s.n) r ∧
   (∀ i o,H.c i o ≠ none → s'.w.cell? ⟨(s.b i).1,(s.b i).2 + o,none⟩ = s.w.cell? ⟨(s.b i).1,(s.b i).2 + o,none⟩):=by
 obtain ⟨i,z,k1,k2,k3,k4,k5,k6⟩:=slOk_spec ok
 have hszp:sizeP P e = t.sz:=by unfold sizeP; rw [k2]; exact k3
 obtain ⟨ua,um,uc,rfl⟩:∃ ua um uc,u = .slice ua um uc:=by
  obtain ⟨ua,um,uc,he,_⟩:=hu
  exact ⟨ua,um,uc,by simpa using he⟩
 have hum:=(rp_slice hu).1
 obtain ⟨fy,hly,hcy,hry,hoy⟩:=hu.row
 have hnews:∀ a,ua = some a → ∀ (j:Nat) w,fy[j]? = some w → s.w.cell? (a.add j) = some w:=fun a ha j w hj=>by
  obtain ⟨g,o,h1,_,h2⟩:=hcy j w hj
  rw [ha] at h1; cases h1
  rw [mk_add]; exact h2
 have hmax:maxLen = 9223372036854775807:=rfl
 have hbytes:∀ n,n = xs.length → (n + um) * i.bytes ≤ 140737488355328:=fun n hn=>by
  have h1:n + um ≤ 68719476736:=by omega
  calc (n + um) * i.bytes ≤ 68719476736 * 2048:=Nat.mul_le_mul h1 k4
   _ ≤ 140737488355328:=by decide
 rcases hv with ⟨rfl,rfl,rfl⟩ | ⟨id,hid,rfl,hrv,rfl⟩
 · -- nil
  cases ua with
  | none=>
   have hys:ys = []:=by
    cases ys with
    | nil=>rfl
    | cons y ys=>
     obtain ⟨_,_,_,hx⟩:=rp_slice hu
     obtain ⟨g,o,us,ha,_⟩:=hx 0 y rfl
     cases ha
   subst hys
   obtain ⟨s',h1,h2,h3,h4,h5,h6⟩:=h.nilTok e t
   refine ⟨s',.slice none 0 0,?_,h2,h3,h4,h5,h6,fun i o _=>by rw [h1]⟩
   rw [h1]
   have:um = 0:=hum
   subst this
   exact append_none st ty e i k1 k2 _ uc (.inl rfl)
  | some a=>
   obtain ⟨v',w',hr,ho,hg,hnil⟩:=run_append_own (P:=P) s.w s.w.heap.size st ty e i z t.sz i.bytes k1 k2 k5 k3 rfl k6 hsz (.slice none 0 0) 0 [] (s.w.ownsRow_nil _ e t.sz) a um uc fy (by rw [hly,hum]) (hnews a rfl) hoy (by omega) (hbytes 0 rfl) (Nat.le_refl _)
   rw [Nat.zero_add,List.nil_append] at ho
   have hchg:Chg Nil s.w w':=Chg.grown hg fun k hk=>by simp [Value.ownBlock] at hk
   rcases ho.2 with ⟨hv,h0⟩ | ⟨g',cap,cur',hv,hge,_⟩
   ·have hys:ys = []:=List.eq_nil_of_length_eq_zero (by omega)
    subst hys
    obtain ⟨h1,h2⟩:=h.grow hchg
    obtain ⟨s',h3,h4,h5,h6,h7,h8⟩:=h1.nilTok e t
    exact ⟨s',v',by rw [h3]; exact hr,h4,h5,h6,h2.trans h7,by rw [hv]; exact h8,fun i o hi=>by rw [h3]; exact h.hr.keepN hchg i o hi⟩
   ·subst hv
    obtain ⟨cur,c1,c2,c3,c4,c5,c6,_⟩:=row_cur ho
    obtain ⟨s',h1,h2,h3,h4,h5,h6⟩:=h.mkTok (t:=t) (xs:=ys) (flat:=fy) (hchg.mono fun _ _ h=>h.elim) c1 c2 c3 (by rw [hszp]; exact c4) hszp hum c5 c6 hry (fun k hk=>absurd (h.hr.low _ _ hk) (by omega)) (fun i o hi=>by
      cases hv:H1.c i o with
      | none=>exact absurd hv hi
      | some av=>
       obtain ⟨_,_,⟨v,h2,_⟩,_⟩:=h.hr.cell i o av hv
       have:=block_lt h2
       omega) (fun i f a hi ha=>by
      rcases (h.hr.tok i f hi).2 with h2 | ⟨g,cur,h3,h4,_⟩
      ·rw [h2] at ha; cases ha
      ·rw [h3] at ha; cases ha
       have:=lt_of_heap h4
       show g ≠ g'
       omega) (.inl hge)
    exact ⟨s',_,by rw [h1]; exact hr,h2,h3,h4,h5,h6,fun i o hi=>by rw [h1]; exact h.hr.keepN hchg i o hi⟩
 · -- an own list
  obtain ⟨_,htail⟩:=h.hr.tok id e hid
  have hd:=h.dropT id
  rcases htail with hnil | ⟨g,cur,ha,hcur,hnc,hcm,hcs,hfree⟩
  · -- it is nil
   have hxs:xs = []:=by
    rw [hnil] at hrv
    have:=(rp_slice hrv).1
    exact List.eq_nil_of_length_eq_zero this.symm
   subst hxs
   have hv:(s.s id).v = .slice none 0 0:=by rw [hnil]
   cases ua with
   | none=>
    have hys:ys = []:=by
     cases ys with
     | nil=>rfl
     | cons y ys=>
      obtain ⟨_,_,_,hx⟩:=rp_slice hu
      obtain ⟨g,o,us,ha,_⟩:=hx 0 y rfl
      cases ha
    subst hys
    obtain ⟨s',h1,h2,h3,h4,h5,h6⟩:=hd.nilTok e t
    refine ⟨s',.slice none 0 0,?_,h2,h3,h4,h5,h6,fun i o _=>by rw [h1]⟩
    rw [h1,hv]
    have:um = 0:=hum
    subst this
    exact append_none st ty e i k1 k2 _ uc (.inl rfl)
   | some a=>
    obtain ⟨v',w',hr,ho,hg,hnil'⟩:=run_append_own (P:=P) s.w s.w.heap.size st ty e i z t.sz i.bytes k1 k2 k5 k3 rfl k6 hsz (.slice none 0 0) 0 [] (s.w.ownsRow_nil _ e t.sz) a um uc fy (by rw [hly,hum]) (hnews a rfl) hoy (by omega) (hbytes 0 rfl) (Nat.le_refl _)
    rw [Nat.zero_add,List.nil_append] at ho
    rw [← hv] at hr
    have hchg:Chg Nil s.w w':=Chg.grown hg fun k hk=>by simp [Value.ownBlock] at hk
    rcases ho.2 with ⟨hv',h0⟩ | ⟨g',cap,cur',hv',hge,_⟩
    ·have hys:ys = []:=List.eq_nil_of_length_eq_zero (by omega)
     subst hys
     obtain ⟨h1,h2⟩:=hd.grow hchg
     obtain ⟨s',h3,h4,h5,h6,h7,h8⟩:=h1.nilTok e t
     exact ⟨s',v',by rw [h3]; exact hr,h4,h5,h6,h2.trans h7,by rw [hv']; exact h8,fun i o hi=>by rw [h3]; exact h.hr.keepN hchg i o hi⟩
    ·subst hv'
     obtain ⟨cur,c1,c2,c3,c4,c5,c6,_⟩:=row_cur ho
     obtain ⟨s',h1,h2,h3,h4,h5,h6⟩:=hd.mkTok (t:=t) (xs:=ys) (flat:=fy) (hchg.mono fun _ _ h=>h.elim) c1 c2 c3 (by rw [hszp]; exact c4) hszp hum c5 c6 hry (fun k hk=>absurd (h.hr.low _ _ hk) (by omega)) (fun i o hi=>by
       cases hv:H.c i o with
       | none=>exact absurd hv hi
       | some av=>
        obtain ⟨_,_,⟨v,h2,_⟩,_⟩:=h.hr.cell i o av hv
        have:=block_lt h2
        omega) (fun i f a hi ha=>by
       rcases (hd.hr.tok i f hi).2 with h2 | ⟨g,cur,h3,h4,_⟩
       ·rw [h2] at ha; cases ha
       ·rw [h3] at ha; cases ha
        have:=lt_of_heap h4
        show g ≠ g'
        omega) (.inl hge)
     exact ⟨s',_,by rw [h1]; exact hr,h2,h3,h4,h5,h6,fun i o hi=>by rw [h1]; exact h.hr.keepN hchg i o hi⟩
  · -- it has a block
   have hv:(s.s id).v = .slice (some ⟨g,0,none⟩) (s.s id).n (s.s id).c:=by simp only [Sl.v]; rw [ha]
   rw [hv] at hrv
   obtain ⟨fx,hlx,hcx,hrx,hox⟩:=hrv.row
   have hn:=(rp_slice hrv).1
   rw [hszp] at hcs hfree
   have hcx':∀ (j:Nat) w,fx[j]? = some w → s.A g j ∧ s.w.cell? ⟨g,j,none⟩ = some w:=fun j w hj=>by
    obtain ⟨g',o',h1,h2,h3⟩:=hcx j w hj
    cases h1
    rw [Nat.zero_add] at h2 h3
    exact ⟨h2,h3⟩
   have htake:cur.toList.take ((s.s id).n * t.sz) = fx:=by
    apply List.ext_getElem?
    intro j
    by_cases hj:j < fx.length
    ·have:=(hcx' j _ (List.getElem?_eq_getElem hj)).2
     rw [cell_of_row s.w g j cur e (0,0) hcur] at this
     rw [List.getElem?_take,if_pos (by rw [hn,← hlx]; exact hj),List.getElem?_eq_getElem hj,← this]; simp
    ·rw [List.getElem?_eq_none (by rw [List.length_take]; rw [hn,← hlx]; omega),List.getElem?_eq_none (by omega)]
   have hrow:s.w.ownsRow 0 e t.sz (.slice (some ⟨g,0,none⟩) (s.s id).n (s.s id).c) (s.s id).n fx:=⟨by rw [hlx,hn],.inr ⟨g,(s.s id).c,cur,rfl,Nat.zero_le _,hcur,hnc,hcm,hcs,htake⟩⟩
   have hfree1:∀ i o,H.c i o ≠ none → (s.b i).1 ≠ g:=fun i o hi he=>h.hr.apart id e i o hid hi _ ha he.symm
   have htok1:∀ i f a,(H.setT id none).t i = some f → (s.s i).a = some a → a.block ≠ g:=fun i f a hi hia=>by
    rw [setT_t] at hi
    by_cases hq:i = id
    ·rw [if_pos hq] at hi; cases hi
    ·rw [if_neg hq] at hi
     exact h.hr.tinj i id f e hi hid hq a _ hia ha
   have hA1:∀ k,s.A g k → k < (s.s id).n * t.sz:=fun k hk=>by
    by_cases hq:k < (s.s id).n * t.sz
    ·exact hq
    ·exact absurd hk (hfree k (by omega))
   have hOo:O.t g ∧ ∀ k,(s.s id).n * t.sz ≤ k → ¬ A0 g k:=⟨h.tok id e _ hid ha,fun k hk h0=>hfree k hk (h.sub g k h0).1⟩
   -- in place
   have place:∀ (w':World) (m:Nat) (ff:List Value) (zs:List t.den),Chg (· = g) s.w w' → w'.ownsRow 0 e t.sz (.slice (some ⟨g,0,none⟩) ((s.s id).n + m) (s.s id).c) ((s.s id).n + m) (fx ++ ff) → (s.s id).n + m = zs.length →
     (∀ (i:Nat) x,zs[i]? = some x → Rp s.A s.w t x (((fx ++ ff).drop (i * t.sz)).take t.sz)) → ∃ s',s'.w = w' ∧ s'.n = s.n + 1 ∧ s'.b = s.b ∧ St P O A0 w0 s' ((H.setT id none).setT s.n (some e)) ∧ Ext s s' ∧ RS s' (.ls t zs s.n) (.slice (some ⟨g,0,none⟩) ((s.s id).n + m) (s.s id).c) ∧ (∀ i o,H.c i o ≠ none → s'.w.cell? ⟨(s.b i).1,(s.b i).2 + o,none⟩ = s.w.cell? ⟨(s.b i).1,(s.b i).2 + o,none⟩):=fun w' m ff zs hchg ho hzs hrz=>by
    obtain ⟨cur',c1,c2,c3,c4,c5,c6,_⟩:=row_cur ho
    have hmul:(s.s id).n * t.sz ≤ ((s.s id).n + m) * t.sz:=Nat.mul_le_mul_right _ (Nat.le_add_right _ _)
    obtain ⟨s',h1,h2,h3,h4,h5,h6⟩:=hd.mkTok (t:=t) (xs:=zs) (flat:=fx ++ ff) hchg c1 c2 c3 (by rw [hszp]; exact c4) hszp hzs c5 c6 hrz (fun k hk=>by
      have hk':=hA1 k hk
      refine ⟨by omega,?_⟩
      have hkx:k < fx.length:=by rw [hlx,← hn]; exact hk'
      rw [(hcx' k _ (List.getElem?_eq_getElem hkx)).2,cell_of_row w' g k cur' e (0,0) c1]
      have:(cur'.toList.take (((s.s id).n + m) * t.sz))[k]? = some fx[k]:=by rw [c5,List.getElem?_append_left hkx,List.getElem?_eq_getElem hkx]
      rw [List.getElem?_take,if_pos (by omega)] at this
      rw [← this]; simp) hfree1 htok1 (.inr ⟨(s.s id).n,cur,Nat.le_add_right _ _,hOo,fun k hk=>by
       have hkx:k < fx.length:=by rw [hlx,← hn]; exact hk
       exact (hcx' k _ (List.getElem?_eq_getElem hkx)).1,hcur⟩)
    exact ⟨s',h1,h2,h3,h4,h5,h6,fun i o hi=>by rw [h1]; exact h.hr.keep hchg hfree1 i o hi⟩
   cases ua with
   | none=>
    have hys:ys = []:=by
     cases ys with
     | nil=>rfl
     | cons y ys=>
      obtain ⟨_,_,_,hx⟩:=rp_slice hu
      obtain ⟨g,o,us,ha,_⟩:=hx 0 y rfl
      cases ha
    subst hys
    have:um = 0:=hum
    subst this
    obtain ⟨s',h1,h2,h3,h4,h5,h6,h7⟩:=place s.w 0 [] xs (Chg.refl _) (by rw [List.append_nil]; exact hrow) (by omega) (by rw [List.append_nil]; exact hrx)
    refine ⟨s',_,?_,h2,h3,h4,h5,by rw [List.append_nil]; exact h6,h7⟩
    rw [h1,hv]
    exact append_none st ty e i k1 k2 _ uc (.inr ⟨_,_,_,rfl,hnc⟩)
   | some a=>
    have hrz:=flat_app hlx hrx hry
    by_cases hroom:(s.s id).n + um ≤ (s.s id).c
    ·obtain ⟨w',hr,ho,hg⟩:=run_append_fits (P:=P) s.w 0 st ty e i t.sz k1 k2 k3 g (s.s id).n (s.s id).c fx hrow a um uc fy (by rw [hly,hum]) (hnews a rfl) hoy hroom
     obtain ⟨s',h1,h2,h3,h4,h5,h6,h7⟩:=place w' um fy (xs ++ ys) (Chg.grown hg fun k hk=>by cases hk; rfl) ho (by rw [List.length_append]; omega) hrz
     exact ⟨s',_,by rw [h1,hv]; exact hr,h2,h3,h4,h5,h6,h7⟩
    ·obtain ⟨v',w',hr,ho,hg,_⟩:=run_append_own (P:=P) s.w 0 st ty e i z t.sz i.bytes k1 k2 k5 k3 rfl k6 hsz _ (s.s id).n fx hrow a um uc fy (by rw [hly,hum]) (hnews a rfl) hoy (by omega) (hbytes _ hn) (Nat.zero_le _)
     have hgrow:=run_append_grow (P:=P) s.w st ty e i z k1 k2 k5 ⟨g,0,none⟩ (s.s id).n (s.s id).c fx (by rw [hlx,hn,k3]) (fun j w hj=>by rw [mk_add,Nat.zero_add]; exact (hcx' j w hj).2) a um uc fy (by rw [hly,hum,k3]) (hnews a rfl) (by omega) (by omega) (growslice_fits (by omega) (hbytes _ hn))
     rw [hgrow] at hr
     cases hr
     obtain ⟨cur',c1,c2,c3,c4,c5,c6,_⟩:=row_cur ho
     obtain ⟨s',h1,h2,h3,h4,h5,h6⟩:=hd.newTok (w1:=s.w.drew) rfl rfl rfl rfl (t:=t) (xs:=xs ++ ys) (e:=e) (n:=(s.s id).n + um) (c:=grownCap s.w ((s.s id).n + um) (s.s id).c e) (cur:=fx.toArray ++ fy.toArray ++ Builtin.zeroCells z.cells (grownCap s.w ((s.s id).n + um) (s.s id).c e - ((s.s id).n + um))) c2 c3 (by
       have hh:(s.w.drew.alloc (.cells (fx.toArray ++ fy.toArray ++ Builtin.zeroCells z.cells (grownCap s.w ((s.s id).n + um) (s.s id).c e - ((s.s id).n + um))) e)).heap[s.w.heap.size]? = some (.cells (fx.toArray ++ fy.toArray ++ Builtin.zeroCells z.cells (grownCap s.w ((s.s id).n + um) (s.s id).c e - ((s.s id).n + um))) e (0,0)):=heap_alloc_new s.w.drew _
       rw [hh] at c1; cases c1
       rw [hszp]; exact c4) hszp (by rw [List.length_append]; omega) (fun i x hi=>by
       have hh:(s.w.drew.alloc (.cells (fx.toArray ++ fy.toArray ++ Builtin.zeroCells z.cells (grownCap s.w ((s.s id).n + um) (s.s id).c e - ((s.s id).n + um))) e)).heap[s.w.heap.size]? = some (.cells (fx.toArray ++ fy.toArray ++ Builtin.zeroCells z.cells (grownCap s.w ((s.s id).n + um) (s.s id).c e - ((s.s id).n + um))) e (0,0)):=heap_alloc_new s.w.drew _
       rw [hh] at c1; cases c1
       rw [c5]; exact hrz i x hi)
     refine ⟨s',_,?_,h2,h3,h4,h5,h6,fun i o hi=>?_⟩
     ·rw [h1,hv]; exact hgrow
     ·rw [h1]; exact h.hr.keepN ((Chg.drew s.w).then (Chg.alloc _ _)) i o hi
end Go.Proofs.YtpifnlfmojfgpaaGreatDoor.Pw
end
