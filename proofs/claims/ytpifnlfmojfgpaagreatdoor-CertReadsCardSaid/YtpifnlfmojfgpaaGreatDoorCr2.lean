/- Parts of a proof, laid one behind the other by our own merge.py: FwHeld FwDraw FwCode FwSound FwMain FwFn. -/
import Derived.Test.YtpifnlfmojfgpaaGreatDoorCr1
set_option linter.unusedVariables false
set_option linter.unusedSimpArgs false
section
namespace Go.Proofs.YtpifnlfmojfgpaaGreatDoor.Fw
def litOf (kn:List Nat) (o:Oper):Bool:=
 match o.op with
 | .pick (.tmp c) _ _=>kn.contains c
 | _=>false
def knownX (kn:List Nat):Operand → Bool
 | .tmp t=>kn.contains t
 | .const _=>true
 | _=>false
def knAfter (kn:List Nat) (o:Oper) (e:Env):List Nat:=
 match o.dst with
 | none=>kn
 | some d=>
  match o.op with
  | .move x=>bif knownX kn x then d :: kn else kn
  | .assign x=>bif knownX kn x then d :: kn else kn
  | .pick c a b=>
   bif knownX kn c then
    match ev e c with
    | .bool true=>bif knownX kn a then d :: kn else kn
    | .bool false=>bif knownX kn b then d :: kn else kn
    | _=>kn
   else kn
  | _=>kn
def gateW (ops:Array Oper) (kn:List Nat) (o:Oper) (e:Env) (F:Bool → List Nat → Env → Prop):Prop:=
 match guardSlot ops o with
 | none=>F true kn e
 | some (d,want)=>
  bif kn.contains d then
   match e d with
   | .bool true=>F want kn e
   | .bool false=>F (!want) kn e
   | _=>F false kn e
  else
   match e d with
   | .bool b=>Br b (F want (d :: kn) (upd e d (.bool true))) (F (!want) (d :: kn) (upd e d (.bool false)))
   | _=>F false kn e
theorem gateW_spec {ops:Array Oper} {kn:List Nat} {o:Oper} {e:Env} {F:Bool → List Nat → Env → Prop} (h:gateW ops kn o e F):∃ kn',F (wantedE ops o e) kn' e:=by
 unfold gateW at h
 unfold wantedE
 split at h
 ·rename_i hg; (try rw [hg]); exact ⟨_,h⟩
 ·rename_i d want hg
  (try rw [hg])
  (try dsimp only)
  cases hk:kn.contains d with
  | true=>
   rw [hk] at h
   simp only [cond_true] at h
   split at h
   ·rename_i hb; rw [hb]; exact ⟨kn,by cases want <;> exact h⟩
   ·rename_i hb; rw [hb]; exact ⟨kn,by cases want <;> exact h⟩
   ·rename_i h1 h2
    refine ⟨kn,?_⟩
    have:isBool (e d) want = false:=by
     unfold isBool
     split
     ·rename_i b hb; cases b
      ·exact absurd hb h2
      ·exact absurd hb h1
     ·rfl
    rw [this]; exact h
  | false=>
   rw [hk] at h
   simp only [cond_false] at h
   split at h
   ·rename_i b hb
    have hself:∀ c,e d = .bool c → upd e d (.bool c) = e:=fun c hc=>by rw [← hc]; exact upd_self e d
    cases b with
    | true=>
     have:=h.1 rfl
     rw [hself true hb] at this
     exact ⟨_,by rw [hb]; cases want <;> exact this⟩
    | false=>
     have:=h.2 rfl
     rw [hself false hb] at this
     exact ⟨_,by rw [hb]; cases want <;> exact this⟩
   ·rename_i h1
    refine ⟨kn,?_⟩
    have:isBool (e d) want = false:=by
     unfold isBool
     split
     ·rename_i b hb; exact absurd hb (h1 b)
     ·rfl
    rw [this]; exact h
def seqW (P:Program) (ops:Array Oper) (K:Env → World → Prop) (Kp:List PanicEntry → World → Prop):List Nat → List Nat → Env → World → Prop
 | [],_,e,w=>K e w
 | i :: l,kn,e,w=>
  match ops[i]? with
  | none=>False
  | some o=>gateW ops kn o e fun run kn e=>
   match run with
   | true=>opw P (litOf kn o) o e w (fun v w'=>seqW P ops K Kp l (knAfter kn o e) (updO e o.dst v) w') Kp
   | false=>seqW P ops K Kp l kn (updO e o.dst undef) w
theorem seqE_of_seqW {P:Program} {ops:Array Oper} {K:Env → World → Prop} {Kp:List PanicEntry → World → Prop} :
  ∀ (l kn:List Nat) (e:Env) (w:World),seqW P ops K Kp l kn e w → seqE P ops K Kp l e w
 | [],_,_,_,h=>h
 | i :: l,kn,e,w,h=>by
  unfold seqW at h
  unfold seqE stepE
  cases ho:ops[i]? with
  | none=>rw [ho] at h; exact h.elim
  | some o=>
   rw [ho] at h
   dsimp only at h ⊢
   obtain ⟨kn',h⟩:=gateW_spec h
   by_cases hw:wantedE ops o e = true
   ·rw [if_pos hw]
    rw [hw] at h
    exact Good.mono (opw_good h) (fun v w' hv=>seqE_of_seqW l _ _ _ hv) (fun _ _ h=>h)
   ·rw [if_neg hw]
    rw [Bool.eq_false_iff.2 hw] at h
    exact seqE_of_seqW l _ _ _ h
def RunQ (P:Program) (ty:TypeId) (S:World → Prop) (s:Sem Value) (K:Value → Prop):Prop:=
 match P.underlying ty with
 | some (.tuple es)=>∃ x,(∀ w',S w' → s.run P w' = .ok (.tuple (tvals (tysOf P es) x).toArray) w') ∧ K (.tuple (tvals (tysOf P es) x).toArray)
 | _=>∃ x,(∀ w',S w' → s.run P w' = .ok ((tyOf P ty).val x) w') ∧ K ((tyOf P ty).val x)
theorem RunQ.run {P:Program} {ty:TypeId} {S:World → Prop} {s:Sem Value} {K:Value → Prop} (h:RunQ P ty S s K):∃ v,(∀ w',S w' → s.run P w' = .ok v w') ∧ K v:=by
 unfold RunQ at h
 split at h
 ·obtain ⟨x,h1,h2⟩:=h; exact ⟨_,h1,h2⟩
 ·obtain ⟨x,h1,h2⟩:=h; exact ⟨_,h1,h2⟩
def HoldsT (w:World) (a:Addr) (t:Ty) (x:t.den):Prop:=
 match t,x with
 | .sc s,x=>w.cell? a = some (s.val x)
 | .agg l,x=>Holds w a 0 (vals l x)
def LoadS (S:World → Prop) (t:Ty) (a:Addr) (K:t.den → Prop):Prop:=∃ x,(∀ w',S w' → HoldsT w' a t x) ∧ K x
def quietK (P:Program) (o:Oper):Bool:=
 match o.op with
 | .move _ | .assign _ | .pick _ _ _ | .build _ _ | .load _ _ | .nilCheck _ | .binOp _ _ _ _ _ | .unOp _ _ _ | .makeFunc _ _ _ | .makeInterface _ _ | .fieldAddr _ _ _ | .field _ _ _
 | .indexAddr _ _ _ | .index _ _ _ | .extract _ _ | .slice _ _ _ _ _ | .lookup _ _ _ _=>true
 | .convert _ d _=>match P.underlying d with | some (.int _)=>true | _=>false
 | .call c=>match c.callee with | .builtin .len=>true | .builtin .max=>true | .builtin .min=>true | _=>false
 | _=>false
def opR (P:Program) (lit:Bool) (LD:(t:Ty) → Addr → (t.den → Prop) → Prop) (RN:TypeId → Sem Value → (Value → Prop) → Prop) (o:Oper) (e:Env) (K:Value → Prop):Prop:=
 match o.op with
 | .load t x=>
  match ev e x with
  | .pointer (some a)=>
   match tyOf P t with
   | .sc s=>bif (P.underlying t).isSome then LD (.sc s) a fun y=>K (s.val y) else False
   | .agg l=>bif Nat.beq (sizeP P t) l.length && (P.info? t).isSome then LD (.agg l) a fun y=>K (.agg (vals l y).toArray) else False
  | _=>False
 | .binOp op xt x y _=>binW P op xt x y (ev e x) (ev e y) K (fun s=>RN o.type s K)
 | .unOp .not _ x=>
  match ev e x with
  | .bool b=>K (.bool (!b))
  | _=>False
 | .unOp op _ x=>RN o.type (Op.unary op (ev e x)) K
 | .convert s d x=>RN o.type (convert s d (ev e x)) K
 | .slice t x lo hi mx=>RN o.type (Instr.sliceAt t (ev e x) (lo.map (ev e)) (hi.map (ev e)) (mx.map (ev e))) K
 | .index t x i=>
  match P.underlying t with
  | some .string=>
   match ev e x with
   | .string s=>
    match ev e i with
    | .int _ i=>StrIdx s i fun b=>K (.int .u8 b)
    | _=>False
   | _=>False
  | _=>RN o.type (Instr.index t (ev e x) (ev e i)) K
 | .lookup t x i ok=>RN o.type (Instr.lookup t (ev e x) (ev e i) ok) K
 | .call c=>
  match c.callee with
  | .builtin .len=>
   match (c.args.map (ev e)).toList,c.argTypes.toList with
   | [.slice _ n _],[t]=>bif isLenT P t && !isStrT P t then K (.int .i64 (n:Int)) else False
   | [.string s],[t]=>bif isStrT P t then K (.int .i64 (s.size:Int)) else False
   | _,_=>RN o.type (Builtin.len_ c.argTypes o.type (c.args.map (ev e))) K
  | .builtin .max=>RN o.type (Builtin.max_ c.argTypes o.type (c.args.map (ev e))) K
  | .builtin .min=>RN o.type (Builtin.min_ c.argTypes o.type (c.args.map (ev e))) K
  | _=>False
 | _=>opw P lit o e default (fun v _=>K v) (fun _ _=>False)
theorem opR_yields {P:Program} {lit:Bool} {S:World → Prop} {LD:(t:Ty) → Addr → (t.den → Prop) → Prop} {RN:TypeId → Sem Value → (Value → Prop) → Prop}
  (hLD:∀ t a K,LD t a K → ∃ x,(∀ w',S w' → HoldsT w' a t x) ∧ K x) (hRN:∀ ty s K,RN ty s K → ∃ v,(∀ w',S w' → s.run P w' = .ok v w') ∧ K v)
  {o:Oper} {e:Env} {K:Value → Prop} (hq:quietK P o = true) (h:opR P lit LD RN o e K):∃ v,(∀ w',S w' → (execOp (ev e) o).run P w' = .ok (.value v) w') ∧ K v:=by
 obtain ⟨dst,op,ty,pos,after,guard⟩:=o
 have hrun:∀ {s:Sem Value},RN ty s K → ∃ v,(∀ w',S w' → (do pure (.value (← s)):Sem Next).run P w' = .ok (.value v) w') ∧ K v:=fun {s} hs=>by
  obtain ⟨v,h1,h2⟩:=hRN _ _ _ hs
  exact ⟨v,fun w' hw=>by simp [h1 w' hw],h2⟩
 cases op <;> first | (exfalso; revert hq; simp [quietK]; done) | skip
 case load t x=>
  simp only [opR] at h
  simp only [execOp]
  split at h
  ·rename_i a ha
   rw [ha]
   unfold tyOf at h
   cases hu:P.underlying t with
   | none=>
    have hag:isAggT P t = false:=by unfold isAggT; rw [hu]
    rw [hag,hu] at h
    exact h.elim
   | some d=>
   cases hag:isAggT P t with
   | false=>
    rw [hag,hu] at h
    obtain ⟨x,hc,hk⟩:=hLD _ _ _ h
    refine ⟨_,fun w' hw=>?_,hk⟩
    have hc:=hc w' hw
    simp only [HoldsT] at hc
    simp [Instr.loadAt,Instr.sureAddr,loadVar,run_isAgg hu,hag,hc]
   | true=>
    rw [hag] at h
    simp only [cond_true] at h
    cases hb:(Nat.beq (sizeP P t) (scsOf P 8 t).length && (P.info? t).isSome) with
    | false=>rw [hb] at h; exact h.elim
    | true=>
     rw [hb] at h
     obtain ⟨x,hc,hk⟩:=hLD _ _ _ h
     simp only [Bool.and_eq_true] at hb
     have hlen:(vals (scsOf P 8 t) x).length = (scsOf P 8 t).length:=vals_length _ _
     have hsz:sizeP P t = (vals (scsOf P 8 t) x).length:=by rw [hlen]; exact Nat.eq_of_beq_eq_true hb.1
     refine ⟨_,fun w' hw=>?_,hk⟩
     have hc:=hc w' hw
     simp only [HoldsT] at hc
     simp only [Instr.loadAt,Instr.sureAddr,loadVar,Sem.run_bind,Sem.run_pure,Result.andThen_ok,run_isAgg hu,hag,if_true,run_sizeOf_some hb.2,hsz,run_loadCells_holds hc]
  ·exact h.elim
 case binOp op xt x y yt=>
  simp only [opR] at h
  simp only [execOp]
  rcases run_binW h with ⟨v,h1,h2⟩ | h
  ·exact ⟨v,fun w' _=>by rw [Sem.run_bind,h1 w']; rfl,h2⟩
  ·exact hrun h
 case unOp op xt x=>
  simp only [execOp]
  cases op with
  | not=>
   simp only [opR] at h
   split at h
   ·rename_i b hb
    rw [hb]
    exact ⟨.bool (!b),fun w' _=>by simp [Op.unary],h⟩
   ·exact h.elim
  | _=>exact hrun h
 case convert s d x=>exact hrun h
 case slice t x lo hi mx=>exact hrun h
 case lookup t x i ok=>exact hrun h
 case index t x i=>
  simp only [opR] at h
  simp only [execOp]
  split at h
  ·rename_i hu
   split at h
   ·rename_i s hx
    split at h
    ·rename_i k i hi
     obtain ⟨h1,h2,h3⟩:=h
     rw [hx,hi]
     refine ⟨_,fun w' _=>?_,h3⟩
     simp [Instr.index,asIntOf,run_underlying_some hu,h1,h2]
    ·exact h.elim
   ·exact h.elim
  ·exact hrun h
 case call c=>
  obtain ⟨callee,args,argTypes⟩:=c
  simp only [opR] at h
  simp only [execOp]
  cases callee with
  | value f=>exact absurd hq (by simp [quietK])
  | invoke r m=>exact absurd hq (by simp [quietK])
  | builtin b=>
   cases b <;> first | (exfalso; revert hq; simp [quietK]; done) | skip
   case max=>exact hrun h
   case min=>exact hrun h
   case len=>
    have hlen:(do let d ← resolve (ev e) ⟨.builtin .len,args,argTypes⟩ ty; invoke d.target d.args:Sem Next) = (do pure (.value (← Builtin.len_ argTypes ty (args.map (ev e)))):Sem Next):=rfl
    rw [hlen]
    dsimp only at h
    split at h
    ·rename_i a n c t h1 h2
     have e1:args.map (ev e) = #[.slice a n c]:=by rw [← Array.toList_inj]; exact h1
     have e2:argTypes = #[t]:=by rw [← Array.toList_inj]; exact h2
     rw [e1,e2]
     cases hl:(isLenT P t && !isStrT P t) with
     | false=>rw [hl] at h; exact h.elim
     | true=>
      rw [hl] at h
      simp only [Bool.and_eq_true,Bool.not_eq_true'] at hl
      obtain ⟨hl1,hl2⟩:=hl
      unfold isLenT at hl1
      split at hl1
      ·rename_i hu; simp [isStrT,hu] at hl2
      ·rename_i el hu
       exact ⟨.int .i64 (n:Int),fun w' _=>by simp [Builtin.len_,run_underlying_some hu,goInt],h⟩
      ·cases hl1
    ·rename_i s t h1 h2
     have e1:args.map (ev e) = #[.string s]:=by rw [← Array.toList_inj]; exact h1
     have e2:argTypes = #[t]:=by rw [← Array.toList_inj]; exact h2
     rw [e1,e2]
     cases hl:isStrT P t with
     | false=>rw [hl] at h; exact h.elim
     | true=>
      rw [hl] at h
      unfold isStrT at hl
      split at hl
      ·rename_i hu
       exact ⟨.int .i64 (s.size:Int),fun w' _=>by simp [Builtin.len_,run_underlying_some hu,goInt],h⟩
      ·cases hl
    ·exact hrun h
 case move x=>exact ⟨_,fun w' _=>rfl,h⟩
 case assign x=>exact ⟨_,fun w' _=>rfl,h⟩
 case makeFunc fn fi ca=>exact ⟨_,fun w' _=>rfl,h⟩
 all_goals
  simp only [opR,opw] at h
  simp only [execOp]
 case pick c a b=>
  split at h
  ·rename_i t ht
   rw [ht]
   cases lit with
   | true=>cases t <;> exact ⟨_,fun w' _=>rfl,h⟩
   | false=>cases t with
    | true=>exact ⟨_,fun w' _=>rfl,h.1 rfl⟩
    | false=>exact ⟨_,fun w' _=>rfl,h.2 rfl⟩
  ·exact h.elim
 case build t ps=>
  split at h
  ·rename_i v hv; exact ⟨v,fun w' _=>by rw [Sem.run_bind,run_build hv]; rfl,h⟩
  ·exact h.elim
 case nilCheck x=>
  split at h
  ·rename_i p hp
   obtain ⟨a,rfl,hk⟩:=h
   rw [hp]; exact ⟨_,fun w' _=>rfl,hk⟩
  ·rename_i f fi ca hf
   rw [hf]; exact ⟨_,fun w' _=>rfl,h⟩
  ·rename_i l fi ca hf
   rw [hf]; exact ⟨_,fun w' _=>rfl,h⟩
  ·exact h.elim
 case makeInterface xt x=>
  split at h
  ·exact h.elim
  ·rename_i d hd hu
   refine ⟨.iface xt (ev e x),fun w' _=>?_,h⟩
   simp only [Instr.makeInterface,Sem.run_bind,run_underlying_some hu,Result.andThen_ok]
   cases d <;> first | rfl | exact absurd rfl (hd _)
  ·exact h.elim
 case fieldAddr s x f=>
  split at h
  ·rename_i a ha
   split at h
   ·rename_i off t hf
    cases hb:Nat.blt 0 (sizeP P t) with
    | false=>rw [hb] at h; exact h.elim
    | true=>
     rw [hb] at h
     rw [ha]
     exact ⟨_,fun w' _=>by rw [Sem.run_bind,run_fieldAt hf (by simpa using hb)]; rfl,h⟩
   ·exact h.elim
  ·exact h.elim
 case field s x f=>
  split at h
  ·rename_i cs hc
   rw [hc]
   split at h
   ·rename_i off t hf
    unfold fieldOff at hf
    split at hf
    ·rename_i fs hu
     cases hx:fs[f]? with
     | none=>simp [hx] at hf
     | some x=>
      simp only [hx,Option.map_some,Option.some.injEq,Prod.mk.injEq] at hf
      obtain ⟨rfl,rfl⟩:=hf
      obtain ⟨v,h1,h2⟩:=partW_any h
      exact ⟨v,fun w' _=>by simp [Instr.field,run_underlying_some hu,hx,asAgg,h1 w'],h2⟩
    ·cases hf
   ·exact h.elim
  ·exact h.elim
 case indexAddr t x i=>
  split at h
  ·rename_i el hu
   split at h
   ·rename_i b n c hx
    split at h
    ·rename_i k i hi
     cases h0:(P.info? el).isSome with
     | false=>rw [h0] at h; exact h.elim
     | true=>
     rw [h0] at h
     obtain ⟨a,rfl,h1,h2,h3⟩:=h
     rw [hx,hi]
     exact ⟨_,fun w' _=>by simp [Instr.indexAt,asIntOf,run_underlying_some hu,h1,h2,run_sizeOf_some h0],h3⟩
    ·exact h.elim
   ·exact h.elim
  ·rename_i len el hu
   split at h
   ·rename_i a hx
    split at h
    ·rename_i k i hi
     cases h0:(P.info? el).isSome with
     | false=>rw [h0] at h; exact h.elim
     | true=>
     rw [h0] at h
     obtain ⟨a',ha,h1,h2,h3⟩:=h
     cases ha
     rw [hx,hi]
     exact ⟨_,fun w' _=>by simp [Instr.indexAt,asIntOf,run_underlying_some hu,h1,h2,run_sizeOf_some h0,Instr.sureAddr],h3⟩
    ·exact h.elim
   ·exact h.elim
  ·exact h.elim
 case extract t i=>
  split at h
  ·rename_i vs hv
   rw [hv]
   split at h
   ·rename_i v hi
    exact ⟨v,fun w' _=>by simp [Instr.extract,hi],h⟩
   ·exact h.elim
  ·exact h.elim
end Go.Proofs.YtpifnlfmojfgpaaGreatDoor.Fw
end
section
namespace Go.Proofs.YtpifnlfmojfgpaaGreatDoor.Fw
def RunA (P:Program) (ty:TypeId) (w:World) (s:Sem Value) (K:Value → Prop):Prop:=
 match P.underlying ty with
 | some (.tuple es)=>∃ x,s.run P w = .ok (.tuple (tvals (tysOf P es) x).toArray) w ∧ K (.tuple (tvals (tysOf P es) x).toArray)
 | _=>∃ x,s.run P w = .ok ((tyOf P ty).val x) w ∧ K ((tyOf P ty).val x)
theorem RunA.run {P:Program} {ty:TypeId} {w:World} {s:Sem Value} {K:Value → Prop} (h:RunA P ty w s K):∃ v,s.run P w = .ok v w ∧ K v:=by
 unfold RunA at h
 split at h
 ·obtain ⟨x,h1,h2⟩:=h; exact ⟨_,h1,h2⟩
 ·obtain ⟨x,h1,h2⟩:=h; exact ⟨_,h1,h2⟩
theorem LoadT.holds {t:Ty} {w:World} {a:Addr} {K:t.den → Prop} (h:LoadT t w a K):∃ x,HoldsT w a t x ∧ K x:=by
 cases t <;> exact h
def autoW (P:Program) (ops:Array Oper) (K:Env → World → Prop) (Kp:List PanicEntry → World → Prop):List Nat → List Nat → Env → World → Prop
 | [],_,e,w=>K e w
 | i :: l,kn,e,w=>
  match ops[i]? with
  | none=>False
  | some o=>gateW ops kn o e fun run kn e=>
   match run with
   | true=>
    bif quietK P o then opR P (litOf kn o) (fun t a K=>LoadT t w a K) (fun ty s K=>RunA P ty w s K) o e fun v=>autoW P ops K Kp l (knAfter kn o e) (updO e o.dst v) w
    else opw P (litOf kn o) o e w (fun v w'=>autoW P ops K Kp l (knAfter kn o e) (updO e o.dst v) w') Kp
   | false=>autoW P ops K Kp l kn (updO e o.dst undef) w
def autoFrom (P:Program) (ops:Array Oper):List Nat → Array Bool → Bool
 | [],listed=>(Region.ready .any ops listed).isEmpty
 | i :: l,listed=>
  (Region.ready .any ops listed).contains i && (match ops[i]? with
   | some o=>bif quietK P o then Region.free .any ops listed i else pivot ops i
   | none=>false) && autoFrom P ops l (listed.setIfInBounds i true)
theorem anyE_of_autoW {P:Program} {ops:Array Oper} {F:Fm} {K:Env → World → Prop} {Kp:List PanicEntry → World → Prop} (hok:okOps F ops = true) :
  ∀ (l kn:List Nat) (listed:Array Bool) (e:Env) (w:World),Down ops listed → autoFrom P ops l listed = true → autoW P ops K Kp l kn e w → anyE P ops K Kp l.length (fun w'=>w' = w) listed e w
 | [],kn,listed,e,w,hd,hb,h=>⟨by simpa [autoFrom] using hb,h⟩
 | i :: l,kn,listed,e,w,hd,hb,h=>by
  unfold autoFrom at hb
  unfold autoW at h
  cases ho:ops[i]? with
  | none=>rw [ho] at h; exact h.elim
  | some o=>
   rw [ho] at h hb
   simp only [Bool.and_eq_true] at hb
   obtain ⟨⟨hr,hq⟩,hb⟩:=hb
   have hr:i ∈ Region.ready .any ops listed:=by simpa using hr
   dsimp only at h
   obtain ⟨kn',h⟩:=gateW_spec h
   cases hqk:quietK P o with
   | true=>
    rw [hqk] at hq
    simp only [cond_true] at hq
    have hfree:=Region.free_spec (md:=.any) ho hq
    by_cases hw:wantedE ops o e = true
    ·rw [hw,hqk] at h
     simp only [cond_true] at h
     obtain ⟨v,h1,h2⟩:=opR_yields (S:=fun w'=>w' = w)
      (fun t a K hl=>by obtain ⟨x,h1,h2⟩:=LoadT.holds hl; exact ⟨x,fun w' hw'=>by rw [hw']; exact h1,h2⟩)
      (fun ty s K hl=>by obtain ⟨v,h1,h2⟩:=RunA.run hl; exact ⟨v,fun w' hw'=>by rw [hw']; exact h1,h2⟩) hqk h
     exact anyE_first hok ho l.length listed e w hd hfree hr rfl (.inl ⟨hw,h1⟩) (anyE_of_autoW hok l _ _ _ w (hd.set hr) hb h2)
    ·have hw':wantedE ops o e = false:=Bool.eq_false_iff.2 hw
     rw [hw'] at h
     exact anyE_first hok ho l.length listed e w hd hfree hr rfl (.inr ⟨hw',rfl⟩) (anyE_of_autoW hok l kn' _ _ w (hd.set hr) hb h)
   | false=>
    rw [hqk] at hq
    simp only [cond_false] at hq
    refine ⟨fun h0=>(by rw [h0] at hr; cases hr),fun j hj=>?_⟩
    have hji:j = i:=not_both_of_pivot hd hq hj hr
    subst hji
    unfold stepE
    rw [ho]
    dsimp only
    by_cases hw:wantedE ops o e = true
    ·rw [if_pos hw]
     rw [hw,hqk] at h
     simp only [cond_false] at h
     exact Good.mono (opw_good h) (fun v w' hv=>.inl ⟨hq,fun w''=>w'' = w',rfl,anyE_of_autoW hok l _ _ _ w' (hd.set hr) hb hv⟩) (fun _ _ h=>h)
    ·rw [if_neg hw]
     rw [Bool.eq_false_iff.2 hw] at h
     exact .inr ⟨_,fun _ h=>h,rfl,anyE_of_autoW hok l kn' _ _ w (hd.set hr) hb h⟩
def allW (f:Nat → Prop):List Nat → Prop
 | []=>True
 | [i]=>f i
 | i :: j :: l=>f i ∧ allW f (j :: l)
theorem allW_spec {f:Nat → Prop}:∀ (l:List Nat),allW f l → ∀ i ∈ l,f i
 | [],_,_,h=>by cases h
 | [i],h,j,hj=>by simp at hj; subst hj; exact h
 | i :: j :: l,h,k,hk=>by
  rcases List.mem_cons.1 hk with rfl | hk
  ·exact h.1
  ·exact allW_spec (j :: l) h.2 k hk
def pickQ (P:Program) (ops:Array Oper) (listed:Array Bool):List Nat → Option Nat
 | []=>none
 | i :: l=>
  bif (match ops[i]? with | some o=>quietK P o | none=>false) && Region.free .any ops listed i then some i else pickQ P ops listed l
theorem pickQ_spec {P:Program} {ops:Array Oper} {listed:Array Bool}:∀ (l:List Nat) (i:Nat),pickQ P ops listed l = some i → i ∈ l ∧ Region.free .any ops listed i = true ∧ ∀ o,ops[i]? = some o → quietK P o = true
 | [],_,h=>by cases h
 | j :: l,i,h=>by
  unfold pickQ at h
  cases hb:((match ops[j]? with | some o=>quietK P o | none=>false) && Region.free .any ops listed j) with
  | false=>
   rw [hb] at h
   obtain ⟨h1,h2⟩:=pickQ_spec l i h
   exact ⟨List.mem_cons_of_mem _ h1,h2⟩
  | true=>
   rw [hb] at h
   simp only [cond_true,Option.some.injEq] at h
   subst h
   simp only [Bool.and_eq_true] at hb
   refine ⟨by simp,hb.2,fun o ho=>?_⟩
   have:=hb.1
   rw [ho] at this
   exact this
def heldW (P:Program) (ops:Array Oper) (K:Env → World → Prop) (Kp:List PanicEntry → World → Prop):Nat → (World → Prop) → Array Bool → List Nat → Env → World → Prop
 | 0,_,listed,_,e,w=>
  match Region.ready .any ops listed with
  | []=>K e w
  | _ :: _=>False
 | f + 1,S,listed,kn,e,w=>
  match Region.ready .any ops listed with
  | []=>K e w
  | r :: rs=>
   match pickQ P ops listed (r :: rs) with
   | some i=>
    match ops[i]? with
    | none=>False
    | some o=>gateW ops kn o e fun run kn e=>
     match run with
     | true=>opR P (litOf kn o) (fun t a K=>LoadS S t a K) (fun ty s K=>RunQ P ty S s K) o e fun v=>heldW P ops K Kp f S (listed.setIfInBounds i true) (knAfter kn o e) (updO e o.dst v) w
     | false=>heldW P ops K Kp f S (listed.setIfInBounds i true) kn (updO e o.dst undef) w
   | none=>allW (fun i=>
    match ops[i]? with
    | none=>False
    | some o=>gateW ops kn o e fun run kn e=>
     match run with
     | true=>opw P (litOf kn o) o e w (fun v w'=>
       bif pivot ops i && (Region.ready .any ops (listed.setIfInBounds i true)).isEmpty then K (updO e o.dst v) w'
       else ∃ S':World → Prop,(∀ w,S' w → S w) ∧ S' w' ∧ heldW P ops K Kp f S' (listed.setIfInBounds i true) (knAfter kn o e) (updO e o.dst v) w') Kp
     | false=>heldW P ops K Kp f S (listed.setIfInBounds i true) kn (updO e o.dst undef) w) (r :: rs)
theorem anyE_done {P:Program} {ops:Array Oper} {K:Env → World → Prop} {Kp:List PanicEntry → World → Prop} {S:World → Prop} {listed:Array Bool} {e:Env} {w:World} (hr:Region.ready .any ops listed = []) (h:K e w) :
  ∀ f,anyE P ops K Kp f S listed e w
 | 0=>⟨hr,h⟩
 | f + 1=>⟨fun _=>h,fun i hi=>by rw [hr] at hi; cases hi⟩
theorem anyE_of_heldW {P:Program} {ops:Array Oper} {F:Fm} {K:Env → World → Prop} {Kp:List PanicEntry → World → Prop} (hok:okOps F ops = true) :
  ∀ (f:Nat) (S:World → Prop) (listed:Array Bool) (kn:List Nat) (e:Env) (w:World),Down ops listed → S w → heldW P ops K Kp f S listed kn e w → anyE P ops K Kp f S listed e w
 | 0,S,listed,kn,e,w,hd,hS,h=>by
  unfold heldW at h
  split at h
  ·rename_i hr; exact ⟨hr,h⟩
  ·exact h.elim
 | f + 1,S,listed,kn,e,w,hd,hS,h=>by
  unfold heldW at h
  split at h
  ·rename_i hr; exact anyE_done hr h _
  ·rename_i r rs hr
   split at h
   ·rename_i i hp
    obtain ⟨h1,h2,h3⟩:=pickQ_spec _ _ hp
    rw [← hr] at h1
    split at h
    ·exact h.elim
    ·rename_i o ho
     have hqk:=h3 o ho
     have hfree:=Region.free_spec (md:=.any) ho h2
     obtain ⟨kn',h⟩:=gateW_spec h
     by_cases hw:wantedE ops o e = true
     ·rw [hw] at h
      obtain ⟨v,h4,h5⟩:=opR_yields (S:=S) (fun t a K hl=>hl) (fun ty s K hl=>RunQ.run hl) hqk h
      exact anyE_first hok ho f listed e w hd hfree h1 hS (.inl ⟨hw,h4⟩) (anyE_of_heldW hok f S _ _ _ w (hd.set h1) hS h5)
     ·have hw':wantedE ops o e = false:=Bool.eq_false_iff.2 hw
      rw [hw'] at h
      exact anyE_first hok ho f listed e w hd hfree h1 hS (.inr ⟨hw',rfl⟩) (anyE_of_heldW hok f S _ kn' _ w (hd.set h1) hS h)
   ·rw [← hr] at h
    refine ⟨fun h0=>(by rw [hr] at h0; cases h0),fun i hi=>?_⟩
    have h:=allW_spec _ h i hi
    unfold stepE
    cases ho:ops[i]? with
    | none=>rw [ho] at h; exact h.elim
    | some o=>
     rw [ho] at h
     dsimp only at h ⊢
     obtain ⟨kn',h⟩:=gateW_spec h
     by_cases hw:wantedE ops o e = true
     ·rw [if_pos hw]
      rw [hw] at h
      refine Good.mono (opw_good h) (fun v w' hv=>?_) (fun _ _ h=>h)
      cases hb:(pivot ops i && (Region.ready .any ops (listed.setIfInBounds i true)).isEmpty) with
      | true=>
       rw [hb] at hv
       simp only [Bool.and_eq_true,List.isEmpty_iff] at hb
       exact .inl ⟨hb.1,fun _=>True,trivial,anyE_done hb.2 hv f⟩
      | false=>
       rw [hb] at hv
       obtain ⟨S',h1,h2,h3⟩:=hv
       exact .inr ⟨S',h1,h2,anyE_of_heldW hok f S' _ _ _ w' (hd.set hi) h2 h3⟩
     ·rw [if_neg hw]
      rw [Bool.eq_false_iff.2 hw] at h
      exact .inr ⟨S,fun _ h=>h,hS,anyE_of_heldW hok f S _ kn' _ w (hd.set hi) hS h⟩
def regW (P:Program) (ops:Array Oper) (draw:Bool) (K:Env → World → Prop) (Kp:List PanicEntry → World → Prop) (e:Env) (w:World):Prop:=
 match draw with
 | false=>seqW P ops K Kp (List.range ops.size) [] e w
 | true=>
  bif autoFrom P ops (List.range ops.size) (Array.replicate ops.size false) then autoW P ops K Kp (List.range ops.size) [] e w.drew
  else ∃ S:World → Prop,S w.drew ∧ heldW P ops K Kp ops.size S (Array.replicate ops.size false) [] e w.drew
theorem wpIn_regW {ro:Option Nat} {P:Program} {ops:Array Oper} {draw:Bool} {id:Nat} {F:Fm} {ds:List Deferred} {e:Env} {a:Act} {w:World} {K:Env → World → Prop} {Kp:List PanicEntry → World → Prop} {Q:Exit → Act → World → Prop}
  (hm:P.follows .mixedOrders = true) (hok:okOps F ops = true) (hr:Rep F ds e a) (h:regW P ops draw K Kp e w)
  (hq:∀ e a w,Rep F ds e a → K e w → Q .normal a w) (hp:∀ c w,Kp c w → ∀ a:Act,a.defers = ds → (∀ p ∈ F.fx,a.tmps.getD p.1 undef = p.2) → Q (.panic c) a w):(Code.region id ops draw).wpIn (Wf ro) 0 P Q a w:=by
 cases draw with
 | false=>exact wpIn_region (wpOpsIn_of_seqE hok hq hp _ e a w hr (seqE_of_seqW _ _ _ _ h))
 | true=>
  refine wpIn_region_any hm ?_
  unfold regW at h
  dsimp only at h
  cases hb:autoFrom P ops (List.range ops.size) (Array.replicate ops.size false) with
  | true=>
   rw [hb] at h
   have:=anyE_of_autoW hok _ _ _ _ _ (Down.start _ _) hb h
   rw [List.length_range] at this
   exact wpAnyIn_of_anyE hok hq hp _ _ _ e a _ hr this
  | false=>
   rw [hb] at h
   obtain ⟨S,hS,h⟩:=h
   exact wpAnyIn_of_anyE hok hq hp _ S _ e a _ hr (anyE_of_heldW hok _ S _ _ _ _ (Down.start _ _) hS h)
end Go.Proofs.YtpifnlfmojfgpaaGreatDoor.Fw
end
section
namespace Go.Proofs.YtpifnlfmojfgpaaGreatDoor.Fw
def firstReg:Code → Option Nat
 | .region id _ _=>some id
 | .seq a b=>match firstReg a with | some i=>some i | none=>firstReg b
 | .cond _ a b=>match firstReg a with | some i=>some i | none=>firstReg b
 | .block _ c=>firstReg c
 | .loop c=>firstReg c
 | .scope c=>firstReg c
 | .rangeFunc _ _ a b=>match firstReg a with | some i=>some i | none=>firstReg b
 | _=>none
def hasRF:Code → Bool
 | .seq a b=>hasRF a || hasRF b
 | .cond _ a b=>hasRF a || hasRF b
 | .block _ c=>hasRF c
 | .loop c=>hasRF c
 | .scope c=>hasRF c
 | .rangeFunc _ _ _ _=>true
 | .region _ ops _=>match ops.toList.getLast? with | some o=>(match o.op with | .defer _=>true | _=>false) | none=>false
 | _=>false
def lastDefer (ops:Array Oper):Option Call:=
 match ops.toList.getLast? with
 | some o=>match o.op with | .defer c=>some c | _=>none
 | none=>none
def deferOf (e:Env) (c:Call):Option Deferred:=
 match c.callee with
 | .value f=>
  match ev e f with
  | .func fn fi ca=>some { target:=.fn fn ca,args:=fi ++ c.args.map (ev e) }
  | _=>none
 | _=>none
def okDefer (F:Fm) (ops:Array Oper) (c:Call):Bool:=
 okOps F ops.pop && c.operands.all (okX F.n) && (match ops.toList.getLast? with | some o=>o.guard.isNone && o.dst.isNone | none=>false) && ops.pop.all fun o=>o.guard.isNone
def okCode (F:Fm):Bool → Code → Bool
 | r,.region _ ops draw=>
  match lastDefer ops with
  | none=>okOps F ops
  | some c=>!r && !draw && okDefer F ops c
 | r,.seq a b=>okCode F r a && okCode F r b
 | r,.cond c a b=>okX F.n c && okCode F r a && okCode F r b
 | r,.block _ c=>okCode F r c
 | r,.loop c=>okCode F r c
 | r,.rangeFunc f ps a b=>!r && okX F.n f && ps.all (fun d=>Nat.blt d F.n && F.free (some d)) && okCode F true a && okCode F true b
 | _,_=>true
structure Ann where
 loops:Nat → Live
 joins:Nat → Option Live
abbrev KN:=Env → World → Prop
structure Ks where
 N:List Deferred → KN
 X:Nat → List Deferred → KN
 R:List Deferred → KN
 P:List PanicEntry → List Deferred → World → Prop
def joinOf (A:Ann) (c:Code):Option Live:=
 match firstReg c with
 | some i=>A.joins i
 | none=>none
def loopOf (A:Ann) (c:Code):Live:=
 match firstReg c with
 | some i=>A.loops i
 | none=>[]
def LoopD {σ:Type} (x0:σ) (ds:List Deferred) (w:World) (body:σ → List Deferred → Env → World → (σ → List Deferred → World → Prop) → Prop):Prop:=
 ∃ (I:σ → List Deferred → World → Prop) (μ:σ → World → Nat),I x0 ds w ∧ ∀ x ds g w,I x ds w → body x ds g w fun y ds' w'=>I y ds' w' ∧ μ y w' < μ x w
def JoinD {σ:Type} (Y:σ → List Deferred → Env → World → Prop) (F:(σ → List Deferred → World → Prop) → Prop):Prop:=F fun x ds w=>∀ g,Y x ds g w
def loopish:Obj → Bool
 | .loop _=>true
 | .deferred _=>true
 | _=>false
structure Turn (B:Nat) (w w':World):Prop where
 old:∀ k,k < B → k < w.heap.size → w'.heap[k]? = w.heap[k]?
 size:w.heap.size ≤ w'.heap.size
 keep:∀ (k:Nat) (o:Obj),w.heap[k]? = some o → (∀ r,o ≠ .loop r) → w'.heap[k]? = some o
 os:w'.os = w.os
 tape:w'.tape = w.tape
 output:w'.output = w.output
def KeepL (w w':World):Prop:=∀ (k:Nat) (o:Obj),w.heap[k]? = some o → loopish o = true → w'.heap[k]? = some o
def KeepO (B:Obj → Prop) (w w':World):Prop:=∀ (k:Nat) (o:Obj),B o → w.heap[k]? = some o → w'.heap[k]? = some o
def mark (r:Nat):Deferred:={ target:=.collected r,args:=#[] }
def Gives (P:Program) (g:FuncId) (fi ca:Array Value) (tys:List Ty) (xs:List (tdens tys)) (C:World → Prop) (Dr:Nat → World → World → Prop) (B:Obj → Prop) (C0:World → Prop):Prop:=
 ∀ (l:Nat) (J:Nat → World → Prop) (Jx:World → Prop) (W:World),
  (∀ i W,J i W → C W) → (∀ W,Jx W → C W) →
  (∀ i W1 W2,J i W1 → Dr W.heap.size W1 W2 → J i W2) → (∀ W1 W2,Jx W1 → Dr W.heap.size W1 W2 → Jx W2) →
  (∀ (i:Nat) (x:tdens tys) (W:World),xs[i]? = some x → J i W → YieldT P l (tvals tys x).toArray W fun b W'=>KeepO B W W' ∧ ((b = true ∧ J (i + 1) W') ∨ (b = false ∧ Jx W'))) →
  J 0 W → C0 W → Calls P g ((fi ++ #[.func (.yield l) #[] #[]]) ++ ca) W fun e W'=>e = .returned (.tuple #[]) ∧ (J xs.length W' ∨ Jx W')
def RangeF (P:Program) (g:FuncId) (fi ca:Array Value) (tys:List Ty) (w:World) (round:tdens tys → World → (World → Prop) → (Code → World → Prop) → Prop)
  (after:Option Code → Nat → World → Prop):Prop:=
 ∃ (xs:List (tdens tys)) (C:World → Prop) (Dr:Nat → World → World → Prop) (B:Obj → Prop) (C0:World → Prop) (I:Nat → World → Prop) (Ix:Code → World → Prop),
  Gives P g fi ca tys xs C Dr B C0 ∧ (∀ W',Turn w.heap.size w W' → C0 W') ∧ (∀ r,¬ B (.loop r)) ∧ (∀ W W',Dr (w.heap.size + 2) W W' → KeepL W W') ∧ (∀ i W W',I i W → Dr (w.heap.size + 2) W W' → I i W') ∧ (∀ c W W',Ix c W → Dr (w.heap.size + 2) W W' → Ix c W') ∧ (∀ i W,I i W → C W) ∧ (∀ c W,Ix c W → C W) ∧ (∀ i W W',I i W → Turn w.heap.size W W' → I i W') ∧ (∀ c W W',Ix c W → Turn w.heap.size W W' → Ix c W') ∧ I 0 w ∧
  (∀ (i:Nat) (x:tdens tys) (W:World),xs[i]? = some x → I i W → round x W (fun W'=>KeepL W W' ∧ KeepO B W W' ∧ I (i + 1) W') (fun c W'=>KeepL W W' ∧ KeepO B W W' ∧ Ix c W')) ∧
  (∀ d W,W.heap[d]? = some (.deferred (some [])) → w.heap.size ≤ d → I xs.length W → after none d W) ∧
  (∀ c d W,W.heap[d]? = some (.deferred (some [])) → w.heap.size ≤ d → Ix c W → after (some c) d W)
def putArgs:List Nat → List Value → Env → Env
 | d :: ds,v :: vs,e=>putArgs ds vs (upd e d v)
 | _,_,e=>e
def assignOps:List Oper → Env → Option Env
 | [],e=>some e
 | o :: l,e=>
  match o.guard with
  | some _=>none
  | none=>
   match o.op with
   | .move x=>assignOps l (updO e o.dst (ev e x))
   | .assign x=>assignOps l (updO e o.dst (ev e x))
   | _=>none
def assignE:Code → Env → Option Env
 | .skip,e=>some e
 | .region _ ops draw,e=>
  match draw with
  | false=>assignOps ops.toList e
  | true=>none
 | .seq a b,e=>
  match assignE a e with
  | some e1=>assignE b e1
  | none=>none
 | _,_=>none
def yieldTys (P:Program) (g:FuncId) (k:Nat):Option (List Ty):=
 match P.funcs[g]? with
 | some fn=>
  match fn.params[k]? with
  | some t=>
   match P.underlying t with
   | some (.func ps _ _)=>some (tysOf P ps)
   | _=>none
  | none=>none
 | none=>none
def exitsOf:Code → List Nat
 | .seq a b=>exitsOf a ++ exitsOf b
 | .cond _ a b=>exitsOf a ++ exitsOf b
 | .block _ c=>exitsOf c
 | .loop c=>exitsOf c
 | .exit id=>[id]
 | _=>[]
def exitK:List Nat → Nat → (Nat → Prop) → Prop
 | [],_,_=>False
 | i :: l,id,K=>bif Nat.beq id i then K i else exitK l id K
theorem exitK_spec:∀ {l:List Nat} {id:Nat} {K:Nat → Prop},exitK l id K → K id
 | [],_,_,h=>h.elim
 | i :: l,id,K,h=>by
  unfold exitK at h
  cases hb:Nat.beq id i with
  | true=>rw [hb] at h; rw [Nat.eq_of_beq_eq_true hb]; exact h
  | false=>rw [hb] at h; exact exitK_spec h
def wpc (P:Program) (A:Ann):Code → Ks → List Deferred → Env → World → Prop
 | .skip,k,ds,e,w=>k.N ds e w
 | .region _ ops draw,k,ds,e,w=>
  match lastDefer ops with
  | none=>regW P ops draw (k.N ds) (fun ch w=>k.P ch ds w) e w
  | some c=>seqW P ops.pop (fun e w=>
    match deferOf e c with
    | some d=>k.N (d :: ds) e w
    | none=>False) (fun ch w=>k.P ch ds w) (List.range ops.pop.size) [] e w
 | .seq a b,k,ds,e,w=>
  match joinOf A b with
  | none=>wpc P A a { k with N:=wpc P A b k } ds e w
  | some l=>
   bif hasRF a then JoinD (σ:=ldens l) (fun xs ds g w=>wpc P A b k ds (putTs l xs g) w) fun J=>wpc P A a { k with N:=fun ds e w=>getTs l e fun xs=>J xs ds w } ds e w
   else Join (σ:=ldens l) (fun xs g w=>wpc P A b k ds (putTs l xs g) w) fun J=>wpc P A a { k with N:=fun _ e w=>getTs l e fun xs=>J xs w } ds e w
 | .cond c a b,k,ds,e,w=>
  match ev e c with
  | .bool t=>Br t (wpc P A a k ds e w) (wpc P A b k ds e w)
  | _=>False
 | .block id c,k,ds,e,w=>wpc P A c { k with X:=fun i ds e w=>bif Nat.beq i id then k.N ds e w else k.X i ds e w } ds e w
 | .exit id,k,ds,e,w=>k.X id ds e w
 | .loop c,k,ds,e,w=>
  getTs (loopOf A c) e fun xs=>
   bif hasRF c then LoopD xs ds w fun xs ds g w I=>wpc P A c { k with N:=fun ds e w=>getTs (loopOf A c) e fun ys=>I ys ds w } ds (putTs (loopOf A c) xs g) w
   else LoopT xs w fun xs g w I=>wpc P A c { k with N:=fun _ e w=>getTs (loopOf A c) e fun ys=>I ys w } ds (putTs (loopOf A c) xs g) w
 | .ret,k,ds,e,w=>k.R ds e w
 | .rangeFunc f ps assign body,k,ds,e,w=>
  match ev e f with
  | .func (.func g) fi ca=>
   match yieldTys P g fi.size with
   | some tys=>
    bif enters P g && !hasRF body && Nat.beq ps.size tys.length then
     RangeF P g fi ca tys w (fun x w Kc Kx=>
       match assignE assign (putArgs ps.toList (tvals tys x) e) with
       | some e1=>wpc P A body { N:=fun _ _ w=>Kc w,X:=fun id _ _ w=>Kx (.exit id) w,R:=fun _ _ w=>Kx .ret w,P:=fun _ _ _=>False } [] e1 w
       | none=>False)
      (fun j d w=>
       match j with
       | none=>k.N (mark d :: ds) e w
       | some (.exit id)=>exitK (exitsOf body) id fun id=>k.X id (mark d :: ds) e w
       | some .ret=>k.R (mark d :: ds) e w
       | some _=>False)
    else False
   | none=>False
  | _=>False
 | _,_,_,_,_=>False
theorem wpIn_loop_n {F:Fence} {n:Nat} {P:Program} {c:Code} {Q:Exit → Act → World → Prop} {a:Act} {w:World} (I:Nat → Act → World → Prop) (m:Nat) (h₀:I m a w)
  (round:∀ m a w,I m a w → c.wpIn F n P (Exit.then (fun a' w'=>∃ m',m' < m ∧ I m' a' w') Q) a w):(Code.loop c).wpIn F n P Q a w:=by
 intro b k cs hro hb hr
 have key:∀ j a w,I j a w →
   ∃ e a' w',Q e a' w' ∧ ArrivesIn (Machine.fenced P F) P (lone (b.atR a (.code c :: .inLoop c :: k)) cs w) b k cs e a' w':=by
  intro j
  induction j using Nat.strongRecOn with
  | _ j ih=>
   intro a w hI
   obtain ⟨e,a₁,w₁,hq,harr⟩:=round j a w hI b (.inLoop c :: k) cs hro hb hr
   cases e with
   | normal=>
    obtain ⟨j₁,hlt,hI₁⟩:=hq
    obtain ⟨e₂,a₂,w₂,hq₂,harr₂⟩:=ih j₁ hlt a₁ w₁ hI₁
    exact ⟨e₂,a₂,w₂,hq₂,.of_steps (StepsIn.trans harr (.one (fenced_calm hb hr rfl) stepR_inLoop)) harr₂⟩
   | exit id=>exact ⟨_,a₁,w₁,hq,.pass (x:=.inLoop c) rfl (fun _ _=>.inl (by simp)) harr⟩
   | goto l=>exact ⟨_,a₁,w₁,hq,.pass (x:=.inLoop c) rfl (fun _ _=>.inl (by simp)) harr⟩
   | ret=>exact ⟨_,a₁,w₁,hq,.pass (x:=.inLoop c) rfl (fun _ _=>.inl (by simp)) harr⟩
   | panic ch=>exact ⟨_,a₁,w₁,hq,.pass (x:=.inLoop c) rfl (fun _ _=>.inl (by simp)) harr⟩
   | outgrown=>exact ⟨_,a₁,w₁,hq,.pass (x:=.inLoop c) rfl (fun _ _=>.inl (by simp)) harr⟩
 obtain ⟨e,a',w',hq,harr⟩:=key m a w h₀
 exact ⟨e,a',w',hq,.of_steps (.one (fenced_calm hb hr rfl) stepR_loop) harr⟩
structure KsOk (F:Fm) (b:Bool) (ds0:List Deferred) (k:Ks) (Q:Exit → Act → World → Prop):Prop where
 N:∀ ds e a w,(b = false → ds = ds0) → Rep F ds e a → k.N ds e w → Q .normal a w
 X:∀ i ds e a w,(b = false → ds = ds0) → Rep F ds e a → k.X i ds e w → Q (.exit i) a w
 R:∀ ds e a w,(b = false → ds = ds0) → Rep F ds e a → k.R ds e w → Q .ret a w
 P:∀ c ds w,(b = false → ds = ds0) → k.P c ds w → ∀ a:Act,a.defers = ds → (∀ p ∈ F.fx,a.tmps.getD p.1 undef = p.2) → Q (.panic c) a w
end Go.Proofs.YtpifnlfmojfgpaaGreatDoor.Fw
end
section
namespace Go.Proofs.YtpifnlfmojfgpaaGreatDoor.Fw
open RowKit
theorem Turn.trans {B:Nat} {a b c:World} (h:Turn B a b) (k:Turn B b c):Turn B a c:=
 ⟨fun i hi hs=>(k.old i hi (Nat.lt_of_lt_of_le hs h.size)).trans (h.old i hi hs),Nat.le_trans h.size k.size,fun i o hi ho=>k.keep i o (h.keep i o hi ho) ho,k.os.trans h.os,k.tape.trans h.tape,k.output.trans h.output⟩
theorem Turn.alloc {B:Nat} (w:World) (o:Obj):Turn B w (w.alloc o):=
 ⟨fun k _ hk=>Below.heap_alloc w o k hk,by simp,fun k o' hk _=>(Below.heap_alloc w o k (Array.getElem?_eq_some_iff.1 hk).1).trans hk,rfl,rfl,rfl⟩
theorem Turn.putLoop {B:Nat} {w:World} {l:Nat} {r r':Loop} (hB:B ≤ l) (h:w.heap[l]? = some (.loop r)):Turn B w (w.putObj l (.loop r')):=
 ⟨fun k hk _=>World.putObj_heap_other (by omega),by simp,fun k o hk ho=>by
  by_cases e:k = l
  ·subst e; rw [h] at hk; cases hk; exact absurd rfl (ho r)
  ·exact (World.putObj_heap_other e).trans hk,rfl,rfl,rfl⟩
theorem seqE_assign {P:Program} {ops:Array Oper} {C:Env → World → Prop} {Kp:List PanicEntry → World → Prop} {w:World} :
  ∀ (l:List Oper) (k:Nat) (e e1:Env),(∀ j,l[j]? = ops[k + j]?) → assignOps l e = some e1 → C e1 w → seqE P ops C Kp (List.range' k l.length) e w
 | [],k,e,e1,_,h,hc=>by simp only [assignOps,Option.some.injEq] at h; subst h; exact hc
 | o :: l,k,e,e1,hl,h,hc=>by
  have h0:ops[k]? = some o:=by simpa using (hl 0).symm
  have hl':∀ j,l[j]? = ops[k + 1 + j]?:=fun j=>by
   have:=hl (j + 1)
   rw [show k + 1 + j = k + (j + 1) by omega]; simpa using this
  simp only [assignOps] at h
  cases hg:o.guard with
  | some g=>rw [hg] at h; cases h
  | none=>
   rw [hg] at h
   have hw:wantedE ops o e = true:=by simp [wantedE,guardSlot,hg]
   rw [List.length_cons,List.range'_succ]
   unfold seqE stepE
   rw [h0]
   dsimp only
   rw [if_pos hw]
   obtain ⟨dst,op,ty,pos,after,guard⟩:=o
   cases op <;> simp only at h <;> first | (cases h; done) | skip
   all_goals exact seqE_assign l (k + 1) _ e1 hl' h hc
theorem wpIn_assign {ro:Option Nat} {P:Program} {F:Fm} {ds:List Deferred}:∀ (c:Code) (e e1:Env) (a:Act) (w:World) (Q:Exit → Act → World → Prop),okCode F true c = true → assignE c e = some e1 → Rep F ds e a →
  (∀ a,Rep F ds e1 a → Q .normal a w) → c.wpIn (Wf ro) 0 P Q a w
 | .skip,e,e1,a,w,Q,ho,h,hr,hq=>by
  simp only [assignE,Option.some.injEq] at h
  subst h
  exact wpIn_skip (hq a hr)
 | .seq x y,e,e1,a,w,Q,ho,h,hr,hq=>by
  simp only [okCode,Bool.and_eq_true] at ho
  simp only [assignE] at h
  split at h
  ·rename_i e2 h2
   refine wpIn_seq (wpIn_assign x e e2 a w _ ho.1 h2 hr fun a' hr'=>?_)
   exact wpIn_assign y e2 e1 a' w Q ho.2 h hr' hq
  ·cases h
 | .region id ops draw,e,e1,a,w,Q,ho,h,hr,hq=>by
  cases draw with
  | true=>simp [assignE] at h
  | false=>
   simp only [assignE] at h
   have hld:lastDefer ops = none:=by
    cases hl:lastDefer ops with
    | none=>rfl
    | some c=>simp only [okCode,hl] at ho; simp at ho
   simp only [okCode,hld] at ho
   refine wpIn_region (wpOpsIn_of_seqE (C:=fun e w'=>e = e1 ∧ w' = w) (Kp:=fun _ _=>False) ho (fun e a w' hr hc=>by obtain ⟨rfl,rfl⟩:=hc; exact hq a hr) (fun _ _ h=>h.elim) _ e a w hr ?_)
   have:=seqE_assign (P:=P) (ops:=ops) (C:=fun e w'=>e = e1 ∧ w' = w) (Kp:=fun _ _=>False) (w:=w) ops.toList 0 e e1 (fun j=>by simp) h ⟨rfl,rfl⟩
   rw [List.range_eq_range']
   simpa using this
 | .cond _ _ _,_,_,_,_,_,_,h,_,_=>by simp [assignE] at h
 | .block _ _,_,_,_,_,_,_,h,_,_=>by simp [assignE] at h
 | .loop _,_,_,_,_,_,_,h,_,_=>by simp [assignE] at h
 | .rangeFunc _ _ _ _,_,_,_,_,_,_,h,_,_=>by simp [assignE] at h
 | .exit _,_,_,_,_,_,_,h,_,_=>by simp [assignE] at h
 | .scope _,_,_,_,_,_,_,h,_,_=>by simp [assignE] at h
 | .label _,_,_,_,_,_,_,h,_,_=>by simp [assignE] at h
 | .goto _,_,_,_,_,_,_,h,_,_=>by simp [assignE] at h
 | .ret,_,_,_,_,_,_,h,_,_=>by simp [assignE] at h
 | .refuse _,_,_,_,_,_,_,h,_,_=>by simp [assignE] at h
theorem rep_args {F:Fm}:∀ (ps:List Nat) (vs:List Value) (e:Env) (ts:Array Value),(∀ d ∈ ps,d < F.n ∧ F.free (some d) = true) → Rep F [] e { tmps:=ts,defers:=[] } →
  Rep F [] (putArgs ps vs e) { tmps:=(ps.zip vs).foldl (fun t (p,v)=>t.setIfInBounds p v) ts,defers:=[] }
 | [],vs,e,ts,_,h=>by simpa [putArgs] using h
 | d :: ps,[],e,ts,_,h=>by simpa [putArgs] using h
 | d :: ps,v :: vs,e,ts,hp,h=>by
  simp only [putArgs,List.zip_cons_cons,List.foldl_cons]
  exact rep_args ps vs _ _ (fun d' hd'=>hp d' (by simp [hd'])) (h.put (some d) v (hp d (by simp)).2)
def roundQ (Kc:World → Prop) (Kx:Code → World → Prop):Exit → Act → World → Prop
 | .normal,_,w=>Kc w
 | .exit id,_,w=>Kx (.exit id) w
 | .ret,_,w=>Kx .ret w
 | _,_,_=>False
theorem wpIn_rangeF {P:Program} {F:Fm} {ds:List Deferred} {e:Env} {a:Act} {w:World} {Q:Exit → Act → World → Prop} {f:Operand} {ps:Array Tmp} {assign body:Code} {g:FuncId} {fi ca:Array Value} {tys:List Ty}
  {round:tdens tys → World → (World → Prop) → (Code → World → Prop) → Prop} {after:Option Code → Nat → World → Prop}
  (hr:Rep F ds e a) (hx:okX F.n f = true) (hf:ev e f = .func (.func g) fi ca) (hen:enters P g = true) (hps:ps.all (fun d=>Nat.blt d F.n && F.free (some d)) = true) (hsz:ps.size = tys.length)
  (hoa:okCode F true assign = true) (h:RangeF P g fi ca tys w round after)
  (hround:∀ x W Kc Kx,round x W Kc Kx → ∃ e1,assignE assign (putArgs ps.toList (tvals tys x) e) = some e1 ∧ ∀ l a1,Rep F [] e1 a1 → body.wpIn (Wf (some l)) 0 P (roundQ Kc Kx) a1 W)
  (hnone:∀ d a' W,Rep F (mark d :: ds) e a' → after none d W → Q .normal a' W) (hexit:∀ d id a' W,Rep F (mark d :: ds) e a' → after (some (.exit id)) d W → Q (.exit id) a' W)
  (hret:∀ d a' W,Rep F (mark d :: ds) e a' → after (some .ret) d W → Q .ret a' W) (hother:∀ d c W,after (some c) d W → c = .ret ∨ ∃ id,c = .exit id) :
  (Code.rangeFunc f ps assign body).wpIn (Wf none) 0 P Q a w:=by
 obtain ⟨xs,C,Dr,B,C0,I,Ix,hg,hC0,hB,hDr,hID,hIxD,hC,hCx,hI,hIx,h0,hro,hdone,hstop⟩:=h
 refine wpIn_rangeFunc fun fn _=>?_
 obtain ⟨rec,hrec⟩:∃ rec:LoopState → Option Code → Loop,rec = fun st pe=>{ state:=st,pending:=pe,fn,tmps:=a.tmps,params:=ps,assign,body,defers:=w.heap.size }:=⟨_,rfl⟩
 obtain ⟨W1,hW1⟩:∃ W1,(w.alloc (.deferred (some []))).alloc (.loop (rec .ready none)) = W1:=⟨_,rfl⟩
 have hL1:W1.heap[w.heap.size + 1]? = some (.loop (rec .ready none)):=by
  rw [← hW1]; have:=World.alloc_heap_new (w.alloc (.deferred (some []))) (.loop (rec .ready none)); rwa [World.size_alloc] at this
 have hK1:W1.heap[w.heap.size]? = some (.deferred (some [])):=by
  rw [← hW1]; exact (Below.heap_alloc _ _ _ (by simp)).trans (World.alloc_heap_new w _)
 have hS1:W1.heap.size = w.heap.size + 2:=by rw [← hW1,World.size_alloc,World.size_alloc]
 have hT1:Turn w.heap.size w W1:=by rw [← hW1]; exact (Turn.alloc _ _).trans (Turn.alloc _ _)
 have hev:a.eval f = .func (.func g) fi ca:=by rw [hr.ev hx]; exact hf
 refine ⟨w.heap.size + 1,[mark w.heap.size],W1,{ target:=.fn (.func g) ca,args:=fi ++ #[.func (.yield (w.heap.size + 1)) #[] #[]] },W1,g,(fi ++ #[.func (.yield (w.heap.size + 1)) #[] #[]]) ++ ca,W1,?_,?_,fun _ _=>trivial,?_,fun h=>by simp at h,?_⟩
 ·rw [← hW1,hrec]; exact run_enterLoop_outer fn a.tmps ps assign body
 ·have hres:resolve a.eval (rangeCall f (w.heap.size + 1)) 0 = Deferred.ofValue (a.eval f) (#[Operand.const (.func (.yield (w.heap.size + 1)) #[] #[])].map a.eval):=rfl
  rw [hres,hev]
  simp [Deferred.ofValue,Act.eval]
 ·exact enters_spec hen _
 ·refine callsIn_of_calls (hg (w.heap.size + 1)
   (fun i W=>I i W ∧ W.heap[w.heap.size + 1]? = some (.loop (rec .ready none)) ∧ W.heap[w.heap.size]? = some (.deferred (some [])))
   (fun W=>∃ c,Ix c W ∧ W.heap[w.heap.size + 1]? = some (.loop (rec .done (some c))) ∧ W.heap[w.heap.size]? = some (.deferred (some []))) W1 ?_ ?_ ?_ ?_ ?_ ⟨hI 0 _ _ h0 hT1,hL1,hK1⟩ (hC0 _ hT1)) ?_
  ·exact fun i W h=>hC i W h.1
  ·exact fun W ⟨c,h,_⟩=>hCx c W h
  ·rintro i W W' ⟨h1,h2,h3⟩ hb
   rw [hS1] at hb
   exact ⟨hID i _ _ h1 hb,hDr _ _ hb _ _ h2 rfl,hDr _ _ hb _ _ h3 rfl⟩
  ·rintro W W' ⟨c,h1,h2,h3⟩ hb
   rw [hS1] at hb
   exact ⟨c,hIxD c _ _ h1 hb,hDr _ _ hb _ _ h2 rfl,hDr _ _ hb _ _ h3 rfl⟩
  ·rintro i x W hx ⟨h1,h2,h3⟩
   have hlt:w.heap.size + 1 < W.heap.size:=(Array.getElem?_eq_some_iff.1 h2).1
   have hne:w.heap.size ≠ w.heap.size + 1:=by omega
   obtain ⟨W2,hW2⟩:∃ W2,W.putObj (w.heap.size + 1) (.loop { rec .ready none with state:=.busy }) = W2:=⟨_,rfl⟩
   have hT2:Turn w.heap.size W W2:=by rw [← hW2]; exact Turn.putLoop (Nat.le_succ _) h2
   have hl2:W2.heap[w.heap.size + 1]? = some (.loop { rec .ready none with state:=.busy }):=by rw [← hW2]; exact World.putObj_heap_same hlt
   have hd2:W2.heap[w.heap.size]? = some (.deferred (some [])):=by rw [← hW2]; exact (World.putObj_heap_other hne).trans h3
   have hI2:=hI i _ _ h1 hT2
   obtain ⟨e1,he1,hbody⟩:=hround _ _ _ _ (hro i x W2 hx hI2)
   refine ⟨_,_,_,_,run_yield h2 (by rw [hrec]; simp [hsz,tvals_length]),?_⟩
   have hreta:Rep F [] (putArgs ps.toList (tvals tys x) e) { tmps:=(ps.zip (tvals tys x).toArray).foldl (fun t (p,v)=>t.setIfInBounds p v) a.tmps,defers:=[] }:=by
    have:=rep_args (F:=F) ps.toList (tvals tys x) e a.tmps (fun d hd=>by
     rw [Array.all_eq_true_iff_forall_mem] at hps
     have:=hps d (by simpa using hd)
     simp only [Bool.and_eq_true] at this
     exact ⟨by simpa using this.1,this.2⟩) ⟨hr.size,hr.slots,rfl,hr.fixed,hr.low⟩
    have hz:(ps.zip (tvals tys x).toArray) = (ps.toList.zip (tvals tys x)).toArray:=by
     rw [← Array.toList_inj]; simp
    rw [hz,List.foldl_toArray]
    exact this
   rw [← Wf_none]
   refine roundIn_of_wpIn (F:=Wf none) (by trivial) ?_
   rw [show (rec .ready none).assign = assign by rw [hrec],show (rec .ready none).body = body by rw [hrec],show (rec .ready none).params = ps by rw [hrec],show (rec .ready none).tmps = a.tmps by rw [hrec]]
   refine wpIn_assign assign _ e1 _ W _ hoa he1 hreta fun a1 hr1=>?_
   refine ⟨W2,?_,?_⟩
   ·rw [← hW2]; exact run_beginRound h2 (by rw [hrec])
   ·refine wpIn_mono (hbody (w.heap.size + 1) a1 hr1) fun e2 a2 W3 hq=>?_
    have hko:∀ (W3:World) (o:Loop),KeepL W2 W3 → KeepO B W2 W3 → KeepO B W (W3.putObj (w.heap.size + 1) (.loop o)):=fun W3 o hk hb j ob hob hj=>
     (Turn.putLoop (r':=o) (Nat.le_succ _) (hk _ _ hl2 rfl)).keep j ob (hb j ob hob (hT2.keep j ob hj fun r he=>hB r (he ▸ hob))) fun r he=>hB r (he ▸ hob)
    have hfin:∀ (W3:World) (jump:Option Code),KeepL W2 W3 → (Instr.endRound (w.heap.size + 1) jump).run P W3 = .ok (.bool jump.isNone) (W3.putObj (w.heap.size + 1) (.loop (rec (if jump.isNone then .ready else .done) jump))):=fun W3 jump hk=>by
     have:=run_endRound (P:=P) jump (hk _ _ hl2 rfl)
     rw [this,hrec]
    have hkeep:∀ (W3:World) (o:Loop),KeepL W2 W3 → (W3.putObj (w.heap.size + 1) (.loop o)).heap[w.heap.size + 1]? = some (.loop o) ∧ (W3.putObj (w.heap.size + 1) (.loop o)).heap[w.heap.size]? = some (.deferred (some [])) ∧ Turn w.heap.size W3 (W3.putObj (w.heap.size + 1) (.loop o)):=fun W3 o hk=>
     ⟨World.putObj_heap_same (Array.getElem?_eq_some_iff.1 (hk _ _ hl2 rfl)).1,(World.putObj_heap_other hne).trans (hk _ _ hd2 rfl),Turn.putLoop (Nat.le_succ _) (hk _ _ hl2 rfl)⟩
    cases e2 with
    | normal=>
     obtain ⟨hk,hb,hi⟩:=hq
     obtain ⟨k1,k2,k3⟩:=hkeep W3 (rec .ready none) hk
     exact ⟨_,_,by simpa using hfin W3 none hk,⟨true,rfl,hko _ _ hk hb,.inl ⟨rfl,hI _ _ _ hi k3,k1,k2⟩⟩⟩
    | exit id=>
     obtain ⟨hk,hb,hi⟩:=hq
     obtain ⟨k1,k2,k3⟩:=hkeep W3 (rec .done (some (.exit id))) hk
     exact ⟨_,_,by simpa using hfin W3 (some (.exit id)) hk,⟨false,rfl,hko _ _ hk hb,.inr ⟨rfl,_,hIx _ _ _ hi k3,k1,k2⟩⟩⟩
    | ret=>
     obtain ⟨hk,hb,hi⟩:=hq
     obtain ⟨k1,k2,k3⟩:=hkeep W3 (rec .done (some .ret)) hk
     exact ⟨_,_,by simpa using hfin W3 (some .ret) hk,⟨false,rfl,hko _ _ hk hb,.inr ⟨rfl,_,hIx _ _ _ hi k3,k1,k2⟩⟩⟩
    | goto t=>exact hq.elim
    | panic c=>exact hq.elim
    | outgrown=>exact hq.elim
  ·rintro e' W' ⟨rfl,hj⟩
   have hne:w.heap.size ≠ w.heap.size + 1:=by omega
   have hrep:∀ d,Rep F (mark d :: ds) e { a with defers:=[mark d] ++ a.defers }:=fun d=>⟨hr.size,hr.slots,by simp [hr.defers],hr.fixed,hr.low⟩
   rcases hj with ⟨h1,h2,h3⟩ | ⟨c,h1,h2,h3⟩
   ·refine ⟨none,_,by rw [run_endLoop h2 (by rw [hrec]; simp),hrec],?_⟩
    refine hnone _ _ _ (hrep _) (hdone _ _ ((World.putObj_heap_other hne).trans h3) (Nat.le_refl _) (hI _ _ _ h1 (Turn.putLoop (Nat.le_succ _) h2)))
   ·refine ⟨some c,_,by rw [run_endLoop h2 (by rw [hrec]; simp),hrec],?_⟩
    have haf:=hstop c _ _ ((World.putObj_heap_other hne).trans h3) (Nat.le_refl _) (hIx _ _ _ h1 (Turn.putLoop (r':={ rec .done (some c) with state:=.exhausted }) (Nat.le_succ _) h2))
    have haf':=haf
    rw [hrec] at haf'
    rcases hother _ _ _ haf with rfl | ⟨id,rfl⟩
    ·exact wpIn_ret (hret _ _ _ (hrep _) haf')
    ·exact wpIn_exit (hexit _ _ _ _ (hrep _) haf')
end Go.Proofs.YtpifnlfmojfgpaaGreatDoor.Fw
end
section
namespace Go.Proofs.YtpifnlfmojfgpaaGreatDoor.Fw
open RowKit
theorem KsOk.sub {F:Fm} {b b':Bool} {ds ds':List Deferred} {k:Ks} {Q:Exit → Act → World → Prop} (h:KsOk F b ds k Q) (hb:b = false → b' = false ∧ ds' = ds):KsOk F b' ds' k Q:=
 ⟨fun d e a w hd=>h.N d e a w (fun hf=>(hd (hb hf).1).trans (hb hf).2),fun i d e a w hd=>h.X i d e a w (fun hf=>(hd (hb hf).1).trans (hb hf).2),
  fun d e a w hd=>h.R d e a w (fun hf=>(hd (hb hf).1).trans (hb hf).2),fun c d w hd=>h.P c d w (fun hf=>(hd (hb hf).1).trans (hb hf).2)⟩
theorem KsOk.setN {F:Fm} {b b':Bool} {ds:List Deferred} {k:Ks} {N:List Deferred → KN} {Q Q':Exit → Act → World → Prop} (h:KsOk F b ds k Q) (hb:b = false → b' = false)
  (hN:∀ d e a w,(b' = false → d = ds) → Rep F d e a → N d e w → Q' .normal a w) (hx:∀ e a w,e ≠ .normal → Q e a w → Q' e a w):KsOk F b' ds { k with N:=N } Q':=
 ⟨hN,fun i d e a w hd hr hk=>hx _ _ _ (by simp) (h.X i d e a w (fun hf=>hd (hb hf)) hr hk),fun d e a w hd hr hk=>hx _ _ _ (by simp) (h.R d e a w (fun hf=>hd (hb hf)) hr hk),
  fun c d w hd hk a ha hf=>hx _ _ _ (by simp) (h.P c d w (fun hf=>hd (hb hf)) hk a ha hf)⟩
theorem wpOpsIn_append_seqE {ro:Option Nat} {P:Program} {ops:Array Oper} {F:Fm} {ds:List Deferred} {C:Env → World → Prop} {Kp:List PanicEntry → World → Prop} {Q:Exit → Act → World → Prop} {l':List Nat}
  (hok:∀ (i:Nat) (o:Oper),i < ops.size - 1 → ops[i]? = some o → okOp ops F o = true) (hq:∀ e a w,Rep F ds e a → C e w → wpOpsIn (Wf ro) 0 P ops Q l' a w) (hp:∀ c w,Kp c w → ∀ a:Act,a.defers = ds → (∀ p ∈ F.fx,a.tmps.getD p.1 undef = p.2) → Q (.panic c) a w) :
  ∀ (l:List Nat) (e:Env) (a:Act) (w:World),(∀ i ∈ l,i < ops.size - 1) → Rep F ds e a → seqE P ops C Kp l e w → wpOpsIn (Wf ro) 0 P ops Q (l ++ l') a w
 | [],e,a,w,_,hr,h=>hq e a w hr h
 | i :: l,e,a,w,hl,hr,h=>by
  have hi:i < ops.size - 1:=hl i (by simp)
  rw [List.cons_append,wpOpsIn_cons]
  unfold seqE stepE at h
  unfold wpOpIn
  have ho:ops[i]? = some ops[i]:=Array.getElem?_eq_getElem (by omega)
  rw [ho] at h ⊢
  have hoo:=hok i _ hi ho
  dsimp only at h ⊢
  rw [wanted_rep hr (guardOk_of_ok hoo)]
  have ih:=fun e a w hr h=>wpOpsIn_append_seqE (ro:=ro) hok hq hp l e a w (fun j hj=>hl j (by simp [hj])) hr h
  by_cases hw:wantedE ops ops[i] e = true
  ·rw [if_pos hw] at h
   rw [if_pos hw]
   refine ⟨fun _ _=>trivial,?_⟩
   rw [semAt_of_ok hoo,execOp_rep hr hoo]
   exact good_uponIn h (fun v w hv=>ih _ _ _ (hr.put _ _ (free_of_ok hoo)) hv) (fun c w hc=>hp c w hc a hr.defers hr.at)
  ·rw [if_neg hw] at h
   rw [if_neg hw]
   exact ⟨fun _ _=>trivial,ih _ _ _ (hr.put _ _ (free_of_ok hoo)) h⟩
theorem seqE_pop {P:Program} {ops:Array Oper} {C:Env → World → Prop} {Kp:List PanicEntry → World → Prop} (hg:ops.pop.all (fun o=>o.guard.isNone) = true) :
  ∀ (l:List Nat) (e:Env) (w:World),(∀ i ∈ l,i < ops.size - 1) → seqE P ops.pop C Kp l e w → seqE P ops C Kp l e w
 | [],_,_,_,h=>h
 | i :: l,e,w,hl,h=>by
  have hi:i < ops.size - 1:=hl i (by simp)
  unfold seqE stepE at h ⊢
  have hp:ops.pop[i]? = ops[i]?:=by simp [Array.getElem?_pop,hi]
  rw [hp] at h
  have ho:ops[i]? = some ops[i]:=Array.getElem?_eq_getElem (by omega)
  rw [ho] at h ⊢
  dsimp only at h ⊢
  have hgi:ops[i].guard = none:=by
   rw [Array.all_eq_true_iff_forall_mem] at hg
   have:=hg ops[i] (Array.mem_of_getElem? (hp.trans ho))
   simpa using this
  have hwa:∀ os:Array Oper,wantedE os ops[i] e = true:=fun os=>by simp [wantedE,guardSlot,hgi]
  rw [if_pos (hwa _)] at h ⊢
  exact Good.mono h (fun v w' hv=>seqE_pop hg l _ _ (fun j hj=>hl j (by simp [hj])) hv) (fun _ _ h=>h)
theorem lastDefer_spec {ops:Array Oper} {c:Call} (h:lastDefer ops = some c):0 < ops.size ∧ ∃ o,ops[ops.size - 1]? = some o ∧ ops.toList.getLast? = some o ∧ o.op = .defer c:=by
 unfold lastDefer at h
 split at h
 ·rename_i o ho
  have hne:0 < ops.size:=by
   rcases Nat.eq_zero_or_pos ops.size with h0 | h0
   ·have:ops.toList = []:=by simpa using h0
    rw [this] at ho; cases ho
   ·exact h0
  refine ⟨hne,o,?_,ho,?_⟩
  ·rw [List.getLast?_eq_getElem?] at ho
   simpa using ho
  ·split at h
   ·rename_i c' hc; cases h; exact hc
   ·cases h
 ·cases h
theorem deferOf_run {P:Program} {e:Env} {c:Call} {d:Deferred} {ty:TypeId} {w:World} (h:deferOf e c = some d):(resolve (ev e) c ty).run P w = .ok d w:=by
 unfold deferOf at h
 obtain ⟨callee,args,ats⟩:=c
 cases callee with
 | builtin b=>cases h
 | invoke r m=>cases h
 | value f=>
  dsimp only at h
  split at h
  ·rename_i fn fi ca hf
   cases h
   have hres:resolve (ev e) ⟨.value f,args,ats⟩ ty = Deferred.ofValue (ev e f) (args.map (ev e)):=rfl
   rw [hres,hf]
   simp [Deferred.ofValue]
  ·cases h
theorem wpIn_deferRegion {P:Program} {F:Fm} {ds:List Deferred} {e:Env} {a:Act} {w:World} {Q:Exit → Act → World → Prop} {ops:Array Oper} {id:Nat} {c:Call} {K:Deferred → Env → World → Prop} {Kp:List PanicEntry → World → Prop}
  (hl:lastDefer ops = some c) (hok:okDefer F ops c = true) (hr:Rep F ds e a)
  (h:seqW P ops.pop (fun e w=>match deferOf e c with | some d=>K d e w | none=>False) Kp (List.range ops.pop.size) [] e w)
  (hq:∀ d e a w,Rep F (d :: ds) e a → K d e w → Q .normal a w) (hp:∀ c w,Kp c w → ∀ a:Act,a.defers = ds → (∀ p ∈ F.fx,a.tmps.getD p.1 undef = p.2) → Q (.panic c) a w) :
  (Code.region id ops false).wpIn (Wf none) 0 P Q a w:=by
 obtain ⟨hne,o,ho,hlast,hop⟩:=lastDefer_spec hl
 unfold okDefer at hok
 rw [hlast] at hok
 simp only [Bool.and_eq_true,Option.isNone_iff_eq_none] at hok
 obtain ⟨⟨⟨h1,h2⟩,hg,hd⟩,h3⟩:=hok
 refine wpIn_region ?_
 have hrange:List.range ops.size = List.range (ops.size - 1) ++ [ops.size - 1]:=by
  conv=>lhs; rw [show ops.size = (ops.size - 1) + 1 by omega]
  rw [List.range_succ]
 rw [hrange]
 have hs:=seqE_of_seqW _ _ _ _ h
 rw [Array.size_pop] at hs
 have hs:=seqE_pop h3 _ _ _ (fun i hi=>by simpa using hi) hs
 refine wpOpsIn_append_seqE (ro:=none) ?_ ?_ hp _ e a w (fun i hi=>by simpa using hi) hr hs
 ·intro i o' hi ho'
  have hpo:ops.pop[i]? = some o':=by rw [Array.getElem?_pop,if_pos hi,ho']
  have hok':=okOp_at h1 hpo
  rw [Array.all_eq_true_iff_forall_mem] at h3
  have hgn:o'.guard = none:=by simpa using h3 o' (Array.mem_of_getElem? hpo)
  simp only [okOp,guardOk,hgn,Bool.and_eq_true] at hok' ⊢
  exact hok'
 ·intro e a w hr hc
  unfold wpOpsIn
  rw [ho]
  dsimp only
  have hw:Region.wanted o (yielded ops a.tmps) = true:=by simp [Region.wanted,hg]
  rw [if_pos hw]
  refine ⟨fun _ _=>trivial,?_⟩
  have hsem:o.semAt (Wf none).round a.eval = (do pure (.defer (← resolve a.eval c o.type)):Sem Next):=by
   obtain ⟨dst,op,ty,pos,after,guard⟩:=o
   subst hop
   rfl
  rw [hsem]
  have hcong:resolve a.eval c o.type = resolve (ev e) c o.type:=resolve_congr c o.type fun x hx=>hr.ev (by
   rw [Array.all_eq_true_iff_forall_mem] at h2
   exact h2 x hx)
  rw [hcong]
  split at hc
  ·rename_i d hdf
   rw [Sem.run_bind,deferOf_run hdf]
   have hstep:o.uponIn (Wf none) 0 P a (wpOpsIn (Wf none) 0 P ops Q []) Q (.ok (.defer d) w) = wpOpsIn (Wf none) 0 P ops Q [] ({ a with defers:=d :: a.defers }.put o.dst undef) w:=rfl
   show o.uponIn (Wf none) 0 P a (wpOpsIn (Wf none) 0 P ops Q []) Q (.ok (.defer d) w)
   rw [hstep,hd]
   exact hq d e _ w ⟨hr.size,hr.slots,by simp [Act.put,hr.defers],hr.fixed,hr.low⟩ hc
  ·exact hc.elim
theorem wpIn_of_wpc {P:Program} {A:Ann} {F:Fm} (hm:P.follows .mixedOrders = true) :
  ∀ (c:Code) (ro:Option Nat) (k:Ks) (ds:List Deferred) (e:Env) (a:Act) (w:World) (Q:Exit → Act → World → Prop),okCode F ro.isSome c = true → Rep F ds e a → KsOk F (hasRF c) ds k Q → wpc P A c k ds e w → c.wpIn (Wf ro) 0 P Q a w
 | .skip,ro,k,ds,e,a,w,Q,ho,hr,hk,h=>wpIn_skip (hk.N ds _ _ _ (fun _=>rfl) hr h)
 | .region id ops draw,ro,k,ds,e,a,w,Q,ho,hr,hk,h=>by
  simp only [wpc] at h
  simp only [okCode] at ho
  split at h
  ·rename_i hl
   rw [hl] at ho
   exact wpIn_regW hm ho hr h (fun e a w hr hn=>hk.N ds e a w (fun _=>rfl) hr hn) (fun c w hc=>hk.P c ds w (fun _=>rfl) hc)
  ·rename_i c hl
   rw [hl] at ho
   simp only [Bool.and_eq_true,Bool.not_eq_true'] at ho
   obtain ⟨⟨h1,h2⟩,h3⟩:=ho
   have:ro = none:=by cases ro <;> simp_all
   subst this
   have:draw = false:=h2
   subst this
   have hrf:hasRF (.region id ops false) = true:=by
    obtain ⟨_,o,_,hlast,hop⟩:=lastDefer_spec hl
    simp [hasRF,hlast,hop]
   rw [hrf] at hk
   exact wpIn_deferRegion (K:=fun d e w=>k.N (d :: ds) e w) hl h3 hr h (fun d e a w hr hn=>hk.N _ e a w (fun h=>by cases h) hr hn) (fun c w hc=>hk.P c ds w (fun h=>by cases h) hc)
 | .seq x y,ro,k,ds,e,a,w,Q,ho,hr,hk,h=>by
  simp only [okCode,Bool.and_eq_true] at ho
  simp only [wpc] at h
  have hb:hasRF (.seq x y) = false → hasRF x = false ∧ hasRF y = false:=by simp [hasRF]
  have hthen:∀ (K:Act → World → Prop) e a w,e ≠ Exit.normal → Q e a w → Exit.then K Q e a w:=fun K e a w hne hq=>by
   cases e <;> first | exact absurd rfl hne | exact hq
  have hy:∀ ds',(hasRF x = false → ds' = ds) → KsOk F (hasRF y) ds' k Q:=fun ds' hd=>hk.sub fun hf=>⟨(hb hf).2,hd (hb hf).1⟩
  refine wpIn_seq ?_
  split at h
  ·refine wpIn_of_wpc hm x ro _ ds e a w _ ho.1 hr (hk.setN (fun hf=>(hb hf).1) (fun d e a w hd hr hn=>?_) (hthen _)) h
   exact wpIn_of_wpc hm y ro k d e a w Q ho.2 hr (hy d hd) hn
  ·rename_i l _
   cases hx:hasRF x with
   | true=>
    rw [hx] at h
    refine wpIn_of_wpc hm x ro _ ds e a w _ ho.1 hr (hk.setN (fun hf=>(hb hf).1) (fun d e a w hd hr hn=>?_) (hthen _)) h
    obtain ⟨xs,hxs,hj⟩:=getTs_spec l e _ hn
    have:=hj e
    dsimp only at this
    rw [hxs] at this
    exact wpIn_of_wpc hm y ro k d e a w Q ho.2 hr (hy d hd) this
   | false=>
    rw [hx] at h
    refine wpIn_of_wpc hm x ro _ ds e a w _ ho.1 hr (hk.setN (fun hf=>(hb hf).1) (fun d e' a' w' hd hr' hn=>?_) (hthen _)) h
    obtain rfl:=hd hx
    obtain ⟨xs,hxs,hj⟩:=getTs_spec l e' _ hn
    have:=hj e'
    dsimp only at this
    rw [hxs] at this
    exact wpIn_of_wpc hm y ro k d e' a' w' Q ho.2 hr' (hy d (fun _=>rfl)) this
 | .cond c x y,ro,k,ds,e,a,w,Q,ho,hr,hk,h=>by
  simp only [okCode,Bool.and_eq_true] at ho
  simp only [wpc] at h
  have hb:hasRF (.cond c x y) = false → hasRF x = false ∧ hasRF y = false:=by simp [hasRF]
  split at h
  ·rename_i t ht
   refine wpIn_cond (t:=t) (by rw [hr.ev ho.1.1]; exact ht) ?_
   cases t with
   | true=>exact wpIn_of_wpc hm x ro k ds e a w Q ho.1.2 hr (hk.sub fun hf=>⟨(hb hf).1,rfl⟩) (h.1 rfl)
   | false=>exact wpIn_of_wpc hm y ro k ds e a w Q ho.2 hr (hk.sub fun hf=>⟨(hb hf).2,rfl⟩) (h.2 rfl)
  ·exact h.elim
 | .block id c,ro,k,ds,e,a,w,Q,ho,hr,hk,h=>by
  simp only [okCode] at ho
  simp only [wpc] at h
  refine wpIn_block ?_
  refine wpIn_of_wpc hm c ro _ ds e a w _ ho hr ?_ h
  refine ⟨fun d e a w hd hr hn=>hk.N d e a w hd hr hn,fun i d e a w hd hr hx=>?_,fun d e a w hd hr hx=>hk.R d e a w hd hr hx,fun c d w hd hc a ha hf=>hk.P c d w hd hc a ha hf⟩
  simp only [Exit.inBlock]
  cases hb:Nat.beq i id with
  | true=>
   have:i = id:=Nat.eq_of_beq_eq_true hb
   simp only [hb] at hx
   rw [if_pos this]; exact hk.N d e a w hd hr hx
  | false=>
   have:i ≠ id:=fun he=>by subst he; rw [Nat.beq_refl] at hb; cases hb
   simp only [hb] at hx
   rw [if_neg this]; exact hk.X i d e a w hd hr hx
 | .exit id,ro,k,ds,e,a,w,Q,ho,hr,hk,h=>wpIn_exit (hk.X id ds _ _ _ (fun _=>rfl) hr h)
 | .ret,ro,k,ds,e,a,w,Q,ho,hr,hk,h=>wpIn_ret (hk.R ds _ _ _ (fun _=>rfl) hr h)
 | .loop c,ro,k,ds,e,a,w,Q,ho,hr,hk,h=>by
  simp only [okCode] at ho
  simp only [wpc] at h
  have hthen:∀ (K:Act → World → Prop) e a w,e ≠ Exit.normal → Q e a w → Exit.then K Q e a w:=fun K e a w hne hq=>by
   cases e <;> first | exact absurd rfl hne | exact hq
  obtain ⟨xs,hxs,h⟩:=getTs_spec _ e _ h
  have hk':KsOk F (hasRF c) ds k Q:=hk
  cases hrf:hasRF c with
  | true=>
   rw [hrf] at h hk'
   obtain ⟨I,μ,h0,hround⟩:=h
   refine wpIn_loop_n (fun m a w=>∃ e xs ds,Rep F ds e a ∧ putTs (loopOf A c) xs e = e ∧ I xs ds w ∧ m = μ xs w) (μ xs w) ⟨e,xs,ds,hr,hxs,h0,rfl⟩ ?_
   rintro m a w ⟨e,xs,ds1,hr,hxs,hI,rfl⟩
   have:=hround xs ds1 e w hI
   dsimp only at this
   rw [hxs] at this
   refine wpIn_of_wpc hm c ro _ ds1 e a w _ ho hr ?_ this
   rw [hrf]
   refine (hk'.sub (b':=true) (ds':=ds1) (fun h=>by cases h)).setN (fun h=>h) (fun d e' a w' hd hr hn=>?_) (hthen _)
   obtain ⟨ys,hys,hI',hlt⟩:=getTs_spec _ e' _ hn
   exact ⟨_,hlt,e',ys,d,hr,hys,hI',rfl⟩
  | false=>
   rw [hrf] at h hk'
   obtain ⟨I,μ,h0,hround⟩:=h
   refine wpIn_loop_n (fun m a w=>∃ e xs,Rep F ds e a ∧ putTs (loopOf A c) xs e = e ∧ I xs w ∧ m = μ xs w) (μ xs w) ⟨e,xs,hr,hxs,h0,rfl⟩ ?_
   rintro m a w ⟨e,xs,hr,hxs,hI,rfl⟩
   have:=hround xs e w hI
   dsimp only at this
   rw [hxs] at this
   refine wpIn_of_wpc hm c ro _ ds e a w _ ho hr ?_ this
   rw [hrf]
   refine hk'.setN (fun h=>h) (fun d e' a' w' hd hr' hn=>?_) (hthen _)
   obtain rfl:=hd rfl
   obtain ⟨ys,hys,hI',hlt⟩:=getTs_spec _ e' _ hn
   exact ⟨_,hlt,e',ys,hr',hys,hI',rfl⟩
 | .rangeFunc f ps assign body,ro,k,ds,e,a,w,Q,ho,hr,hk,h=>by
  simp only [okCode,Bool.and_eq_true,Bool.not_eq_true'] at ho
  obtain ⟨⟨⟨⟨h1,h2⟩,h3⟩,h4⟩,h5⟩:=ho
  have:ro = none:=by cases ro <;> simp_all
  subst this
  simp only [wpc] at h
  split at h
  ·rename_i g fi ca hf
   split at h
   ·rename_i tys hty
    cases hb:(enters P g && !hasRF body && Nat.beq ps.size tys.length) with
    | false=>rw [hb] at h; exact h.elim
    | true=>
     rw [hb] at h
     simp only [cond_true] at h
     simp only [Bool.and_eq_true,Bool.not_eq_true'] at hb
     obtain ⟨⟨hb1,hb2⟩,hb3⟩:=hb
     have hrf:hasRF (.rangeFunc f ps assign body) = true:=rfl
     rw [hrf] at hk
     refine wpIn_rangeF hr h2 hf hb1 h3 (Nat.eq_of_beq_eq_true hb3) h4 h ?_ ?_ ?_ ?_ ?_
     ·intro x W Kc Kx hx
      split at hx
      ·rename_i e1 he1
       refine ⟨e1,he1,fun l a1 hr1=>?_⟩
       refine wpIn_of_wpc hm body (some l) _ [] e1 a1 W _ h5 hr1 ?_ hx
       exact ⟨fun _ _ _ _ _ _ h=>h,fun _ _ _ _ _ _ _ h=>h,fun _ _ _ _ _ _ h=>h,fun _ _ _ _ h=>h.elim⟩
      ·exact hx.elim
     ·exact fun d a' W hr h=>hk.N _ _ _ _ (fun h=>by cases h) hr h
     ·exact fun d id a' W hr h=>hk.X _ _ _ _ _ (fun h=>by cases h) hr (exitK_spec h)
     ·exact fun d a' W hr h=>hk.R _ _ _ _ (fun h=>by cases h) hr h
     ·intro d c W h
      split at h
      ·rename_i hc; cases hc
      ·rename_i id hc; cases hc; exact .inr ⟨id,rfl⟩
      ·rename_i hc; cases hc; exact .inl rfl
      ·exact h.elim
   ·exact h.elim
  ·exact h.elim
 | .scope c,ro,k,ds,e,a,w,Q,ho,hr,hk,h=>h.elim
 | .label _,ro,k,ds,e,a,w,Q,ho,hr,hk,h=>h.elim
 | .goto _,ro,k,ds,e,a,w,Q,ho,hr,hk,h=>h.elim
 | .refuse _,ro,k,ds,e,a,w,Q,ho,hr,hk,h=>h.elim
end Go.Proofs.YtpifnlfmojfgpaaGreatDoor.Fw
end
section
namespace Go.Proofs.YtpifnlfmojfgpaaGreatDoor.Fw
open RowKit
def resVal (P:Program) (r:ResultVar) (e:Env) (w:World) (K:Value → Prop):Prop:=
 match r with
 | .tmp t=>K (e t)
 | .cell a t=>
  match e a with
  | .pointer (some ad)=>
   match tyOf P t with
   | .sc s=>bif (P.underlying t).isSome then LoadT (.sc s) w ad fun y=>K (s.val y) else False
   | .agg l=>bif Nat.beq (sizeP P t) l.length && (P.info? t).isSome then LoadT (.agg l) w ad fun y=>K (.agg (vals l y).toArray) else False
  | _=>False
def retW (P:Program) (e:Env) (w:World):List ResultVar → (List Value → Prop) → Prop
 | [],K=>K []
 | r :: rs,K=>resVal P r e w fun v=>retW P e w rs fun vs=>K (v :: vs)
def oneOr:List Value → Value
 | [v]=>v
 | vs=>.tuple vs.toArray
def okRes (n:Nat):ResultVar → Bool
 | .tmp t=>Nat.blt t n
 | .cell a _=>Nat.blt a n
theorem run_loadVar_of {P:Program} {t:TypeId} {a:Addr} {w:World} {K:Value → Prop} (h:match tyOf P t with
   | .sc s=>bif (P.underlying t).isSome then LoadT (.sc s) w a fun y=>K (s.val y) else False
   | .agg l=>bif Nat.beq (sizeP P t) l.length && (P.info? t).isSome then LoadT (.agg l) w a fun y=>K (.agg (vals l y).toArray) else False):∃ v,(loadVar t a).run P w = .ok v w ∧ K v:=by
 unfold tyOf at h
 cases hu:P.underlying t with
 | none=>
  have hag:isAggT P t = false:=by unfold isAggT; rw [hu]
  rw [hag,hu] at h
  exact h.elim
 | some d=>
 cases hag:isAggT P t with
 | false=>
  rw [hag,hu] at h
  obtain ⟨x,hc,hk⟩:=h
  exact ⟨_,by simp [loadVar,run_isAgg hu,hag,hc],hk⟩
 | true=>
  rw [hag] at h
  simp only [cond_true] at h
  cases hb:(Nat.beq (sizeP P t) (scsOf P 8 t).length && (P.info? t).isSome) with
  | false=>rw [hb] at h; exact h.elim
  | true=>
   rw [hb] at h
   obtain ⟨x,hc,hk⟩:=h
   simp only [Bool.and_eq_true] at hb
   have hlen:(vals (scsOf P 8 t) x).length = (scsOf P 8 t).length:=vals_length _ _
   have hsz:sizeP P t = (vals (scsOf P 8 t) x).length:=by rw [hlen]; exact Nat.eq_of_beq_eq_true hb.1
   refine ⟨_,?_,hk⟩
   simp only [loadVar,Sem.run_bind,run_isAgg hu,Result.andThen_ok,hag,if_true,run_sizeOf_some hb.2,hsz,run_loadCells_holds hc,Sem.run_pure]
def resSem (tmps:Array Value):ResultVar → Sem Value
 | .tmp t=>pure (tmps.getD t undef)
 | .cell a t=>do loadVar t (← asAddr (tmps.getD a undef))
theorem run_resSem {P:Program} {F:Fm} {ds:List Deferred} {e:Env} {a:Act} {w:World} (hr:Rep F ds e a):∀ (rs:List ResultVar) (K:List Value → Prop),rs.all (okRes F.n) = true → retW P e w rs K →
  ∃ vs,(rs.mapM (resSem a.tmps)).run P w = .ok vs w ∧ K vs ∧ vs.length = rs.length
 | [],K,_,h=>⟨[],by simp,h,rfl⟩
 | r :: rs,K,ho,h=>by
  simp only [List.all_cons,Bool.and_eq_true] at ho
  have step:∀ K:Value → Prop,resVal P r e w K → ∃ v,(resSem a.tmps r).run P w = .ok v w ∧ K v:=fun K hk=>by
   cases r with
   | tmp t=>
    refine ⟨e t,?_,hk⟩
    have:=hr.slots t (by simpa [okRes] using ho.1)
    simp only [resSem,this,Sem.run_pure]
   | cell ad t=>
    have hs:=hr.slots ad (by simpa [okRes] using ho.1)
    simp only [resVal] at hk
    split at hk
    ·rename_i b hb
     obtain ⟨v,h1,h2⟩:=run_loadVar_of hk
     exact ⟨v,by simp only [resSem,hs,hb,asAddr,Sem.run_bind,Sem.run_pure,Result.andThen_ok,h1],h2⟩
    ·exact hk.elim
  obtain ⟨v,h1,h2⟩:=step _ h
  obtain ⟨vs,h3,h4,h5⟩:=run_resSem hr rs _ ho.2 h2
  exact ⟨v :: vs,by simp [List.mapM_cons,h1,h3],h4,by simp [h5]⟩
theorem run_results_of {P:Program} {fn:Func} {F:Fm} {ds:List Deferred} {e:Env} {a:Act} {w:World} {K:List Value → Prop} (hr:Rep F ds e a) (ho:fn.results.toList.all (okRes F.n) = true) (h:retW P e w fn.results.toList K) :
  ∃ vs,(results fn a.tmps).run P w = .ok (oneOr vs) w ∧ K vs:=by
 obtain ⟨vs,h1,h2,_⟩:=run_resSem hr _ _ ho h
 refine ⟨vs,?_,h2⟩
 have hm:(fn.results.mapM (resSem a.tmps)).run P w = .ok vs.toArray w:=by
  have:fn.results = fn.results.toList.toArray:=by simp
  rw [this,List.mapM_toArray,Sem.run_map,h1]
  rfl
 have hre:results fn a.tmps = (do let vs ← fn.results.mapM (resSem a.tmps); pure (if h:vs.size = 1 then vs[0] else .tuple vs)):=rfl
 rw [hre,Sem.run_bind,hm]
 match vs with
 | []=>rfl
 | [v]=>rfl
 | _ :: _ :: _=>simp [oneOr]
def env0 (args:Array Value):Env:=fun t=>args.getD t undef
def okFn (fn:Func) (c:Code) (k:Nat):Bool:=okCode ⟨fn.ntmps,[]⟩ false c && fn.results.toList.all (okRes fn.ntmps) && Nat.ble k fn.ntmps
theorem rep0 {args:Array Value} {n:Nat} {fx:List (Nat × Value)} (h:args.size ≤ n) (hfx:∀ p ∈ fx,env0 args p.1 = p.2) (hl:∀ p ∈ fx,p.1 < n):Rep ⟨n,fx⟩ [] (env0 args) { tmps:=args ++ Array.replicate (n - args.size) undef,defers:=[] }:=by
 refine ⟨by simp; omega,fun t ht=>?_,rfl,hfx,hl⟩
 unfold env0
 by_cases hlt:t < args.size
 ·simp [Array.getElem?_append,hlt]
 ·simp [Array.getElem?_append,hlt,show t - args.size < n - args.size by simp at ht; omega]
def RetM:List Deferred → World → (World → Prop) → Prop
 | [],w,K=>K w
 | d :: ds,w,K=>
  match d.target with
  | .collected r=>w.heap[r]? = some (.deferred (some [])) ∧ RetM ds (w.putObj r (.deferred none)) K
  | .fn _ _=>False
  | _=>False
theorem leavesM_of_ret {P:Program} {fn:Func} {tmps:Array Value} {R:Ending → World → Prop} {K:World → Prop} (h0:∀ w,K w → ∃ v,(results fn tmps).run P w = .ok v w ∧ R (.returned v) w) :
  ∀ (ds:List Deferred) (w:World),RetM ds w K → LeavesInM (Wf none) 0 P fn tmps R ds .returning w
 | [],w,h=>h0 w h
 | d :: ds,w,h=>by
  unfold RetM at h
  refine ⟨by simp,.inl ?_⟩
  split at h
  ·rename_i r hr
   exact ⟨r,_,hr,run_takeDeferred h.1,leavesM_of_ret h0 ds _ h.2⟩
  ·exact h.elim
  ·exact h.elim
theorem leavesM_of_panic {P:Program} {fn:Func} {tmps:Array Value} {R:Ending → World → Prop} {ch:List PanicEntry} {K:World → Prop} (h0:∀ w,K w → R (.panicked ch) w) :
  ∀ (ds:List Deferred) (w:World),RetM ds w K → LeavesInM (Wf none) 0 P fn tmps R ds (.panicking ch) w
 | [],w,h=>h0 w h
 | d :: ds,w,h=>by
  unfold RetM at h
  refine ⟨by simp,.inl ?_⟩
  split at h
  ·rename_i r hr
   exact ⟨r,_,hr,run_takeDeferred h.1,leavesM_of_panic h0 ds _ h.2⟩
  ·exact h.elim
  ·exact h.elim
def fnKs (P:Program) (fn:Func) (R:Ending → World → Prop):Ks where
 N:=fun ds e w=>RetM ds w fun w=>retW P e w fn.results.toList fun vs=>R (.returned (oneOr vs)) w
 X:=fun _ _ _ _=>False
 R:=fun ds e w=>RetM ds w fun w=>retW P e w fn.results.toList fun vs=>R (.returned (oneOr vs)) w
 P:=fun ch ds w=>RetM ds w fun w=>R (.panicked ch) w
def defKs (sl:List Nat) (Rn:List Deferred → List Value → World → Prop) (Rp:List PanicEntry → List Deferred → World → Prop):Ks where
 N:=fun ds e w=>Rn ds (sl.map e) w
 X:=fun _ _ _ _=>False
 R:=fun ds e w=>Rn ds (sl.map e) w
 P:=Rp
theorem calls_of_wpc {P:Program} {A:Ann} {f:FuncId} {fn:Func} {c:Code} {args:Array Value} {w:World} {R:Ending → World → Prop} (hm:P.follows .mixedOrders = true) (hf:P.funcs[f]? = some fn) (hb:fn.body = some c)
  (ho:okFn fn c args.size = true) (h:wpc P A c (fnKs P fn R) [] (env0 args) w):Calls P f args w R:=by
 simp only [okFn,Bool.and_eq_true] at ho
 obtain ⟨⟨h1,h2⟩,h3⟩:=ho
 refine (callsIn_wide (n:=0)).1 ?_
 rw [← Wf_none]
 refine callsIn_of_wp_marks hf hb trivial ?_
 refine wpIn_of_wpc (F:=⟨fn.ntmps,[]⟩) hm c none _ [] _ _ w _ h1 (rep0 (Nat.le_of_ble_eq_true h3) (by simp) (by simp)) ?_ h
 have hret:∀ (ds:List Deferred) (e:Env) (a:Act) (w:World),Rep ⟨fn.ntmps,[]⟩ ds e a → (RetM ds w fun w=>retW P e w fn.results.toList fun vs=>R (.returned (oneOr vs)) w) → LeavesInM (Wf none) 0 P fn a.tmps R a.defers .returning w:=fun ds e a w hr hn=>by
  rw [hr.defers]
  refine leavesM_of_ret (fun w hk=>?_) ds w hn
  obtain ⟨vs,h4,h5⟩:=run_results_of hr h2 hk
  exact ⟨_,h4,h5⟩
 refine ⟨fun ds e a w _ hr hn=>hret ds e a w hr hn,fun i ds e a w _ hr hx=>hx.elim,fun ds e a w _ hr hx=>hret ds e a w hr hx,fun ch ds w _ hc a ha _=>?_⟩
 show LeavesInM (Wf none) 0 P fn a.tmps R a.defers (.panicking ch) w
 rw [ha]
 exact leavesM_of_panic (fun w hk=>hk) ds w hc
theorem wp_of_wpc {P:Program} {A:Ann} {fn:Func} {c:Code} {e:Env} {a:Act} {w:World} {R:Ending → World → Prop} {n:Nat} (hm:P.follows .mixedOrders = true) (ho:(okCode ⟨n,[]⟩ false c && fn.results.toList.all (okRes n)) = true) (hrf:hasRF c = false)
  (hr:Rep ⟨n,[]⟩ [] e a) (h:wpc P A c (fnKs P fn R) [] e w):c.wp P (bodyPost P fn R) a w:=by
 simp only [Bool.and_eq_true] at ho
 refine (wpIn_wide (n:=0)).1 ?_
 rw [← Wf_none]
 refine wpIn_of_wpc (F:=⟨n,[]⟩) hm c none _ [] _ _ w _ ho.1 hr ?_ h
 rw [hrf]
 refine ⟨fun ds e a w hd hr hn=>?_,fun i ds e a w _ hr hx=>hx.elim,fun ds e a w hd hr hx=>?_,fun ch ds w hd hc a ha _=>?_⟩
 ·obtain rfl:=hd rfl
  obtain ⟨vs,h4,h5⟩:=run_results_of hr ho.2 hn
  exact ⟨hr.defers,_,h4,h5⟩
 ·obtain rfl:=hd rfl
  obtain ⟨vs,h4,h5⟩:=run_results_of hr ho.2 hx
  exact ⟨hr.defers,_,h4,h5⟩
 ·obtain rfl:=hd rfl
  exact ⟨ha,hc⟩
end Go.Proofs.YtpifnlfmojfgpaaGreatDoor.Fw
end
