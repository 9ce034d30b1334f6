/- Parts of a proof, laid one behind the other by our own merge.py: FwBase FwOp FwOpS FwOpM FwReg PwDefs. -/
import Derived.RangeFuncLeaves
import Derived.OrdersIn
import Derived.Laws.Cells
import Derived.Laws.Build
import Derived.Laws.Strings
import Derived.Laws.Entries
import Derived.Laws.World
import Derived.Laws.Panics
import Derived.Laws.ByValue
import Derived.Laws.NewDeep
import Derived.Below
import Derived.RangeFuncRecord
import Derived.Laws.Small
set_option linter.unusedVariables false
set_option linter.unusedSimpArgs false
section
namespace Go.Proofs.YtpifnlfmojfgpaaGreatDoor.Fw
abbrev Env:=Nat → Value
def upd (e:Env) (d:Nat) (v:Value):Env:=fun t=>bif Nat.beq t d then v else e t
def updO (e:Env) (d:Option Nat) (v:Value):Env:=
 match d with
 | some d=>upd e d v
 | none=>e
theorem upd_same (e:Env) (d:Nat) (v:Value):upd e d v d = v:=by simp [upd,Nat.beq_refl]
theorem upd_other (e:Env) (d t:Nat) (v:Value) (h:t ≠ d):upd e d v t = e t:=by
 unfold upd
 cases hb:Nat.beq t d with
 | false=>rfl
 | true=>exact absurd (Nat.eq_of_beq_eq_true hb) h
theorem upd_self (e:Env) (d:Nat):upd e d (e d) = e:=by
 funext t
 by_cases h:t = d
 ·subst h; exact upd_same _ _ _
 ·exact upd_other _ _ _ _ h
structure Fm where
 n:Nat
 fx:List (Nat × Value)
def Fm.free (F:Fm) (d:Option Nat):Bool:=
 match d with
 | none=>true
 | some d=>!(F.fx.map (·.1)).contains d
structure Rep (F:Fm) (ds:List Deferred) (e:Env) (a:Act):Prop where
 size:a.tmps.size = F.n
 slots:∀ t,t < F.n → a.tmps.getD t undef = e t
 defers:a.defers = ds
 fixed:∀ p ∈ F.fx,e p.1 = p.2
 low:∀ p ∈ F.fx,p.1 < F.n
theorem Rep.at {F:Fm} {ds:List Deferred} {e:Env} {a:Act} (h:Rep F ds e a):∀ p ∈ F.fx,a.tmps.getD p.1 undef = p.2:=fun p hp=>by
 rw [h.slots _ (h.low p hp),h.fixed p hp]
theorem Rep.put {F:Fm} {ds:List Deferred} {e:Env} {a:Act} (h:Rep F ds e a) (d:Option Nat) (v:Value) (hd:F.free d = true):Rep F ds (updO e d v) (a.put d v):=by
 cases d with
 | none=>exact h
 | some d=>
  refine ⟨by simp [Act.put,h.size],fun t ht=>?_,h.defers,fun p hp=>?_,h.low⟩
  ·by_cases hd:t = d
   ·subst hd
    simp [Act.put,updO,upd_same,h.size,ht]
   ·have:=h.slots t ht
    simp only [updO,upd_other _ _ _ _ hd,← this,Act.put]
    simp [Array.getElem?_setIfInBounds_ne (fun e=>hd e.symm)]
  ·have hne:p.1 ≠ d:=fun he=>by
    simp only [Fm.free,Bool.not_eq_true'] at hd
    have:(F.fx.map (·.1)).contains d = true:=by
     rw [List.contains_iff_mem,← he]
     exact List.mem_map.2 ⟨p,hp,rfl⟩
    rw [this] at hd
    cases hd
   simp only [updO,upd_other _ _ _ _ hne]
   exact h.fixed p hp
def ev (e:Env):Operand → Value
 | .tmp t=>e t
 | .const v=>v
 | .global g=>.pointer (some ⟨g,0,none⟩)
 | .func f=>.func (.func f) #[] #[]
def okX (n:Nat):Operand → Bool
 | .tmp t=>Nat.blt t n
 | _=>true
theorem Rep.ev {F:Fm} {ds:List Deferred} {e:Env} {a:Act} (h:Rep F ds e a) {x:Operand} (hx:okX F.n x = true):a.eval x = ev e x:=by
 cases x with
 | tmp t=>exact h.slots t (by simpa [okX] using hx)
 | _=>rfl
structure Sl where
 a:Option Addr
 n:Nat
 c:Nat
inductive Sc where
 | int (k:IntKind)
 | bool
 | str
 | ptr
 | sl
 | map
 | adr
 | raw
 /-- the function g with n captured variables -/
 | clo (g n:Nat)
 /-- yield of a loop -/
 | yld
 deriving DecidableEq
@[reducible] def addrs:Nat → Type
 | 0=>Unit
 | n + 1=>Addr × addrs n
@[reducible] def avals:(n:Nat) → addrs n → List Value
 | 0,_=>[]
 | n + 1,(x,y)=>.pointer (some x) :: avals n y
@[reducible] def Sc.den:Sc → Type
 | .int _=>Int
 | .bool=>Bool
 | .str=>ByteArray
 | .ptr=>Option Addr
 | .sl=>Sl
 | .map=>Option Nat
 | .adr=>Addr
 | .raw=>Value
 | .clo _ n=>addrs n
 | .yld=>Nat
@[reducible] def Sc.val:(s:Sc) → s.den → Value
 | .int k,n=>.int k n
 | .bool,b=>.bool b
 | .str,s=>.string s
 | .ptr,p=>.pointer p
 | .sl,s=>.slice s.a s.n s.c
 | .map,m=>.map m
 | .adr,a=>.pointer (some a)
 | .raw,v=>v
 | .clo g n,x=>.func (.func g) #[] (avals n x).toArray
 | .yld,l=>.func (.yield l) #[] #[]
@[reducible] def dens:List Sc → Type
 | []=>Unit
 | s :: l=>s.den × dens l
@[reducible] def vals:(l:List Sc) → dens l → List Value
 | [],_=>[]
 | s :: l,(x,y)=>s.val x :: vals l y
inductive Ty where
 | sc (s:Sc)
 | agg (l:List Sc)
@[reducible] def Ty.den:Ty → Type
 | .sc s=>s.den
 | .agg l=>dens l
@[reducible] def Ty.val:(t:Ty) → t.den → Value
 | .sc s,x=>s.val x
 | .agg l,x=>.agg (vals l x).toArray
@[reducible] def tdens:List Ty → Type
 | []=>Unit
 | t :: l=>t.den × tdens l
@[reducible] def tvals:(l:List Ty) → tdens l → List Value
 | [],_=>[]
 | t :: l,(x,y)=>t.val x :: tvals l y
theorem tvals_length:∀ (l:List Ty) (x:tdens l),(tvals l x).length = l.length
 | [],_=>rfl
 | t :: l,(x,y)=>by simp [tvals,tvals_length l y]
def getAs:(n:Nat) → List Value → (addrs n → Prop) → Prop
 | 0,l,K=>match l with | []=>K () | _ :: _=>False
 | n + 1,l,K=>match l with | .pointer (some a) :: l'=>getAs n l' fun y=>K (a,y) | _=>False
theorem getAs_spec:∀ (n:Nat) (l:List Value) (K:addrs n → Prop),getAs n l K → ∃ x,l = avals n x ∧ K x
 | 0,l,K,h=>by
  cases l with
  | nil=>exact ⟨(),rfl,h⟩
  | cons _ _=>exact h.elim
 | n + 1,l,K,h=>by
  simp only [getAs] at h
  split at h
  ·rename_i a l'
   obtain ⟨y,hy,h⟩:=getAs_spec n _ _ h
   exact ⟨(a,y),by rw [hy],h⟩
  ·exact h.elim
def Sc.get:(s:Sc) → Value → (s.den → Prop) → Prop
 | .int k,.int k' n,K=>
  match decEq k k' with
  | isTrue _=>K n
  | isFalse _=>False
 | .bool,.bool b,K=>K b
 | .str,.string s,K=>K s
 | .ptr,.pointer p,K=>K p
 | .sl,.slice a n c,K=>K ⟨a,n,c⟩
 | .map,.map m,K=>K m
 | .adr,.pointer (some a),K=>K a
 | .raw,v,K=>K v
 | .clo g n,.func (.func g') fi ca,K=>
  bif Nat.beq g g' && Nat.beq fi.size 0 then getAs n ca.toList K else False
 | .yld,.func (.yield l) fi ca,K=>
  bif Nat.beq fi.size 0 && Nat.beq ca.size 0 then K l else False
 | _,_,_=>False
theorem Sc.get_spec:∀ (s:Sc) (v:Value) (K:s.den → Prop),s.get v K → ∃ x,v = s.val x ∧ K x:=by
 intro s v K h
 cases s
 case int k=>
  cases v <;> simp only [Sc.get] at h <;> first | exact h.elim | skip
  rename_i k' n
  split at h
  ·rename_i he _; subst he; exact ⟨n,rfl,h⟩
  ·exact h.elim
 case adr=>
  cases v <;> first | exact (show False from h).elim | skip
  rename_i a
  cases a with
  | none=>exact (show False from h).elim
  | some a=>exact ⟨a,rfl,h⟩
 case clo g n=>
  cases v <;> first | exact (show False from h).elim | skip
  rename_i fn fi ca
  cases fn <;> first | exact (show False from h).elim | skip
  rename_i g'
  simp only [Sc.get] at h
  cases hb:(Nat.beq g g' && Nat.beq fi.size 0) with
  | false=>rw [hb] at h; exact h.elim
  | true=>
   rw [hb] at h
   simp only [Bool.and_eq_true] at hb
   obtain rfl:=Nat.eq_of_beq_eq_true hb.1
   obtain ⟨x,hx,hk⟩:=getAs_spec _ _ _ h
   have hfi:fi = #[]:=Array.eq_empty_of_size_eq_zero (Nat.eq_of_beq_eq_true hb.2)
   exact ⟨x,by simp [Sc.val,← hx,hfi],hk⟩
 case yld=>
  cases v <;> first | exact (show False from h).elim | skip
  rename_i fn fi ca
  cases fn <;> first | exact (show False from h).elim | skip
  rename_i l
  simp only [Sc.get] at h
  cases hb:(Nat.beq fi.size 0 && Nat.beq ca.size 0) with
  | false=>rw [hb] at h; exact h.elim
  | true=>
   rw [hb] at h
   simp only [Bool.and_eq_true] at hb
   have hfi:fi = #[]:=Array.eq_empty_of_size_eq_zero (Nat.eq_of_beq_eq_true hb.1)
   have hca:ca = #[]:=Array.eq_empty_of_size_eq_zero (Nat.eq_of_beq_eq_true hb.2)
   exact ⟨l,by simp [Sc.val,hfi,hca],h⟩
 all_goals (cases v <;> simp only [Sc.get] at h <;> first | exact h.elim | exact ⟨_,rfl,h⟩)
def getScs:(l:List Sc) → List Value → (dens l → Prop) → Prop
 | [],[],K=>K ()
 | s :: l,v :: vs,K=>s.get v fun x=>getScs l vs fun y=>K (x,y)
 | _,_,_=>False
theorem getScs_spec:∀ (l:List Sc) (vs:List Value) (K:dens l → Prop),getScs l vs K → ∃ x,vs = vals l x ∧ K x
 | [],[],K,h=>⟨(),rfl,h⟩
 | [],_ :: _,_,h=>h.elim
 | _ :: _,[],_,h=>h.elim
 | s :: l,v :: vs,K,h=>by
  unfold getScs at h
  obtain ⟨x,hx,h⟩:=Sc.get_spec s v _ h
  obtain ⟨y,hy,h⟩:=getScs_spec l vs _ h
  exact ⟨(x,y),by rw [hx,hy],h⟩
def Ty.get:(t:Ty) → Value → (t.den → Prop) → Prop
 | .sc s,v,K=>s.get v K
 | .agg l,.agg cs,K=>getScs l cs.toList K
 | .agg _,_,_=>False
theorem Ty.get_spec (t:Ty) (v:Value) (K:t.den → Prop) (h:t.get v K):∃ x,v = t.val x ∧ K x:=by
 cases t with
 | sc s=>exact Sc.get_spec s v K h
 | agg l=>
  cases v <;> first | exact h.elim | skip
  rename_i cs
  obtain ⟨x,hx,hk⟩:=getScs_spec l cs.toList K h
  exact ⟨x,by simp [Ty.val,← hx],hk⟩
abbrev Live:=List (Nat × Ty)
@[reducible] def ldens:Live → Type
 | []=>Unit
 | (_,t) :: l=>t.den × ldens l
def getTs:(l:Live) → Env → (ldens l → Prop) → Prop
 | [],_,K=>K ()
 | (d,t) :: l,e,K=>t.get (e d) fun x=>getTs l e fun y=>K (x,y)
def putTs:(l:Live) → ldens l → Env → Env
 | [],_,g=>g
 | (d,t) :: l,(x,y),g=>upd (putTs l y g) d (t.val x)
theorem getTs_spec:∀ (l:Live) (e:Env) (K:ldens l → Prop),getTs l e K → ∃ x,putTs l x e = e ∧ K x
 | [],e,K,h=>⟨(),rfl,h⟩
 | (d,t) :: l,e,K,h=>by
  obtain ⟨x,hx,h⟩:=Ty.get_spec t _ _ h
  obtain ⟨y,hy,h⟩:=getTs_spec l e _ h
  refine ⟨(x,y),?_,h⟩
  show upd (putTs l y e) d (t.val x) = e
  rw [hy,← hx]; exact upd_self e d
def scOf:Option TypeDesc → Sc
 | some (.int k)=>.int k
 | some .bool=>.bool
 | some .string=>.str
 | some (.pointer _)=>.ptr
 | some (.slice _)=>.sl
 | some (.map _ _)=>.map
 | _=>.raw
def scsOf (P:Program):Nat → TypeId → List Sc
 | 0,_=>[]
 | n + 1,t=>
  match P.underlying t with
  | some (.struct fs)=>fs.toList.flatMap fun f=>scsOf P n f.type
  | some (.array len el)=>(List.replicate len (scsOf P n el)).flatten
  | d=>[scOf d]
def isAggT (P:Program) (t:TypeId):Bool:=
 match P.underlying t with
 | some (.struct _)=>true
 | some (.array _ _)=>true
 | _=>false
def tyOf (P:Program) (t:TypeId):Ty:=
 bif isAggT P t then .agg (scsOf P 8 t) else .sc (scOf (P.underlying t))
def Br (b:Bool) (A B:Prop):Prop:=(b = true → A) ∧ (b = false → B)
def NilCk (p:Option Addr) (K:Addr → Prop):Prop:=∃ a,p = some a ∧ K a
def Idx (base:Option Addr) (len:Nat) (sz:Nat) (i:Int) (K:Addr → Prop):Prop:=
 ∃ a,base = some a ∧ 0 ≤ i ∧ i < (len:Int) ∧ K (a.add (i.toNat * sz))
def Holds (w:World) (a:Addr):Nat → List Value → Prop
 | _,[]=>True
 | i,v :: vs=>w.cell? (a.add i) = some v ∧ Holds w a (i + 1) vs
def LoadT (t:Ty) (w:World) (a:Addr) (K:t.den → Prop):Prop:=
 match t with
 | .sc s=>∃ x:s.den,w.cell? a = some (s.val x) ∧ K x
 | .agg l=>∃ x:dens l,Holds w a 0 (vals l x) ∧ K x
def Open1 (w:World) (a:Addr):Prop:=(w.cell? a).isSome = true ∧ w.frozen? a = false
def OpenN (w:World) (a:Addr):Nat → Nat → Prop
 | _,0=>True
 | i,n + 1=>Open1 w (a.add i) ∧ OpenN w a (i + 1) n
def setCells (w:World) (a:Addr):Nat → List Value → World
 | _,[]=>w
 | i,v :: vs=>setCells (w.setCell (a.add i) v) a (i + 1) vs
def Store1 (w:World) (a:Addr) (v:Value) (K:World → Prop):Prop:=Open1 w a ∧ K (w.setCell a v)
def StoreN (w:World) (a:Addr) (vs:List Value) (K:World → Prop):Prop:=OpenN w a 0 vs.length ∧ K (setCells w a 0 vs)
def LoopT {σ:Type} (x0:σ) (w:World) (body:σ → Env → World → (σ → World → Prop) → Prop):Prop:=
 ∃ (I:σ → World → Prop) (μ:σ → World → Nat),I x0 w ∧ ∀ x g w,I x w → body x g w fun y w'=>I y w' ∧ μ y w' < μ x w
def Join {σ:Type} (Y:σ → Env → World → Prop) (F:(σ → World → Prop) → Prop):Prop:=F fun x w=>∀ g,Y x g w
def New (w:World) (o:Obj) (K:Nat → World → Prop):Prop:=K w.heap.size (w.alloc o)
def RunT (P:Program) (t:Ty) (s:Sem Value) (w:World) (K:t.den → World → Prop):Prop:=∃ x w',s.run P w = .ok (t.val x) w' ∧ K x w'
def RunU (P:Program) (s:Sem Unit) (w:World) (K:World → Prop):Prop:=∃ w',s.run P w = .ok () w' ∧ K w'
def CallT (P:Program) (f:FuncId) (args:Array Value) (t:Ty) (w:World) (K:t.den → World → Prop) (Kp:List PanicEntry → World → Prop):Prop:=
 Calls P f args w fun e w'=>match e with
  | .returned v=>∃ x,v = t.val x ∧ K x w'
  | .panicked ch=>Kp ch w'
  | .outgrown=>False
def CallN (P:Program) (f:FuncId) (args:Array Value) (ts:List Ty) (w:World) (K:tdens ts → World → Prop) (Kp:List PanicEntry → World → Prop):Prop:=
 Calls P f args w fun e w'=>match e with
  | .returned v=>∃ x,v = .tuple (tvals ts x).toArray ∧ K x w'
  | .panicked ch=>Kp ch w'
  | .outgrown=>False
end Go.Proofs.YtpifnlfmojfgpaaGreatDoor.Fw
end
section
namespace Go.Proofs.YtpifnlfmojfgpaaGreatDoor.Fw
@[reducible] def Wf (ro:Option Nat):Fence:={ fn:=fun _=>True,depth:=none,alive:=false,round:=ro }
theorem Wf_none:Wf none = Fence.wide:=rfl
theorem callsIn_Wf {ro:Option Nat} {n:Nat} {P:Program} {f:FuncId} {args:Array Value} {w:World} {R:Ending → World → Prop}:CallsIn (Wf ro) n P f args w R ↔ Calls P f args w R:=
 callsIn_wide (n:=n)
def tysOf (P:Program) (es:Array TypeId):List Ty:=es.toList.map (tyOf P)
def RunN (P:Program) (ts:List Ty) (s:Sem Value) (w:World) (K:tdens ts → World → Prop):Prop:=∃ x w',s.run P w = .ok (.tuple (tvals ts x).toArray) w' ∧ K x w'
def RunR (P:Program) (ty:TypeId) (s:Sem Value) (w:World) (K:Value → World → Prop):Prop:=
 match P.underlying ty with
 | some (.tuple es)=>RunN P (tysOf P es) s w fun x w'=>K (.tuple (tvals _ x).toArray) w'
 | _=>RunT P (tyOf P ty) s w fun x w'=>K ((tyOf P ty).val x) w'
theorem RunR.run {P:Program} {ty:TypeId} {s:Sem Value} {w:World} {K:Value → World → Prop} (h:RunR P ty s w K):∃ v w',s.run P w = .ok v w' ∧ K v w':=by
 unfold RunR at h
 split at h
 ·obtain ⟨x,w',h1,h2⟩:=h; exact ⟨_,w',h1,h2⟩
 ·obtain ⟨x,w',h1,h2⟩:=h; exact ⟨_,w',h1,h2⟩
def madeIn:List Oper → Option Sc
 | []=>none
 | o :: l=>match o.op with
  | .makeFunc (.func g) fi ca=>bif Nat.beq fi.size 0 then some (.clo g ca.size) else madeIn l
  | _=>madeIn l
def cloIn:Code → Option Sc
 | .region _ ops _=>madeIn ops.toList
 | .seq a b=>match cloIn a with | some x=>some x | none=>cloIn b
 | .cond _ a b=>match cloIn a with | some x=>some x | none=>cloIn b
 | .block _ c=>cloIn c
 | .loop c=>cloIn c
 | _=>none
def calledIn:List Oper → Option FuncId
 | []=>none
 | o :: l=>match o.op with
  | .call c=>match c.callee with
   | .value (.func g)=>some g
   | _=>calledIn l
  | _=>calledIn l
def callIn:Code → Option FuncId
 | .region _ ops _=>calledIn ops.toList
 | .seq a b=>match callIn a with | some x=>some x | none=>callIn b
 | _=>none
def cloTy1 (P:Program) (f:FuncId):Ty:=
 match P.funcs[f]? with
 | some fn=>match fn.body with
  | some c=>match cloIn c with
   | some x=>.sc x
   | none=>.sc .raw
  | none=>.sc .raw
 | none=>.sc .raw
def cloTy (P:Program) (f:FuncId):Ty:=
 match P.funcs[f]? with
 | some fn=>match fn.body with
  | some c=>match cloIn c with
   | some x=>.sc x
   | none=>match callIn c with
    | some g=>cloTy1 P g
    | none=>.sc .raw
  | none=>.sc .raw
 | none=>.sc .raw
def CallR (P:Program) (ty:TypeId) (f:FuncId) (args:Array Value) (w:World) (K:Value → World → Prop) (Kp:List PanicEntry → World → Prop):Prop:=
 match P.underlying ty with
 | some (.tuple es)=>CallN P f args (tysOf P es) w (fun x w'=>K (.tuple (tvals _ x).toArray) w') Kp
 | some (.func _ _ _)=>CallT P f args (cloTy P f) w (fun x w'=>K ((cloTy P f).val x) w') Kp
 | _=>CallT P f args (tyOf P ty) w (fun x w'=>K ((tyOf P ty).val x) w') Kp
theorem CallR.calls {P:Program} {ty:TypeId} {f:FuncId} {args:Array Value} {w:World} {K:Value → World → Prop} {Kp:List PanicEntry → World → Prop} (h:CallR P ty f args w K Kp) :
  Calls P f args w fun e w'=>match e with | .returned v=>K v w' | .panicked ch=>Kp ch w' | .outgrown=>False:=by
 unfold CallR at h
 split at h
 ·refine Calls.mono h fun e w' he=>?_
  cases e with
  | returned v=>obtain ⟨x,rfl,hk⟩:=he; exact hk
  | panicked ch=>exact he
  | outgrown=>exact he
 ·refine Calls.mono h fun e w' he=>?_
  cases e with
  | returned v=>obtain ⟨x,rfl,hk⟩:=he; exact hk
  | panicked ch=>exact he
  | outgrown=>exact he
 ·refine Calls.mono h fun e w' he=>?_
  cases e with
  | returned v=>obtain ⟨x,rfl,hk⟩:=he; exact hk
  | panicked ch=>exact he
  | outgrown=>exact he
def nextTys (P:Program) (s:Bool) (ty:TypeId):List Ty:=
 bif s then [.sc .bool,.sc (.int .i64),.sc (.int .i32)]
 else match P.underlying ty with
  | some (.tuple es)=>tysOf P es
  | _=>[.sc .bool,.sc .raw,.sc .raw]
def NextT (P:Program) (s:Sem Value) (w:World) (K:World → Prop) (B:Prop):Prop:=(∃ w',s.run P w = .ok (.tuple #[.bool false]) w' ∧ K w') ∨ B
def YieldT (P:Program) (l:Nat) (args:Array Value) (w:World) (K:Bool → World → Prop):Prop:=
 ∃ f tmps assign body,(Instr.yield l args).run P w = .ok (.round l f tmps assign body) w ∧
  RoundIn Fence.wide 0 P l f tmps assign body w fun e w'=>match e with
   | .returned v=>∃ b,v = .bool b ∧ K b w'
   | .panicked _=>False
   | .outgrown=>False
def intBin (op:BinOp) (k:IntKind) (a b:Int) (K:Value → Prop):Prop:=
 match op with
 | .add=>K (.int k (k.wrap (a + b)))
 | .sub=>K (.int k (k.wrap (a - b)))
 | .mul=>K (.int k (k.wrap (a * b)))
 | .quo=>b ≠ 0 ∧ K (.int k (k.wrap (a.tdiv b)))
 | .rem=>b ≠ 0 ∧ K (.int k (a.tmod b))
 | .and=>K (.int k (Go.bits .and k a b))
 | .or=>K (.int k (Go.bits .or k a b))
 | .xor=>K (.int k (Go.bits .xor k a b))
 | .eql=>K (.bool (a == b))
 | .neq=>K (.bool (a != b))
 | .lss=>K (.bool (decide (a < b)))
 | .leq=>K (.bool (decide (a ≤ b)))
 | .gtr=>K (.bool (decide (a > b)))
 | .geq=>K (.bool (decide (a ≥ b)))
 | _=>False
def isLenT (P:Program) (t:TypeId):Bool:=
 match P.underlying t with
 | some .string=>true
 | some (.slice _)=>true
 | _=>false
def isStrT (P:Program) (t:TypeId):Bool:=
 match P.underlying t with
 | some .string=>true
 | _=>false
def isBoolT (P:Program) (t:TypeId):Bool:=
 match P.underlying t with
 | some .bool=>true
 | _=>false
def zeroOf (P:Program) (t:TypeId):Option Value:=(P.info? t).bind (·.zero)
def sizeP (P:Program) (t:TypeId):Nat:=
 match P.info? t with
 | some i=>i.size
 | none=>0
def fieldOff (P:Program) (s:TypeId) (f:Nat):Option (Nat × TypeId):=
 match P.underlying s with
 | some (.struct fs)=>(fs[f]?).map fun x=>(x.offset,x.type)
 | _=>none
def partW (P:Program) (t:TypeId) (cs:Array Value) (off:Nat) (K:Value → Prop):Prop:=
 bif isAggT P t then bif (P.info? t).isSome then K (.agg (cs.extract off (off + sizeP P t))) else False
 else bif (P.underlying t).isSome then
  match cs[off]? with
  | some v=>K v
  | none=>False
 else False
def placesOf (P:Program) (fs:Array Field):Array (Nat × Nat):=fs.map fun f=>(f.offset,sizeP P f.type)
def infosOf (P:Program) (fs:Array Field):Bool:=fs.toList.all fun f=>(P.info? f.type).isSome
theorem infosOf_all (P:Program) (fs:Array Field):infosOf P fs = fs.all fun f=>(P.info? f.type).isSome:=by unfold infosOf; rw [Array.all_toList]
def buildV (P:Program) (t:TypeId) (parts:Array (Nat × Value)):Option Value:=
 match zeroOf P t,P.underlying t with
 | some z,some (.struct fs)=>bif infosOf P fs then (Instr.fill ((placesOf P fs)[·]?) z.cells parts.toList).map .agg else none
 | some z,some (.array _ el)=>bif (P.info? el).isSome then (Instr.fill (fun i=>some (i * sizeP P el,sizeP P el)) z.cells parts.toList).map .agg else none
 | _,_=>none
def buildSliceV (P:Program) (t:TypeId) (len:Nat) (parts:Array (Nat × Value)):Option (TypeId × Array Value):=
 match P.underlying t with
 | some (.slice el)=>
  match zeroOf P el with
  | some z=>
   bif (P.info? el).isSome && Nat.ble (len * sizeP P el) 16777216 then
    (Instr.fill (fun i=>some (i * sizeP P el,sizeP P el)) ((Array.range (len * sizeP P el)).map (z.cells[· % z.cells.size]!)) parts.toList).map fun c=>(el,c)
   else none
  | none=>none
 | _=>none
def builtinSem (b:Builtin) (ts:Array TypeId) (ty:TypeId) (args:Array Value):Option (Sem Value):=
 match b with
 | .append=>some (Builtin.append_ ts ty args)
 | .cap=>some (Builtin.cap_ ts ty args)
 | .clear=>some (Builtin.clear_ ts ty args)
 | .copy=>some (Builtin.copy_ ts ty args)
 | .delete=>some (Builtin.delete_ ts ty args)
 | .len=>some (Builtin.len_ ts ty args)
 | .max=>some (Builtin.max_ ts ty args)
 | .min=>some (Builtin.min_ ts ty args)
 | _=>none
def enters (P:Program) (f:FuncId):Bool:=
 match P.funcs[f]? with
 | some fn => !(fn.name == "runtime.NumGoroutine") && !fn.body.isNone
 | none=>false
def binW (P:Program) (op:BinOp) (xt:TypeId) (x y:Operand) (a b:Value) (K:Value → Prop) (R:Sem Value → Prop):Prop:=
 match a,b with
 | .int k a,.int k' b=>
  match decEq k k' with
  | isTrue _=>intBin op k a b K
  | isFalse _=>False
 | .bool a,.bool b=>
  bif isBoolT P xt then
   match op with
   | .eql=>K (.bool (a == b))
   | .neq=>K (.bool (!(a == b)))
   | _=>False
  else False
 | .string s,.string t=>
  match op with
  | .add=>((s.size + t.size:Nat):Int) ≤ 9223372036854775807 ∧ K (.string (s ++ t))
  | .eql=>K (.bool (s.toList == t.toList))
  | .neq=>K (.bool (!(s.toList == t.toList)))
  | _=>R (do eqGuard op xt x y (.string s) (.string t); binOp op xt (.string s) (.string t))
 | a,b=>R (do eqGuard op xt x y a b; binOp op xt a b)
def StrIdx (s:ByteArray) (i:Int) (K:Int → Prop):Prop:=0 ≤ i ∧ ∃ h:i.toNat < s.size,K ((s[i.toNat]'h).toNat:Int)
def opw (P:Program) (lit:Bool) (o:Oper) (e:Env) (w:World) (K:Value → World → Prop) (Kp:List PanicEntry → World → Prop):Prop:=
 match o.op with
 | .move x=>K (ev e x) w
 | .assign x=>K (ev e x) w
 | .pick c a b=>
  match ev e c with
  | .bool t=>bif lit then (match t with | true=>K (ev e a) w | false=>K (ev e b) w) else Br t (K (ev e a) w) (K (ev e b) w)
  | _=>False
 | .alloc t=>
  match zeroOf P t with
  | some z=>New w (.cells z.cells t) fun b w'=>K (.pointer (some ⟨b,0,none⟩)) w'
  | none=>False
 | .box t x=>New w (.cells (ev e x).cells t) fun b w'=>K (.pointer (some ⟨b,0,none⟩)) w'
 | .build t ps=>
  match buildV P t (ps.map fun (i,x)=>(i,ev e x)) with
  | some v=>K v w
  | none=>False
 | .buildSlice t len ps=>
  match buildSliceV P t len (ps.map fun (i,x)=>(i,ev e x)) with
  | some (el,cells)=>New w (.cells cells el) fun b w'=>K (.slice (some ⟨b,0,none⟩) len len) w'
  | none=>False
 | .load t x=>
  match ev e x with
  | .pointer (some a)=>
   match tyOf P t with
   | .sc s=>bif (P.underlying t).isSome then LoadT (.sc s) w a fun y=>K (s.val y) w else False
   | .agg l=>bif Nat.beq (sizeP P t) l.length && (P.info? t).isSome then LoadT (.agg l) w a fun y=>K (.agg (vals l y).toArray) w else False
  | _=>False
 | .store t x y=>
  match ev e x with
  | .pointer (some a)=>
   match tyOf P t with
   | .sc .raw=>bif Nat.beq (sizeP P t) 1 && (P.info? t).isSome then (ev e y).oneCell' = true ∧ Store1 w a (ev e y) fun w'=>K undef w' else False
   | .sc _=>
    bif Nat.beq (sizeP P t) 1 && (P.info? t).isSome then
     (match ev e y with
     | .agg _=>False
     | .tuple _=>False
     | v=>Store1 w a v fun w'=>K undef w')
    else False
   | .agg _=>
    match ev e y with
    | .agg cs=>bif Nat.beq (sizeP P t) cs.size && (P.info? t).isSome && cs.toList.all Value.oneCell' then StoreN w a cs.toList fun w'=>K undef w' else False
    | _=>False
  | _=>False
 | .nilCheck x=>
  match ev e x with
  | .pointer p=>NilCk p fun a=>K (.pointer (some a)) w
  | .func (.func f) fi ca=>K (.func (.func f) fi ca) w
  | .func (.yield l) fi ca=>K (.func (.yield l) fi ca) w
  | _=>False
 | .binOp op xt x y _=>binW P op xt x y (ev e x) (ev e y) (fun v=>K v w) (fun s=>RunR P o.type s w K)
 | .unOp .not _ x=>
  match ev e x with
  | .bool b=>K (.bool (!b)) w
  | _=>False
 | .unOp op _ x=>RunR P o.type (Op.unary op (ev e x)) w K
 | .convert s d x=>RunR P o.type (convert s d (ev e x)) w K
 | .makeInterface xt x=>
  match P.underlying xt with
  | some (.interface _)=>False
  | some _=>K (.iface xt (ev e x)) w
  | none=>False
 | .makeFunc fn fi ca=>K (.func fn (fi.map (ev e)) (ca.map (ev e))) w
 | .makeMap _ none=>New w (.map #[] 0) fun b w'=>K (.map (some b)) w'
 | .makeSlice t l c=>RunR P o.type (Instr.makeSlice t (ev e l) (ev e c)) w K
 | .slice t x lo hi mx=>RunR P o.type (Instr.sliceAt t (ev e x) (lo.map (ev e)) (hi.map (ev e)) (mx.map (ev e))) w K
 | .fieldAddr s x f=>
  match ev e x with
  | .pointer (some a)=>
   match fieldOff P s f with
   | some (off,t)=>bif Nat.blt 0 (sizeP P t) then K (.pointer (some (a.add off))) w else False
   | none=>False
  | _=>False
 | .field s x f=>
  match ev e x with
  | .agg cs=>
   match fieldOff P s f with
   | some (off,t)=>partW P t cs off fun v=>K v w
   | none=>False
  | _=>False
 | .indexAddr t x i=>
  match P.underlying t with
  | some (.slice el)=>
   match ev e x with
   | .slice b n _=>
    match ev e i with
    | .int _ i=>bif (P.info? el).isSome then Idx b n (sizeP P el) i fun a=>K (.pointer (some a)) w else False
    | _=>False
   | _=>False
  | some (.array len el)=>
   match ev e x with
   | .pointer (some a)=>
    match ev e i with
    | .int _ i=>bif (P.info? el).isSome then Idx (some a) len (sizeP P el) i fun a=>K (.pointer (some a)) w else False
    | _=>False
   | _=>False
  | _=>False
 | .index t x i=>
  match P.underlying t with
  | some .string=>
   match ev e x with
   | .string s=>
    match ev e i with
    | .int _ i=>StrIdx s i fun b=>K (.int .u8 b) w
    | _=>False
   | _=>False
  | _=>RunR P o.type (Instr.index t (ev e x) (ev e i)) w K
 | .lookup t x i ok=>RunR P o.type (Instr.lookup t (ev e x) (ev e i) ok) w K
 | .mapUpdate t m k x=>RunU P (Instr.mapUpdate t (ev e m) (ev e k) (ev e x)) w fun w'=>K undef w'
 | .insert t m k x=>RunU P (Instr.mapUpdate t (ev e m) (ev e k) (ev e x)) w fun w'=>K undef w'
 | .range t x=>RunT P (.sc .adr) (Instr.range t (ev e x)) w fun a w'=>K (.pointer (some a)) w'
 | .next it s=>NextT P (Instr.next (ev e it) s o.type) w (fun w'=>K (.tuple #[.bool false]) w') (RunN P (nextTys P s o.type) (Instr.next (ev e it) s o.type) w fun x w'=>K (.tuple (tvals _ x).toArray) w')
 | .entry it=>RunR P o.type (Instr.entry (ev e it)) w K
 | .typeAssert x xt ta ok=>RunR P o.type (Instr.typeAssert (ev e x) xt ta ok) w K
 | .extract t i=>
  match ev e t with
  | .tuple vs=>
   match vs[i]? with
   | some v=>K v w
   | none=>False
  | _=>False
 | .panic x=>
  match ev e x with
  | .iface t v=>Kp [{ v:=.iface t v,recovered:=false }] w
  | _=>False
 | .call c=>
  match c.callee with
  | .builtin .len=>
   match (c.args.map (ev e)).toList,c.argTypes.toList with
   | [.slice _ n _],[t]=>bif isLenT P t && !isStrT P t then K (.int .i64 (n:Int)) w else False
   | [.string s],[t]=>bif isStrT P t then K (.int .i64 (s.size:Int)) w else False
   | _,_=>RunR P o.type (Builtin.len_ c.argTypes o.type (c.args.map (ev e))) w K
  | .builtin b=>
   match builtinSem b c.argTypes o.type (c.args.map (ev e)) with
   | some s=>RunR P o.type s w K
   | none=>False
  | .value f=>
   match ev e f with
   | .func (.func g) fi ca=>bif enters P g then CallR P o.type g ((fi ++ c.args.map (ev e)) ++ ca) w K Kp else False
   | .func (.yield l) fi ca=>YieldT P l (fi ++ c.args.map (ev e)) w fun b w'=>K (.bool b) w'
   | _=>False
  | .invoke _ _=>False
 | _=>False
end Go.Proofs.YtpifnlfmojfgpaaGreatDoor.Fw
end
section
namespace Go.Proofs.YtpifnlfmojfgpaaGreatDoor.Fw
def Good (P:Program) (K:Value → World → Prop) (Kp:List PanicEntry → World → Prop):Result Next → Prop
 | .ok (.value v) w'=>K v w'
 | .ok .skip w'=>K undef w'
 | .ok (.enter f args) w'=>Calls P f args w' fun e w''=>match e with | .returned v=>K v w'' | .panicked ch=>Kp ch w'' | .outgrown=>False
 | .ok (.round l f tmps assign body) w'=>RoundIn Fence.wide 0 P l f tmps assign body w' fun e w''=>match e with | .returned v=>K v w'' | .panicked ch=>Kp ch w'' | .outgrown=>False
 | .halt (.panic v) w'=>Kp [{ v,recovered:=false }] w'
 | _=>False
variable {P:Program} {K:Value → World → Prop} {Kp:List PanicEntry → World → Prop} {w:World}
theorem good_value {s:Sem Value} {v:Value} {w':World} (h:s.run P w = .ok v w') (hk:K v w'):Good P K Kp ((do pure (.value (← s)):Sem Next).run P w):=by
 simp [h,Good,hk]
theorem good_runR {ty:TypeId} {s:Sem Value} (h:RunR P ty s w K):Good P K Kp ((do pure (.value (← s)):Sem Next).run P w):=by
 obtain ⟨v,w',h1,h2⟩:=h.run
 exact good_value h1 h2
theorem good_runU {s:Sem Unit} (h:RunU P s w fun w'=>K undef w'):Good P K Kp ((do s; pure .skip:Sem Next).run P w):=by
 obtain ⟨w',h1,h2⟩:=h
 simp [h1,Good,h2]
theorem wrap_i64_max:(IntKind.i64.max:Int) = 9223372036854775807:=by decide
theorem run_underlying_some {t:TypeId} {d:TypeDesc} (h:P.underlying t = some d):(underlying t).run P w = .ok d w:=by
 simp [underlying,program,Sem.run,h]
theorem run_typeInfo_some {t:TypeId} {i:TypeInfo} (h:P.info? t = some i):(typeInfo t).run P w = .ok i w:=by
 simp [typeInfo,program,Sem.run,h]
theorem run_sizeOf_some {t:TypeId} (h:(P.info? t).isSome = true):(sizeOf t).run P w = .ok (sizeP P t) w:=by
 obtain ⟨i,hi⟩:=Option.isSome_iff_exists.1 h
 simp [sizeOf,run_typeInfo_some hi,sizeP,hi]
theorem run_zeroValue_some {t:TypeId} {z:Value} (h:zeroOf P t = some z):(zeroValue t).run P w = .ok z w:=by
 unfold zeroOf at h
 cases hi:P.info? t with
 | none=>simp [hi] at h
 | some i=>
  simp only [hi,Option.bind_some] at h
  simp [zeroValue,run_typeInfo_some hi,h]
theorem run_isAgg {t:TypeId} {d:TypeDesc} (h:P.underlying t = some d):(isAgg t).run P w = .ok (isAggT P t) w:=by
 unfold isAgg isAggT
 rw [h]
 cases d <;> simp [run_underlying_some h]
theorem holds_at:∀ (vs:List Value) (a:Addr) (i:Nat),Holds w a i vs → ∀ (j:Nat) (v:Value),vs[j]? = some v → w.cell? (a.add (i + j)) = some v
 | [],_,_,_,_,_,h=>by simp at h
 | x :: vs,a,i,hh,j,v,h=>by
  cases j with
  | zero=>simp at h; subst h; simpa using hh.1
  | succ j=>
   have:=holds_at vs a (i + 1) hh.2 j v (by simpa using h)
   rw [show i + (j + 1) = i + 1 + j by omega]; exact this
theorem run_loadCells_holds {a:Addr} {vs:List Value} (h:Holds w a 0 vs):(loadCells a vs.length).run P w = .ok vs.toArray w:=
 run_loadCells_list w a vs fun j v hj=>by have:=holds_at vs a 0 h j v hj; rwa [Nat.zero_add] at this
theorem run_store_open {a:Addr} {v:Value} (hv:v.oneCell' = true) (h:Open1 w a):(store a v).run P w = .ok () (w.setCell a v):=by
 obtain ⟨h1,h2⟩:=h
 obtain ⟨u,hu⟩:=Option.isSome_iff_exists.1 h1
 unfold store
 cases v <;> first | (simp [Value.oneCell'] at hv; done) | simp [Sem.run,hu,h2]
theorem open_setCell {a b:Addr} {v:Value} (h:Open1 w b):Open1 (w.setCell a v) b:=by
 obtain ⟨h1,h2⟩:=h
 refine ⟨?_,by rw [World.frozen?_setCell]; exact h2⟩
 by_cases hab:a = b
 ·subst hab
  obtain ⟨u,hu⟩:=Option.isSome_iff_exists.1 h1
  rw [World.cell?_setCell_same w a v hu]; rfl
 ·rw [World.cell?_setCell_other w a b v hab]; exact h1
theorem openN_setCell {a b:Addr} {v:Value}:∀ (n i:Nat),OpenN w b i n → OpenN (w.setCell a v) b i n
 | 0,_,_=>trivial
 | n + 1,i,h=>⟨open_setCell h.1,openN_setCell n (i + 1) h.2⟩
theorem run_storeCells_open:∀ (vs:List Value) (a:Addr) (i:Nat) (w:World),(∀ v ∈ vs,v.oneCell' = true) → OpenN w a i vs.length → (storeCells a vs i).run P w = .ok () (setCells w a i vs)
 | [],_,_,_,_,_=>by simp [storeCells,setCells]
 | v :: vs,a,i,w,h1,h2=>by
  simp only [storeCells,Sem.run_bind,run_store_open (h1 v (by simp)) h2.1,Result.andThen_ok]
  rw [run_storeCells_open vs a (i + 1) _ (fun u hu=>h1 u (by simp [hu])) (openN_setCell _ _ h2.2)]
  rfl
theorem run_storeVar_one {t:TypeId} {a:Addr} {v:Value} (hs:sizeP P t = 1) (hi:(P.info? t).isSome = true) (hv:v.oneCell' = true) (ho:Open1 w a):(storeVar t a v).run P w = .ok () (w.setCell a v):=by
 have hc:v.cells = #[v]:=by cases v <;> first | rfl | simp [Value.oneCell'] at hv
 unfold storeVar
 simp only [Sem.run_bind,run_sizeOf_some hi,Result.andThen_ok,hs,hc]
 simp [storeCells,Addr.add,run_store_open hv ho]
theorem run_storeVar_agg {t:TypeId} {a:Addr} {cs:Array Value} (hs:sizeP P t = cs.size) (hi:(P.info? t).isSome = true) (hv:∀ v ∈ cs.toList,v.oneCell' = true) (ho:OpenN w a 0 cs.toList.length) :
  (storeVar t a (.agg cs)).run P w = .ok () (setCells w a 0 cs.toList):=by
 unfold storeVar
 simp only [Sem.run_bind,run_sizeOf_some hi,Result.andThen_ok,hs,Value.cells]
 simp [run_storeCells_open cs.toList a 0 w hv ho]
theorem run_fieldAt {s:TypeId} {a:Addr} {f off:Nat} {t:TypeId} (h:fieldOff P s f = some (off,t)) (hp:0 < sizeP P t):(Instr.fieldAt s (.pointer (some a)) f).run P w = .ok (.pointer (some (a.add off))) w:=by
 unfold fieldOff at h
 split at h
 ·rename_i fs hu
  cases hf:fs[f]? with
  | none=>simp [hf] at h
  | some x=>
   simp only [hf,Option.map_some,Option.some.injEq,Prod.mk.injEq] at h
   obtain ⟨rfl,rfl⟩:=h
   have hi:(P.info? x.type).isSome = true:=by
    cases hh:P.info? x.type with
    | none=>simp [sizeP,hh] at hp
    | some i=>rfl
   simp [Instr.fieldAt,run_underlying_some hu,hf,Instr.sureAddr,fieldPlace,run_sizeOf_some hi,Nat.ne_of_gt hp]
 ·simp at h
theorem partW_any {t:TypeId} {cs:Array Value} {off:Nat} {K:Value → Prop} (h:partW P t cs off K):∃ v,(∀ w,(part t cs off).run P w = .ok v w) ∧ K v:=by
 unfold partW at h
 unfold part
 cases hd:P.underlying t with
 | none=>
  have:isAggT P t = false:=by unfold isAggT; rw [hd]
  rw [this,hd] at h
  exact h.elim
 | some d=>
 simp only [Sem.run_bind,run_isAgg hd,Result.andThen_ok]
 cases hb:isAggT P t with
 | true=>
  rw [hb] at h
  cases hi:(P.info? t).isSome with
  | false=>rw [hi] at h; exact h.elim
  | true=>rw [hi] at h; exact ⟨_,fun w=>by simp [run_sizeOf_some hi],h⟩
 | false=>
  rw [hb,hd] at h
  simp only [cond_false,Option.isSome_some,cond_true] at h
  cases hc:cs[off]? with
  | none=>rw [hc] at h; exact h.elim
  | some v=>rw [hc] at h; exact ⟨v,fun w=>by simp,h⟩
theorem partW_run {t:TypeId} {cs:Array Value} {off:Nat} {K:Value → Prop} (h:partW P t cs off K):∃ v,(part t cs off).run P w = .ok v w ∧ K v:=by
 obtain ⟨v,h1,h2⟩:=partW_any h
 exact ⟨v,h1 w,h2⟩
theorem run_places (fs:Array Field) (h:infosOf P fs = true):(fs.mapM fun f=>do pure (f.offset,← sizeOf f.type):Sem (Array (Nat × Nat))).run P w = .ok (placesOf P fs) w:=by
 obtain ⟨l⟩:=fs
 have key:∀ l:List Field,(∀ f ∈ l,(P.info? f.type).isSome = true) → (l.mapM fun f=>do pure (f.offset,← sizeOf f.type):Sem (List (Nat × Nat))).run P w = .ok (l.map fun f=>(f.offset,sizeP P f.type)) w:=by
  intro l
  induction l with
  | nil=>intro _; simp
  | cons f l ih=>
   intro hl
   simp only [List.mapM_cons,Sem.run_bind,run_sizeOf_some (hl f (by simp)),Result.andThen_ok,Sem.run_pure,ih (fun g hg=>hl g (by simp [hg])),List.map_cons]
 have hl:∀ f ∈ l,(P.info? f.type).isSome = true:=by
  rw [infosOf_all] at h
  rw [Array.all_eq_true_iff_forall_mem] at h
  intro f hf
  exact h f (by simpa using hf)
 simp only [List.mapM_toArray,Sem.run_map,key l hl,Result.andThen_ok]
 simp [placesOf]
theorem run_places' (fs:Array Field) (h:infosOf P fs = true):Sem.run P (Array.mapM (fun f=>Prod.mk f.offset <$> sizeOf f.type) fs) w = .ok (placesOf P fs) w:=by
 have:=run_places (w:=w) fs h
 simpa using this
theorem run_build {t:TypeId} {ps:Array (Nat × Value)} {v:Value} (h:buildV P t ps = some v):(Instr.build t ps).run P w = .ok v w:=by
 unfold buildV at h
 split at h
 ·rename_i z fs hz hu
  cases hb:infosOf P fs with
  | false=>simp [hb] at h
  | true=>
   simp only [hb,cond_true] at h
   cases hf:Instr.fill ((placesOf P fs)[·]?) z.cells ps.toList with
   | none=>simp [hf] at h
   | some c=>
    simp only [hf,Option.map_some,Option.some.injEq] at h
    subst h
    simp [Instr.build,run_zeroValue_some hz,run_underlying_some hu,run_places' fs hb,hf]
 ·rename_i z n el hz hu
  cases hb:(P.info? el).isSome with
  | false=>simp [hb] at h
  | true=>
   simp only [hb,cond_true] at h
   cases hf:Instr.fill (fun i=>some (i * sizeP P el,sizeP P el)) z.cells ps.toList with
   | none=>simp [hf] at h
   | some c=>
    simp only [hf,Option.map_some,Option.some.injEq] at h
    subst h
    simp [Instr.build,run_zeroValue_some hz,run_underlying_some hu,run_sizeOf_some hb,hf]
 ·simp at h
theorem run_buildSlice {t:TypeId} {len:Nat} {ps:Array (Nat × Value)} {el:TypeId} {cells:Array Value} (h:buildSliceV P t len ps = some (el,cells)) :
  (Instr.buildSlice t len ps).run P w = .ok (.slice (some ⟨w.heap.size,0,none⟩) len len) (w.alloc (.cells cells el)):=by
 unfold buildSliceV at h
 split at h
 ·rename_i e hu
  split at h
  ·rename_i z hz
   cases hb:((P.info? e).isSome && Nat.ble (len * sizeP P e) 16777216) with
   | false=>simp [hb] at h
   | true=>
    simp only [hb,cond_true] at h
    simp only [Bool.and_eq_true] at hb
    have hle:len * sizeP P e ≤ 16777216:=Nat.le_of_ble_eq_true hb.2
    cases hf:Instr.fill (fun i=>some (i * sizeP P e,sizeP P e)) ((Array.range (len * sizeP P e)).map (z.cells[· % z.cells.size]!)) ps.toList with
    | none=>simp [hf] at h
    | some c=>
     simp only [hf,Option.map_some,Option.some.injEq,Prod.mk.injEq] at h
     obtain ⟨rfl,rfl⟩:=h
     by_cases h0:len * sizeP P e = 0
     ·have hf':=hf
      rw [h0] at hf'
      simp [Array.range_zero'] at hf'
      simp [Instr.buildSlice,run_underlying_some hu,run_sizeOf_some hb.1,h0,Array.range_zero',hf',newRow,newObj,Sem.run]
     ·simp [Instr.buildSlice,run_underlying_some hu,run_sizeOf_some hb.1,h0,Nat.not_lt.2 hle,run_zeroValue_some hz,hf,newRow,newObj,Sem.run]
  ·simp at h
 ·simp at h
end Go.Proofs.YtpifnlfmojfgpaaGreatDoor.Fw
end
section
namespace Go.Proofs.YtpifnlfmojfgpaaGreatDoor.Fw
variable {P:Program} {K:Value → World → Prop} {Kp:List PanicEntry → World → Prop} {w:World}
theorem good_eq {s s':Sem Next} (h:s = s') (hg:Good P K Kp (s'.run P w)):Good P K Kp (s.run P w):=h ▸ hg
theorem run_intBin {ty:BinOp} {xt:TypeId} {op:BinOp} {k:IntKind} {a b:Int} {x y:Operand} {Kv:Value → Prop} (h:intBin op k a b Kv) :
  ∃ v,(∀ w,(do eqGuard op xt x y (.int k a) (.int k b); binOp op xt (.int k a) (.int k b):Sem Value).run P w = .ok v w) ∧ Kv v:=by
 have hg:eqGuard op xt x y (.int k a) (.int k b) = pure ():=by cases op <;> rfl
 rw [hg]
 cases op <;> simp only [intBin] at h <;> try exact h.elim
 case quo=>exact ⟨_,fun w=>by simp [binOp,Op.intDiv,h.1],h.2⟩
 case rem=>exact ⟨_,fun w=>by simp [binOp,Op.intDiv,h.1],h.2⟩
 all_goals exact ⟨_,fun w=>by simp [binOp,Op.intArith,Op.intCmp,Op.intBits,Go.bits],h⟩
theorem run_binW {op:BinOp} {xt:TypeId} {x y:Operand} {a b:Value} {Kv:Value → Prop} {R:Sem Value → Prop} (h:binW P op xt x y a b Kv R) :
  (∃ v,(∀ w,(do eqGuard op xt x y a b; binOp op xt a b:Sem Value).run P w = .ok v w) ∧ Kv v) ∨ R (do eqGuard op xt x y a b; binOp op xt a b):=by
 unfold binW at h
 split at h
 ·rename_i k a k' b
  split at h
  ·rename_i hkk hd
   subst hkk
   obtain ⟨v,h1,h2⟩:=run_intBin (P:=P) (ty:=op) (xt:=xt) (x:=x) (y:=y) h
   exact .inl ⟨v,h1,h2⟩
  ·exact h.elim
 ·rename_i a b
  have hg:eqGuard op xt x y (.bool a) (.bool b) = pure ():=by cases op <;> rfl
  cases hb:isBoolT P xt with
  | false=>rw [hb] at h; exact h.elim
  | true=>
   rw [hb] at h
   have hu:P.underlying xt = some .bool:=by
    unfold isBoolT at hb
    split at hb
    ·assumption
    ·cases hb
   simp only [cond_true] at h
   split at h
   ·exact .inl ⟨_,fun w=>by rw [hg]; simp [run_eql_bool w xt a b hu],h⟩
   ·exact .inl ⟨_,fun w=>by rw [hg]; simp [run_neq_bool w xt a b hu],h⟩
   ·exact h.elim
 ·rename_i s t
  have hg:eqGuard op xt x y (.string s) (.string t) = pure ():=by cases op <;> rfl
  split at h
  ·obtain ⟨h1,h2⟩:=h
   refine .inl ⟨_,fun w=>?_,h2⟩
   rw [hg]
   have:¬ (((s.size + t.size:Nat):Int) > IntKind.i64.max):=by rw [wrap_i64_max]; omega
   simp [binOp,Op.stringOp]
   omega
  ·exact .inl ⟨_,fun w=>by rw [hg]; simp [binOp,Op.stringOp],h⟩
  ·exact .inl ⟨_,fun w=>by rw [hg]; simp [binOp,Op.stringOp],h⟩
  ·exact .inr h
 ·exact .inr h
theorem enters_spec {f:FuncId} (h:enters P f = true) (args:Array Value):(callFunc f args).run P w = .ok (.enter f args) w:=by
 unfold enters at h
 cases hf:P.funcs[f]? with
 | none=>simp [hf] at h
 | some fn=>
  simp only [hf,Bool.and_eq_true,Bool.not_eq_true'] at h
  obtain ⟨h1,h2⟩:=h
  simp only [beq_eq_false_iff_ne,ne_eq] at h1
  have h3:fn.body ≠ none:=by intro e; simp [e] at h2
  simp [callFunc,program,Sem.run,hf,h1,h3]
theorem bltn_run {b:Builtin} {ts:Array TypeId} {ty:TypeId} {cs:Array Bool} {args:Array Value} {s:Sem Value} (h:builtinSem b ts ty args = some s) :
  builtin b ts ty cs args = (do pure (.value (← s)):Sem Next):=by
 cases b <;> simp only [builtinSem] at h <;> first | (cases h; done) | (cases h; rfl)
theorem callw_good {c:Call} {ty:TypeId} {e:Env} (h:match c.callee with
  | .builtin .len=>
   match (c.args.map (ev e)).toList,c.argTypes.toList with
   | [.slice _ n _],[t]=>bif isLenT P t && !isStrT P t then K (.int .i64 (n:Int)) w else False
   | [.string s],[t]=>bif isStrT P t then K (.int .i64 (s.size:Int)) w else False
   | _,_=>RunR P ty (Builtin.len_ c.argTypes ty (c.args.map (ev e))) w K
  | .builtin b=>
   match builtinSem b c.argTypes ty (c.args.map (ev e)) with
   | some s=>RunR P ty s w K
   | none=>False
  | .value f=>
   match ev e f with
   | .func (.func g) fi ca=>bif enters P g then CallR P ty g ((fi ++ c.args.map (ev e)) ++ ca) w K Kp else False
   | .func (.yield l) fi ca=>YieldT P l (fi ++ c.args.map (ev e)) w fun b w'=>K (.bool b) w'
   | _=>False
  | .invoke _ _=>False):Good P K Kp ((do let d ← resolve (ev e) c ty; invoke d.target d.args:Sem Next).run P w):=by
 obtain ⟨callee,args,argTypes⟩:=c
 cases callee with
 | invoke r m=>exact h.elim
 | builtin b=>
  have hres:(do let d ← resolve (ev e) ⟨.builtin b,args,argTypes⟩ ty; invoke d.target d.args:Sem Next) = builtin b argTypes ty (args.map fun | .const _=>true | _=>false) (args.map (ev e)):=by
   rfl
  refine good_eq hres ?_
  by_cases hb:b = .len
  ·subst hb
   dsimp only at h
   have hlen:builtin .len argTypes ty (args.map fun | .const _=>true | _=>false) (args.map (ev e)) = (do pure (.value (← Builtin.len_ argTypes ty (args.map (ev e)))):Sem Next):=rfl
   refine good_eq hlen ?_
   split at h
   ·rename_i a n c t h1 h2
    have e1:args.map (ev e) = #[.slice a n c]:=by rw [← Array.toList_inj]; exact h1
    have e2:argTypes = #[t]:=by rw [← Array.toList_inj]; exact h2
    rw [e1,e2]
    cases hl:(isLenT P t && !isStrT P t) with
    | false=>rw [hl] at h; exact h.elim
    | true=>
     rw [hl] at h
     simp only [Bool.and_eq_true,Bool.not_eq_true'] at hl
     obtain ⟨hl1,hl2⟩:=hl
     unfold isLenT at hl1
     split at hl1
     ·rename_i hu; simp [isStrT,hu] at hl2
     ·rename_i el hu
      exact good_value (w':=w) (v:=.int .i64 (n:Int)) (by simp [Builtin.len_,run_underlying_some hu,goInt]) h
     ·cases hl1
   ·rename_i s t h1 h2
    have e1:args.map (ev e) = #[.string s]:=by rw [← Array.toList_inj]; exact h1
    have e2:argTypes = #[t]:=by rw [← Array.toList_inj]; exact h2
    rw [e1,e2]
    cases hl:isStrT P t with
    | false=>rw [hl] at h; exact h.elim
    | true=>
     rw [hl] at h
     unfold isStrT at hl
     split at hl
     ·rename_i hu
      exact good_value (w':=w) (v:=.int .i64 (s.size:Int)) (by simp [Builtin.len_,run_underlying_some hu,goInt]) h
     ·cases hl
   ·exact good_runR h
  ·have h':match builtinSem b argTypes ty (args.map (ev e)) with
     | some s=>RunR P ty s w K
     | none=>False:=by
    cases b <;> first | exact h | exact absurd rfl hb
   split at h'
   ·rename_i s hs
    rw [bltn_run hs]
    exact good_runR h'
   ·exact h'.elim
 | value f=>
  dsimp only at h
  split at h
  ·rename_i g fi ca hf
   have hres:(do let d ← resolve (ev e) ⟨.value f,args,argTypes⟩ ty; invoke d.target d.args:Sem Next) = callFunc g ((fi ++ args.map (ev e)) ++ ca):=by
    simp only [resolve,hf,Deferred.ofValue,pure_bind]
    rfl
   refine good_eq hres ?_
   cases hen:enters P g with
   | false=>rw [hen] at h; exact h.elim
   | true=>
    rw [hen] at h
    rw [enters_spec hen]
    exact CallR.calls h
  ·rename_i l fi ca hf
   have hres:(do let d ← resolve (ev e) ⟨.value f,args,argTypes⟩ ty; invoke d.target d.args:Sem Next) = Instr.yield l (fi ++ args.map (ev e)):=by
    simp only [resolve,hf,Deferred.ofValue,pure_bind]
    rfl
   refine good_eq hres ?_
   obtain ⟨f',tmps,assign,body,h1,h2⟩:=h
   rw [h1]
   refine RoundIn.mono h2 fun e' w' he=>?_
   cases e' with
   | returned v=>obtain ⟨b,rfl,hb⟩:=he; exact hb
   | panicked ch=>exact he.elim
   | outgrown=>exact he
  ·exact h.elim
theorem vals_length:∀ (l:List Sc) (x:dens l),(vals l x).length = l.length
 | [],_=>rfl
 | s :: l,(x,y)=>by simp [vals,vals_length l y]
set_option maxHeartbeats 4000000 in
theorem opw_good {lit:Bool} {o:Oper} {e:Env} (h:opw P lit o e w K Kp):Good P K Kp ((execOp (ev e) o).run P w):=by
 obtain ⟨dst,op,ty,pos,after,guard⟩:=o
 cases op <;> simp only [opw] at h <;> simp only [execOp]
 case move x=>exact h
 case assign x=>exact h
 case pick c a b=>
  split at h
  ·rename_i t ht
   rw [ht]
   cases lit with
   | true=>cases t <;> exact h
   | false=>cases t with
    | true=>exact h.1 rfl
    | false=>exact h.2 rfl
  ·exact h.elim
 case alloc t=>
  split at h
  ·rename_i z hz
   exact good_value (w':=w.alloc (.cells z.cells t)) (v:=.pointer (some ⟨w.heap.size,0,none⟩)) (by simp [Instr.alloc,run_zeroValue_some hz,newVar,newRow,newObj,Sem.run]) h
  ·exact h.elim
 case box t x=>exact good_value (w':=w.alloc (.cells (ev e x).cells t)) (v:=.pointer (some ⟨w.heap.size,0,none⟩)) (by simp [Instr.box,newVar,newRow,newObj,Sem.run]) h
 case build t ps=>
  split at h
  ·rename_i v hv; exact good_value (run_build hv) h
  ·exact h.elim
 case buildSlice t len ps=>
  split at h
  ·rename_i el cells hv; exact good_value (run_buildSlice hv) h
  ·exact h.elim
 case load t x=>
  split at h
  ·rename_i a ha
   rw [ha]
   unfold tyOf at h
   cases hu:P.underlying t with
   | none=>
    have hag:isAggT P t = false:=by unfold isAggT; rw [hu]
    rw [hag,hu] at h
    exact h.elim
   | some d=>
   cases hag:isAggT P t with
   | false=>
    rw [hag,hu] at h
    obtain ⟨x,hc,hk⟩:=h
    exact good_value (w':=w) (by simp [Instr.loadAt,Instr.sureAddr,loadVar,run_isAgg hu,hag,hc]) hk
   | true=>
    rw [hag] at h
    simp only [cond_true] at h
    cases hb:(Nat.beq (sizeP P t) (scsOf P 8 t).length && (P.info? t).isSome) with
    | false=>rw [hb] at h; exact h.elim
    | true=>
     rw [hb] at h
     obtain ⟨x,hc,hk⟩:=h
     simp only [Bool.and_eq_true] at hb
     have hlen:(vals (scsOf P 8 t) x).length = (scsOf P 8 t).length:=vals_length _ _
     have hsz:sizeP P t = (vals (scsOf P 8 t) x).length:=by rw [hlen]; exact Nat.eq_of_beq_eq_true hb.1
     refine good_value (w':=w) ?_ hk
     simp only [Instr.loadAt,Instr.sureAddr,loadVar,Sem.run_bind,Sem.run_pure,Result.andThen_ok,run_isAgg hu,hag,if_true,run_sizeOf_some hb.2,hsz,run_loadCells_holds hc]
  ·exact h.elim
 case store t x y=>
  split at h
  ·rename_i a ha
   rw [ha]
   split at h
   ·cases hb:(Nat.beq (sizeP P t) 1 && (P.info? t).isSome) with
    | false=>rw [hb] at h; exact h.elim
    | true=>
     rw [hb] at h
     simp only [Bool.and_eq_true] at hb
     obtain ⟨h1,h2,h3⟩:=h
     exact good_runU ⟨_,by simp [Instr.storeAt,Instr.sureAddr,run_storeVar_one (Nat.eq_of_beq_eq_true hb.1) hb.2 h1 h2],h3⟩
   ·cases hb:(Nat.beq (sizeP P t) 1 && (P.info? t).isSome) with
    | false=>rw [hb] at h; exact h.elim
    | true=>
     rw [hb] at h
     simp only [Bool.and_eq_true] at hb
     simp only [cond_true] at h
     split at h
     ·exact h.elim
     ·exact h.elim
     ·rename_i v hv1 hv2
      have h1:(ev e y).oneCell' = true:=by
       cases hv:ev e y <;> first | rfl | exact absurd hv (hv1 _) | exact absurd hv (hv2 _)
      exact good_runU ⟨_,by simp [Instr.storeAt,Instr.sureAddr,run_storeVar_one (Nat.eq_of_beq_eq_true hb.1) hb.2 h1 h.1],h.2⟩
   ·split at h
    ·rename_i cs hcs
     rw [hcs]
     cases hb:(Nat.beq (sizeP P t) cs.size && (P.info? t).isSome && cs.toList.all Value.oneCell') with
     | false=>rw [hb] at h; exact h.elim
     | true=>
      rw [hb] at h
      simp only [Bool.and_eq_true,List.all_eq_true] at hb
      obtain ⟨⟨hb1,hb2⟩,h1⟩:=hb
      obtain ⟨h2,h3⟩:=h
      exact good_runU ⟨_,by simp [Instr.storeAt,Instr.sureAddr,run_storeVar_agg (Nat.eq_of_beq_eq_true hb1) hb2 h1 h2],h3⟩
    ·exact h.elim
  ·exact h.elim
 case nilCheck x=>
  split at h
  ·rename_i p hp
   obtain ⟨a,rfl,hk⟩:=h
   rw [hp]; exact hk
  ·rename_i f fi ca hf
   rw [hf]; exact h
  ·rename_i l fi ca hf
   rw [hf]; exact h
  ·exact h.elim
 case binOp op xt x y yt=>
  rcases run_binW h with ⟨v,h1,h2⟩ | h
  ·exact good_value (h1 w) h2
  ·exact good_runR h
 case unOp op xt x=>
  cases op with
  | not=>
   dsimp only at h
   split at h
   ·rename_i b hb
    rw [hb]
    exact good_value (w':=w) (v:=.bool (!b)) (by simp [Op.unary]) h
   ·exact h.elim
  | _=>exact good_runR h
 case convert s d x=>exact good_runR h
 case makeInterface xt x=>
  split at h
  ·exact h.elim
  ·rename_i d hd hu
   refine good_value (w':=w) (v:=.iface xt (ev e x)) ?_ h
   simp only [Instr.makeInterface,Sem.run_bind,run_underlying_some hu,Result.andThen_ok]
   cases d <;> first | rfl | exact absurd rfl (hd _)
  ·exact h.elim
 case makeFunc fn fi ca=>exact h
 case makeMap t r=>
  cases r with
  | some r=>exact h.elim
  | none=>exact good_value (w':=w.alloc (.map #[] 0)) (v:=.map (some w.heap.size)) (by simp [Instr.makeMap,newObj,Sem.run]) h
 case makeSlice t l c=>exact good_runR h
 case slice t x lo hi mx=>exact good_runR h
 case fieldAddr s x f=>
  split at h
  ·rename_i a ha
   split at h
   ·rename_i off t hf
    cases hb:Nat.blt 0 (sizeP P t) with
    | false=>rw [hb] at h; exact h.elim
    | true=>
     rw [hb] at h
     rw [ha]
     exact good_value (run_fieldAt hf (by simpa using hb)) h
   ·exact h.elim
  ·exact h.elim
 case field s x f=>
  split at h
  ·rename_i cs hc
   rw [hc]
   split at h
   ·rename_i off t hf
    obtain ⟨v,h1,h2⟩:=partW_run (P:=P) (w:=w) h
    unfold fieldOff at hf
    split at hf
    ·rename_i fs hu
     cases hx:fs[f]? with
     | none=>simp [hx] at hf
     | some x=>
      simp only [hx,Option.map_some,Option.some.injEq,Prod.mk.injEq] at hf
      obtain ⟨rfl,rfl⟩:=hf
      exact good_value (w':=w) (by simp [Instr.field,run_underlying_some hu,hx,asAgg,h1]) h2
    ·cases hf
   ·exact h.elim
  ·exact h.elim
 case indexAddr t x i=>
  split at h
  ·rename_i el hu
   split at h
   ·rename_i b n c hx
    split at h
    ·rename_i k i hi
     cases h0:(P.info? el).isSome with
     | false=>rw [h0] at h; exact h.elim
     | true=>
     rw [h0] at h
     obtain ⟨a,rfl,h1,h2,h3⟩:=h
     rw [hx,hi]
     exact good_value (w':=w) (by simp [Instr.indexAt,asIntOf,run_underlying_some hu,h1,h2,run_sizeOf_some h0]) h3
    ·exact h.elim
   ·exact h.elim
  ·rename_i len el hu
   split at h
   ·rename_i a hx
    split at h
    ·rename_i k i hi
     cases h0:(P.info? el).isSome with
     | false=>rw [h0] at h; exact h.elim
     | true=>
     rw [h0] at h
     obtain ⟨a',ha,h1,h2,h3⟩:=h
     cases ha
     rw [hx,hi]
     exact good_value (w':=w) (by simp [Instr.indexAt,asIntOf,run_underlying_some hu,h1,h2,run_sizeOf_some h0,Instr.sureAddr]) h3
    ·exact h.elim
   ·exact h.elim
  ·exact h.elim
 case index t x i=>
  split at h
  ·rename_i hu
   split at h
   ·rename_i s hx
    split at h
    ·rename_i k i hi
     obtain ⟨h1,h2,h3⟩:=h
     rw [hx,hi]
     refine good_value (w':=w) ?_ h3
     simp [Instr.index,asIntOf,run_underlying_some hu,h1,h2]
    ·exact h.elim
   ·exact h.elim
  ·exact good_runR h
 case lookup t x i ok=>exact good_runR h
 case mapUpdate t m k x=>exact good_runU h
 case insert t m k x=>exact good_runU h
 case range t x=>
  obtain ⟨x,w',h1,h2⟩:=h
  exact good_value h1 h2
 case next it s=>
  rcases h with ⟨w',h1,h2⟩ | ⟨x,w',h1,h2⟩
  ·exact good_value h1 h2
  ·exact good_value h1 h2
 case entry it=>exact good_runR h
 case typeAssert x xt ta ok=>exact good_runR h
 case extract t i=>
  split at h
  ·rename_i vs hv
   rw [hv]
   split at h
   ·rename_i v hi
    exact good_value (w':=w) (by simp [Instr.extract,hi]) h
   ·exact h.elim
  ·exact h.elim
 case panic x=>
  split at h
  ·rename_i t v hv
   rw [hv]
   simpa [Instr.panic,goPanic,Sem.run,Good] using h
  ·exact h.elim
 case call c=>exact callw_good h
 all_goals exact h.elim
end Go.Proofs.YtpifnlfmojfgpaaGreatDoor.Fw
end
section
namespace Go.Proofs.YtpifnlfmojfgpaaGreatDoor.Fw
def guardSlot (ops:Array Oper) (o:Oper):Option (Nat × Bool):=
 match o.guard with
 | none=>none
 | some (j,want)=>
  match (ops[j]?).bind (·.dst) with
  | some d=>some (d,want)
  | none=>some (0,want)
def guardOk (ops:Array Oper) (n:Nat) (o:Oper):Bool:=
 match o.guard with
 | none=>true
 | some (j,_)=>
  match (ops[j]?).bind (·.dst) with
  | some d=>Nat.blt d n
  | none=>false
def isBool (v:Value) (want:Bool):Bool:=
 match v with
 | .bool b=>b == want
 | _=>false
def wantedE (ops:Array Oper) (o:Oper) (e:Env):Bool:=
 match guardSlot ops o with
 | none=>true
 | some (d,want)=>isBool (e d) want
def okOp (ops:Array Oper) (F:Fm) (o:Oper):Bool:=
 o.op.operands.all (okX F.n) && guardOk ops F.n o && F.free o.dst && (match o.op with | .select _ _=>false | .defer _=>false | .go _=>false | _=>true)
def okOps (F:Fm) (ops:Array Oper):Bool:=ops.all (okOp ops F)
theorem wanted_rep {F:Fm} {ds:List Deferred} {e:Env} {a:Act} {ops:Array Oper} {o:Oper} (h:Rep F ds e a) (ho:guardOk ops F.n o = true) :
  Region.wanted o (yielded ops a.tmps) = wantedE ops o e:=by
 unfold guardOk at ho
 unfold wantedE guardSlot Region.wanted
 cases hg:o.guard with
 | none=>rfl
 | some g=>
  obtain ⟨j,want⟩:=g
  rw [hg] at ho
  dsimp only at ho ⊢
  cases hd:(ops[j]?).bind (·.dst) with
  | none=>rw [hd] at ho; cases ho
  | some d=>
   rw [hd] at ho
   have hlt:d < F.n:=by simpa using ho
   have hs:=h.slots d hlt
   have hs':a.tmps[d]? = some (e d):=by
    rw [← hs]
    simp [h.size,hlt]
   simp only [yielded,hd,Option.bind_some,hs',isBool]
   cases e d <;> simp
def stepE (P:Program) (ops:Array Oper) (i:Nat) (e:Env) (w:World) (C:Env → World → Prop) (Kp:List PanicEntry → World → Prop):Prop:=
 match ops[i]? with
 | none=>C e w
 | some o=>if wantedE ops o e = true then Good P (fun v w'=>C (updO e o.dst v) w') Kp ((execOp (ev e) o).run P w) else C (updO e o.dst undef) w
theorem Good.mono {P:Program} {K K':Value → World → Prop} {Kp Kp':List PanicEntry → World → Prop} {r:Result Next} (h:Good P K Kp r) (hk:∀ v w,K v w → K' v w) (hp:∀ c w,Kp c w → Kp' c w):Good P K' Kp' r:=by
 cases r with
 | ok x w=>
  cases x <;> simp only [Good] at h ⊢ <;> first
   | exact hk _ _ h
   | exact h.elim
   | (refine Calls.mono h fun e w' he=>?_; cases e <;> first | exact hk _ _ he | exact hp _ _ he | exact he)
   | (refine RoundIn.mono h fun e w' he=>?_; cases e <;> first | exact hk _ _ he | exact hp _ _ he | exact he)
 | halt x w=>cases x <;> simp only [Good] at h ⊢ <;> first | exact hp _ _ h | exact h.elim
theorem stepE_mono {P:Program} {ops:Array Oper} {i:Nat} {e:Env} {w:World} {C C':Env → World → Prop} {Kp:List PanicEntry → World → Prop} (h:stepE P ops i e w C Kp) (hc:∀ e w,C e w → C' e w):stepE P ops i e w C' Kp:=by
 unfold stepE at *
 cases ho:ops[i]? with
 | none=>rw [ho] at h; exact hc _ _ h
 | some o=>
  rw [ho] at h
  dsimp only at h ⊢
  split
  ·rename_i hw; rw [if_pos hw] at h; exact Good.mono h (fun v w hv=>hc _ _ hv) (fun _ _ h=>h)
  ·rename_i hw; rw [if_neg hw] at h; exact hc _ _ h
theorem callsIn_of_calls {ro:Option Nat} {n:Nat} {P:Program} {f:FuncId} {args:Array Value} {w:World} {R R':Ending → World → Prop} (h:Calls P f args w R) (hr:∀ e w',R e w' → R' e w'):CallsIn (Wf ro) n P f args w R':=
 callsIn_Wf.2 (Calls.mono h hr)
theorem good_uponIn {ro:Option Nat} {P:Program} {o:Oper} {a:Act} {K:Value → World → Prop} {Kp:List PanicEntry → World → Prop} {next:Act → World → Prop} {Q:Exit → Act → World → Prop} {r:Result Next}
  (h:Good P K Kp r) (hk:∀ v w,K v w → next (a.put o.dst v) w) (hp:∀ c w,Kp c w → Q (.panic c) a w):o.uponIn (Wf ro) 0 P a next Q r:=by
 cases r with
 | ok x w=>
  cases x <;> simp only [Good] at h <;> simp only [Oper.uponIn] <;> first
   | exact hk _ _ h
   | exact h.elim
   | exact ⟨fun h=>by simp at h,callsIn_of_calls h fun e w' he=>by cases e <;> first | exact hk _ _ he | exact hp _ _ he | exact he.elim⟩
   | exact ⟨fun h=>by simp at h,RoundIn.mono h fun e w' he=>by cases e <;> first | exact hk _ _ he | exact hp _ _ he | exact he.elim⟩
 | halt x w=>cases x <;> simp only [Good] at h <;> simp only [Oper.uponIn] <;> first | exact hp _ _ h | exact h.elim
theorem semAt_of_ok {ops:Array Oper} {F:Fm} {ro:Option Nat} {o:Oper} {ρ:Operand → Value} (h:okOp ops F o = true):o.semAt ro ρ = execOp ρ o:=by
 refine Oper.semAt_eq ro ρ o fun c hc=>?_
 simp [okOp,hc] at h
theorem noSelect_of_ok {ops:Array Oper} {F:Fm} {o:Oper} (h:okOp ops F o = true):∀ cs b,o.op ≠ .select cs b:=by
 intro cs b hc
 simp [okOp,hc] at h
theorem execOp_rep {ops:Array Oper} {F:Fm} {ds:List Deferred} {e:Env} {a:Act} {o:Oper} (hr:Rep F ds e a) (h:okOp ops F o = true):execOp a.eval o = execOp (ev e) o:=by
 refine execOp_congr o (noSelect_of_ok h) fun x hx=>hr.ev ?_
 simp only [okOp,Bool.and_eq_true] at h
 have h1:=h.1.1.1
 rw [Array.all_eq_true_iff_forall_mem] at h1
 exact h1 x hx
theorem guardOk_of_ok {ops:Array Oper} {F:Fm} {o:Oper} (h:okOp ops F o = true):guardOk ops F.n o = true:=by
 simp only [okOp,Bool.and_eq_true] at h
 exact h.1.1.2
theorem free_of_ok {ops:Array Oper} {F:Fm} {o:Oper} (h:okOp ops F o = true):F.free o.dst = true:=by
 simp only [okOp,Bool.and_eq_true] at h
 exact h.1.2
theorem okOp_at {ops:Array Oper} {F:Fm} {i:Nat} {o:Oper} (h:okOps F ops = true) (ho:ops[i]? = some o):okOp ops F o = true:=by
 unfold okOps at h
 rw [Array.all_eq_true_iff_forall_mem] at h
 exact h o (Array.mem_of_getElem? ho)
theorem wpOpIn_of_stepE {ro:Option Nat} {P:Program} {ops:Array Oper} {F:Fm} {ds:List Deferred} {i:Nat} {e:Env} {a:Act} {w:World} {C:Env → World → Prop} {Kp:List PanicEntry → World → Prop} {K:Act → World → Prop} {Q:Exit → Act → World → Prop}
  (hok:okOps F ops = true) (hr:Rep F ds e a) (h:stepE P ops i e w C Kp) (hk:∀ e a w,Rep F ds e a → C e w → K a w) (hp:∀ c w,Kp c w → ∀ a:Act,a.defers = ds → (∀ p ∈ F.fx,a.tmps.getD p.1 undef = p.2) → Q (.panic c) a w):wpOpIn (Wf ro) 0 P ops Q i K a w:=by
 unfold stepE at h
 unfold wpOpIn
 cases ho:ops[i]? with
 | none=>rw [ho] at h; exact hk _ _ _ hr h
 | some o=>
  rw [ho] at h
  have hoo:=okOp_at hok ho
  dsimp only at h ⊢
  rw [wanted_rep hr (guardOk_of_ok hoo)]
  by_cases hw:wantedE ops o e = true
  ·rw [if_pos hw] at h
   rw [if_pos hw]
   refine ⟨fun _ _=>trivial,?_⟩
   rw [semAt_of_ok hoo,execOp_rep hr hoo]
   exact good_uponIn h (fun v w hv=>hk _ _ _ (hr.put _ _ (free_of_ok hoo)) hv) (fun c w hc=>hp c w hc a hr.defers hr.at)
  ·rw [if_neg hw] at h
   rw [if_neg hw]
   exact ⟨fun _ _=>trivial,hk _ _ _ (hr.put _ _ (free_of_ok hoo)) h⟩
def seqE (P:Program) (ops:Array Oper) (C:Env → World → Prop) (Kp:List PanicEntry → World → Prop):List Nat → Env → World → Prop
 | [],e,w=>C e w
 | i :: l,e,w=>stepE P ops i e w (seqE P ops C Kp l) Kp
theorem wpOpsIn_of_seqE {ro:Option Nat} {P:Program} {ops:Array Oper} {F:Fm} {ds:List Deferred} {C:Env → World → Prop} {Kp:List PanicEntry → World → Prop} {Q:Exit → Act → World → Prop}
  (hok:okOps F ops = true) (hq:∀ e a w,Rep F ds e a → C e w → Q .normal a w) (hp:∀ c w,Kp c w → ∀ a:Act,a.defers = ds → (∀ p ∈ F.fx,a.tmps.getD p.1 undef = p.2) → Q (.panic c) a w) :
  ∀ (l:List Nat) (e:Env) (a:Act) (w:World),Rep F ds e a → seqE P ops C Kp l e w → wpOpsIn (Wf ro) 0 P ops Q l a w
 | [],e,a,w,hr,h=>hq e a w hr h
 | i :: l,e,a,w,hr,h=>by
  rw [wpOpsIn_cons]
  exact wpOpIn_of_stepE hok hr h (fun e a w hr hc=>wpOpsIn_of_seqE hok hq hp l e a w hr hc) hp
def maskOf (ops:Array Oper) (t:List Nat) (n:Nat):Nat:=
 match ops[n]? with
 | some o=>o.after.toList.foldl (fun m x=>bif Region.binds .any x && Nat.blt x.on n then m ||| t.getD x.on 0 ||| (1 <<< x.on) else m) 0
 | none=>0
def ancTab (ops:Array Oper) (n:Nat):List Nat:=(List.range n).foldl (fun t i=>t ++ [maskOf ops t i]) []
def pivotIn (ops:Array Oper) (t:List Nat) (j:Nat):Bool:=
 (List.range ops.size).all fun k=>k == j || (t.getD j 0).testBit k || (t.getD k 0).testBit j
def pivot (ops:Array Oper) (j:Nat):Bool:=pivotIn ops (ancTab ops ops.size) j
inductive IsAnc (ops:Array Oper):Nat → Nat → Prop
 | direct {i j:Nat} {o:Oper} {x:Edge} (h:ops[j]? = some o) (hx:x ∈ o.after) (hb:Region.binds .any x = true) (hi:x.on = i):IsAnc ops i j
 | trans {i m j:Nat} {o:Oper} {x:Edge} (h0:IsAnc ops i m) (h:ops[j]? = some o) (hx:x ∈ o.after) (hb:Region.binds .any x = true) (hi:x.on = m):IsAnc ops i j
def TabOk (ops:Array Oper) (t:List Nat):Prop:=∀ j i,(t.getD j 0).testBit i = true → IsAnc ops i j
theorem maskOf_spec {ops:Array Oper} {t:List Nat} (ht:TabOk ops t) (n i:Nat) (h:(maskOf ops t n).testBit i = true):IsAnc ops i n:=by
 unfold maskOf at h
 cases ho:ops[n]? with
 | none=>rw [ho] at h; simp at h
 | some o=>
  rw [ho] at h
  dsimp only at h
  have key:∀ (l:List Edge),(∀ x ∈ l,x ∈ o.after) → ∀ m:Nat,(m.testBit i = true → IsAnc ops i n) →
    (l.foldl (fun m x=>bif Region.binds .any x && Nat.blt x.on n then m ||| t.getD x.on 0 ||| (1 <<< x.on) else m) m).testBit i = true → IsAnc ops i n:=by
   intro l
   induction l with
   | nil=>exact fun _ m hm h=>hm h
   | cons x l ih=>
    intro hl m hm h
    rw [List.foldl_cons] at h
    refine ih (fun y hy=>hl y (List.mem_cons_of_mem _ hy)) _ ?_ h
    cases hb:(Region.binds .any x && Nat.blt x.on n) with
    | false=>exact hm
    | true=>
     simp only [cond_true,Nat.testBit_or,Bool.or_eq_true]
     simp only [Bool.and_eq_true] at hb
     rintro ((h | h) | h)
     ·exact hm h
     ·exact .trans (ht _ _ h) ho (hl x (by simp)) hb.1 rfl
     ·refine .direct ho (hl x (by simp)) hb.1 ?_
      rw [Nat.one_shiftLeft,Nat.testBit_two_pow] at h
      simpa using h
  exact key o.after.toList (fun x hx=>by simpa using hx) 0 (by simp) h
theorem ancTab_ok (ops:Array Oper) (n:Nat):TabOk ops (ancTab ops n) ∧ (ancTab ops n).length = n:=by
 induction n with
 | zero=>exact ⟨fun j i h=>by simp [ancTab] at h,rfl⟩
 | succ n ih=>
  have he:ancTab ops (n + 1) = ancTab ops n ++ [maskOf ops (ancTab ops n) n]:=by unfold ancTab; rw [List.range_succ,List.foldl_append]; rfl
  rw [he]
  refine ⟨fun j i h=>?_,by simp [ih.2]⟩
  by_cases hj:j < n
  ·rw [List.getD_eq_getElem?_getD,List.getElem?_append_left (by omega),← List.getD_eq_getElem?_getD] at h; exact ih.1 j i h
  ·by_cases hjn:j = n
   ·subst hjn
    rw [List.getD_eq_getElem?_getD,List.getElem?_append_right (by omega),ih.2,Nat.sub_self] at h
    exact maskOf_spec ih.1 _ _ h
   ·rw [List.getD_eq_getElem?_getD,List.getElem?_eq_none (by simp [ih.2]; omega)] at h; simp at h
def Down (ops:Array Oper) (listed:Array Bool):Prop:=
 ∀ j o,listed.getD j false = true → ops[j]? = some o → ∀ x ∈ o.after,Region.binds .any x = true → listed.getD x.on false = true
theorem Down.anc {ops:Array Oper} {listed:Array Bool} (hd:Down ops listed) {i j:Nat} (h:IsAnc ops i j) :
  (∀ o,ops[j]? = some o → ∀ x ∈ o.after,Region.binds .any x = true → listed.getD x.on false = true) → listed.getD i false = true:=by
 induction h with
 | direct h hx hb hi=>intro hp; rw [← hi]; exact hp _ h _ hx hb
 | trans h0 h hx hb hi ih=>intro hp; exact ih fun o ho y hy hyb=>hd _ o (by rw [← hi]; exact hp _ h _ hx hb) ho y hy hyb
def anyE (P:Program) (ops:Array Oper) (C:Env → World → Prop) (Kp:List PanicEntry → World → Prop):Nat → (World → Prop) → Array Bool → Env → World → Prop
 | 0,_,listed,e,w=>Region.ready .any ops listed = [] ∧ C e w
 | f + 1,S,listed,e,w=>
  (Region.ready .any ops listed = [] → C e w) ∧
  ∀ i ∈ Region.ready .any ops listed,stepE P ops i e w (fun e' w'=>
   (pivot ops i = true ∧ ∃ S':World → Prop,S' w' ∧ anyE P ops C Kp f S' (listed.setIfInBounds i true) e' w') ∨
   (∃ S':World → Prop,(∀ w,S' w → S w) ∧ S' w' ∧ anyE P ops C Kp f S' (listed.setIfInBounds i true) e' w')) Kp
theorem wpAnyIn_of_anyE {ro:Option Nat} {P:Program} {ops:Array Oper} {F:Fm} {ds:List Deferred} {C:Env → World → Prop} {Kp:List PanicEntry → World → Prop} {Q:Exit → Act → World → Prop}
  (hok:okOps F ops = true) (hq:∀ e a w,Rep F ds e a → C e w → Q .normal a w) (hp:∀ c w,Kp c w → ∀ a:Act,a.defers = ds → (∀ p ∈ F.fx,a.tmps.getD p.1 undef = p.2) → Q (.panic c) a w) :
  ∀ (f:Nat) (S:World → Prop) (listed:Array Bool) (e:Env) (a:Act) (w:World),Rep F ds e a → anyE P ops C Kp f S listed e w → wpAnyIn (Wf ro) 0 P .any ops Q f listed a w
 | 0,S,listed,e,a,w,hr,h=>⟨h.1,hq e a w hr h.2⟩
 | f + 1,S,listed,e,a,w,hr,h=>by
  refine ⟨fun h0=>hq e a w hr (h.1 h0),fun i hi=>?_⟩
  refine wpOpIn_of_stepE hok hr (h.2 i hi) (fun e' a' w' hr' hc=>?_) hp
  rcases hc with ⟨_,S',_,hc⟩ | ⟨S',_,_,hc⟩
  ·exact wpAnyIn_of_anyE hok hq hp f S' _ e' a' w' hr' hc
  ·exact wpAnyIn_of_anyE hok hq hp f S' _ e' a' w' hr' hc
def YieldsE (P:Program) (ops:Array Oper) (S:World → Prop) (o:Oper) (v:Value) (e:Env):Prop:=
 (wantedE ops o e = true ∧ ∀ w,S w → (execOp (ev e) o).run P w = .ok (.value v) w) ∨ (wantedE ops o e = false ∧ v = undef)
theorem updO_comm (e:Env) {x y:Option Nat} (v u:Value) (h:∀ d,x = some d → y ≠ some d):updO (updO e x v) y u = updO (updO e y u) x v:=by
 cases x with
 | none=>rfl
 | some d=>
  cases y with
  | none=>rfl
  | some d'=>
   have hne:d ≠ d':=fun he=>h d rfl (by rw [he])
   funext t
   simp only [updO]
   by_cases h1:t = d'
   ·subst h1
    rw [upd_same,upd_other _ _ _ _ (fun e=>hne e.symm),upd_same]
   ·rw [upd_other _ _ _ _ h1]
    by_cases h2:t = d
    ·subst h2; rw [upd_same,upd_same]
    ·rw [upd_other _ _ _ _ h2,upd_other _ _ _ _ h2,upd_other _ _ _ _ h1]
theorem ev_updO (e:Env) {d:Option Nat} {v:Value} {x:Operand} (h:∀ t,d = some t → x ≠ .tmp t):ev (updO e d v) x = ev e x:=by
 cases d with
 | none=>rfl
 | some d=>
  cases x with
  | tmp t=>exact upd_other _ _ _ _ (fun he=>h d rfl (by rw [he]))
  | _=>rfl
theorem execOp_updO {ops:Array Oper} (o:Oper) (hs:∀ cs b,o.op ≠ .select cs b) (e:Env) (d:Option Nat) (v:Value) (h:∀ t,d = some t → t ∉ o.looksAt ops):execOp (ev (updO e d v)) o = execOp (ev e) o:=
 execOp_congr o hs fun x hx=>ev_updO e fun t ht hxt=>h t ht (by
  subst hxt
  exact List.mem_append_left _ (List.mem_filterMap.2 ⟨.tmp t,by simpa using hx,rfl⟩))
theorem wantedE_updO {ops:Array Oper} {n:Nat} (o:Oper) (hok:guardOk ops n o = true) (e:Env) (d:Option Nat) (v:Value) (h:∀ t,d = some t → t ∉ o.looksAt ops):wantedE ops o (updO e d v) = wantedE ops o e:=by
 cases d with
 | none=>rfl
 | some d=>
  unfold guardOk at hok
  unfold wantedE guardSlot
  cases hg:o.guard with
  | none=>rfl
  | some g=>
   obtain ⟨j,want⟩:=g
   rw [hg] at hok
   dsimp only at hok ⊢
   cases hd:(ops[j]?).bind (·.dst) with
   | none=>rw [hd] at hok; cases hok
   | some t=>
    dsimp only
    have hne:t ≠ d:=fun he=>h d rfl (by subst he; simp [Oper.looksAt,hg,hd])
    rw [updO,upd_other _ _ _ _ hne]
theorem YieldsE.stepE {P:Program} {ops:Array Oper} {S:World → Prop} {i:Nat} {o:Oper} {v:Value} {e:Env} {w:World} {C:Env → World → Prop} {Kp:List PanicEntry → World → Prop}
  (hi:ops[i]? = some o) (hy:YieldsE P ops S o v e) (hS:S w) (h:C (updO e o.dst v) w):stepE P ops i e w C Kp:=by
 unfold Fw.stepE
 rw [hi]
 rcases hy with ⟨h1,h2⟩ | ⟨h1,rfl⟩
 ·dsimp only; rw [if_pos h1,h2 w hS]; exact h
 ·dsimp only; rw [if_neg (by rw [h1]; simp)]; exact h
theorem stepE_put {P:Program} {ops:Array Oper} {F:Fm} {S:World → Prop} {j:Nat} {oi oj:Oper} {v:Value} {e:Env} {w:World} {C:Env → World → Prop} {Kp:List PanicEntry → World → Prop}
  (hj:ops[j]? = some oj) (hap:oi.apart ops oj = true) (hoi:okOp ops F oi = true) (hoj:okOp ops F oj = true)
  (hy:YieldsE P ops S oi v e) (h:stepE P ops j (updO e oi.dst v) w C Kp):stepE P ops j e w (fun e' w'=>YieldsE P ops S oi v e' ∧ C (updO e' oi.dst v) w') Kp:=by
 obtain ⟨h1,h2,h3⟩:=Oper.apart_spec hap
 have keep:∀ u,YieldsE P ops S oi v (updO e oj.dst u):=fun u=>by
  unfold YieldsE at *
  rw [execOp_updO oi (noSelect_of_ok hoi) e oj.dst u h3,wantedE_updO oi (guardOk_of_ok hoi) e oj.dst u h3]
  exact hy
 unfold stepE at *
 rw [hj] at h ⊢
 dsimp only at h ⊢
 rw [wantedE_updO oj (guardOk_of_ok hoj) e oi.dst v h1,execOp_updO oj (noSelect_of_ok hoj) e oi.dst v h1] at h
 by_cases hw:wantedE ops oj e = true
 ·rw [if_pos hw] at h ⊢
  exact Good.mono h (fun u w' hu=>⟨keep u,by rw [← updO_comm e v u h2]; exact hu⟩) (fun _ _ h=>h)
 ·rw [if_neg hw] at h ⊢
  exact ⟨keep undef,by rw [← updO_comm e v undef h2]; exact h⟩
theorem Down.set {ops:Array Oper} {listed:Array Bool} (hd:Down ops listed) {i:Nat} (hi:i ∈ Region.ready .any ops listed):Down ops (listed.setIfInBounds i true):=by
 obtain ⟨hi0,oi,hoi,hia⟩:=mem_ready.1 hi
 have up:∀ k,listed.getD k false = true → (listed.setIfInBounds i true).getD k false = true:=fun k hk=>by
  by_cases hki:i = k
  ·subst hki
   by_cases hlt:i < listed.size
   ·simp [hlt]
   ·simp [hlt] at hk
  ·rw [show (listed.setIfInBounds i true).getD k false = listed.getD k false by simp [Array.getD_eq_getD_getElem?,Array.getElem?_setIfInBounds_ne hki]]; exact hk
 intro j o hj ho x hx hb
 by_cases hji:i = j
 ·subst hji
  rw [hoi] at ho; cases ho
  exact up _ (hia x hx hb)
 ·rw [show (listed.setIfInBounds i true).getD j false = listed.getD j false by simp [Array.getD_eq_getD_getElem?,Array.getElem?_setIfInBounds_ne hji]] at hj
  exact up _ (hd j o hj ho x hx hb)
theorem Down.start (ops:Array Oper) (n:Nat):Down ops (Array.replicate n false):=fun j o hj=>by
 by_cases hlt:j < n <;> simp [Array.getD,hlt] at hj
theorem not_both_of_pivot {ops:Array Oper} {i j:Nat} {listed:Array Bool} (hd:Down ops listed) (hp:pivot ops j = true) (hi:i ∈ Region.ready .any ops listed) (hj:j ∈ Region.ready .any ops listed):i = j:=by
 obtain ⟨hi0,oi,hoi,hia⟩:=mem_ready.1 hi
 obtain ⟨hj0,oj,hoj,hja⟩:=mem_ready.1 hj
 have hil:i < ops.size:=(Array.getElem?_eq_some_iff.1 hoi).1
 unfold pivot pivotIn at hp
 rw [List.all_eq_true] at hp
 have h:=hp i (by simp [hil])
 simp only [Bool.or_eq_true,beq_iff_eq] at h
 have hsz:∀ k,listed.getD k true = false → listed.getD k false = false:=fun k hk=>by
  by_cases hlt:k < listed.size
  ·simpa [hlt] using hk
  ·simp [hlt] at hk
 have ok:=(ancTab_ok ops ops.size).1
 rcases h with (h | h) | h
 ·exact h
 ·have:listed.getD i false = true:=hd.anc (ok _ _ h) (fun o ho=>by rw [hoj] at ho; cases ho; exact hja)
  rw [hsz i hi0] at this; cases this
 ·have:listed.getD j false = true:=hd.anc (ok _ _ h) (fun o ho=>by rw [hoi] at ho; cases ho; exact hia)
  rw [hsz j hj0] at this; cases this
theorem YieldsE.mono {P:Program} {ops:Array Oper} {S S':World → Prop} {o:Oper} {v:Value} {e:Env} (h:YieldsE P ops S o v e) (hs:∀ w,S' w → S w):YieldsE P ops S' o v e:=h.imp (fun h=>⟨h.1,fun w hw=>h.2 w (hs w hw)⟩) id
theorem anyE_first {P:Program} {ops:Array Oper} {F:Fm} {S:World → Prop} {i:Nat} {oi:Oper} {v:Value} {C:Env → World → Prop} {Kp:List PanicEntry → World → Prop} (hok:okOps F ops = true) (hi:ops[i]? = some oi) :
  ∀ (f:Nat) (listed:Array Bool) (e:Env) (w:World),Down ops listed →
   (∀ j oj,ops[j]? = some oj → j ≠ i → listed.getD j true = false → (∀ x ∈ oj.after,Region.binds .any x = true → x.on ≠ i) → oi.apart ops oj = true) →
   i ∈ Region.ready .any ops listed → S w → YieldsE P ops S oi v e →
   anyE P ops C Kp f S (listed.setIfInBounds i true) (updO e oi.dst v) w → anyE P ops C Kp (f + 1) S listed e w:=by
 intro f
 induction f generalizing S with
 | zero=>
  intro listed e w _ _ hr hS hy H
  refine ⟨fun h=>(by rw [h] at hr; cases hr),fun j hj=>?_⟩
  by_cases hji:j = i
  ·subst hji; exact hy.stepE hi hS (.inr ⟨S,fun _ h=>h,hS,H⟩)
  ·have:=ready_mono hj hji
   rw [H.1] at this
   cases this
 | succ f ih=>
  intro listed e w hdn hfree hr hS hy H
  refine ⟨fun h=>(by rw [h] at hr; cases hr),fun j hj=>?_⟩
  by_cases hji:j = i
  ·subst hji; exact hy.stepE hi hS (.inr ⟨S,fun _ h=>h,hS,H⟩)
  ·have h1:=H.2 j (ready_mono hj hji)
   obtain ⟨hjun,oj,hoj,hall⟩:=mem_ready.1 hj
   have hnot:∀ x ∈ oj.after,Region.binds .any x = true → x.on ≠ i:=fun x hx hb heq=>by
    have h1:=hall x hx hb
    have h0:=(mem_ready.1 hr).1
    rw [heq] at h1
    by_cases h':i < listed.size
    ·simp [h'] at h0 h1; rw [h0] at h1; cases h1
    ·simp [h'] at h1
   have h2:=stepE_put (F:=F) hoj (hfree j oj hoj hji hjun hnot) (okOp_at hok hi) (okOp_at hok hoj) hy h1
   have hfree':∀ k ok,ops[k]? = some ok → k ≠ i → (listed.setIfInBounds j true).getD k true = false →
     (∀ x ∈ ok.after,Region.binds .any x = true → x.on ≠ i) → oi.apart ops ok = true:=fun k ok hk hki hun hno=>by
    refine hfree k ok hk hki ?_ hno
    by_cases hjk:j = k
    ·subst hjk; exact hjun
    ·rw [getD_set_ne true hjk] at hun; exact hun
   refine stepE_mono h2 fun e' w' h3=>?_
   obtain ⟨hy',h3⟩:=h3
   rcases h3 with ⟨hp,_⟩ | ⟨S',hsub,hS',h3⟩
   ·exact absurd (not_both_of_pivot hdn hp hr hj) (fun h=>hji h.symm)
   ·refine .inr ⟨S',hsub,hS',ih (listed.setIfInBounds j true) e' w' (hdn.set hj) hfree' (ready_mono hr (Ne.symm hji)) hS' (hy'.mono hsub) ?_⟩
    rw [Array.setIfInBounds_comm _ _ hji]
    exact h3
end Go.Proofs.YtpifnlfmojfgpaaGreatDoor.Fw
end
section
namespace Go.Proofs.YtpifnlfmojfgpaaGreatDoor.Pw
open Fw
inductive PT where
 | int (k:IntKind)
 | bool
 | str
 | lst (e:PT)
 | nil
 | cons (h t:PT)
 deriving DecidableEq
@[reducible] def PT.den:PT → Type
 | .int _=>Int
 | .bool=>Bool
 | .str=>List UInt8
 | .lst e=>List e.den
 | .nil=>Unit
 | .cons h t=>h.den × t.den
def PT.sz:PT → Nat
 | .nil=>0
 | .cons h t=>h.sz + t.sz
 | _=>1
def PT.isAgg:PT → Bool
 | .nil=>true
 | .cons _ _=>true
 | _=>false
def PT.beq:(t:PT) → t.den → t.den → Bool
 | .int _,x,y=>x == y
 | .bool,x,y=>x == y
 | .str,x,y=>x == y
 | .lst _,_,_=>false
 | .nil,_,_=>true
 | .cons h t,(a,b),(c,d)=>h.beq a c && t.beq b d
def PT.flat:PT → Bool
 | .lst _=>false
 | .cons h t=>h.flat && t.flat
 | _=>true
inductive AV where
 | pv (t:PT) (x:t.den)
 /-- a Bool that is known -/
 | lit (b:Bool)
 /-- a list whose spare room the token id owns -/
 | ls (t:PT) (xs:List t.den) (id:Nat)
 /-- a pointer into the box id -/
 | adr (id off:Nat)
 /-- a pointer to cells that never turn -/
 | ref (t:PT) (x:t.den)
 | fn (f:FuncId) (cap:AV)
 | yld (l:Nat)
 | ifc (t:TypeId) (v:AV)
 | anil
 | acons (h t:AV)
 | tup (l:AV)
 | cst (v:Value)
 /-- of this nothing is known -/
 | top
abbrev AEnv:=Nat → AV
def aupd (e:AEnv) (d:Nat) (v:AV):AEnv:=fun t=>match Nat.beq t d with | true=>v | false=>e t
def aupdO (e:AEnv) (d:Option Nat) (v:AV):AEnv:=
 match d with
 | some d=>aupd e d v
 | none=>e
def AV.isAgg:AV → Bool
 | .pv t _=>t.isAgg
 | .anil=>true
 | .acons _ _=>true
 | _=>false
def pvCells:(t:PT) → t.den → List AV
 | .cons h t,x=>pvCells h x.1 ++ pvCells t x.2
 | .nil,_=>[]
 | t,x=>[.pv t x]
def AV.cells:AV → List AV
 | .pv t x=>pvCells t x
 | .anil=>[]
 | .acons h t=>h.cells ++ t.cells
 | v=>[v]
structure AHeap where
 c:Nat → Nat → Option AV
 t:Nat → Option TypeId
def AHeap.setT (H:AHeap) (i:Nat) (v:Option TypeId):AHeap:={ H with t:=fun j=>match Nat.beq j i with | true=>v | false=>H.t j }
def lget {α:Type}:List α → Nat → Option α
 | [],_=>none
 | a :: _,0=>some a
 | _ :: l,n + 1=>lget l n
theorem lget_eq {α:Type}:∀ (l:List α) (n:Nat),lget l n = l[n]?
 | [],_=>by simp [lget]
 | a :: l,0=>rfl
 | a :: l,n + 1=>by simp [lget,lget_eq l n]
@[reducible] def orL (v:Option AV) (d:Option AV):Option AV:=
 match v with
 | some v=>some v
 | Option.none=>d
def AHeap.setL (H:AHeap) (i o:Nat) (l:List AV):AHeap:={ H with c:=fun j p=>match Nat.beq j i && Nat.ble o p with | true=>orL (lget l (p - o)) (H.c j p) | false=>H.c j p }
def AHeap.none:AHeap:=⟨fun _ _=>Option.none,fun _=>Option.none⟩
def constA:Value → AV
 | .int k n=>.pv (.int k) n
 | .bool b=>.lit b
 | .string s=>bif Nat.ble s.data.toList.length 1000 then .pv .str s.data.toList else .cst (.string s)
 | v=>bif v.oneCell' then .cst v else .top
def mkpv (t:PT) (x:t.den):(s:PT) → s.den → AV
 | .nil,y=>.pv (.cons t .nil) (x,y)
 | .cons a b,y=>.pv (.cons t (.cons a b)) (x,y)
 | s,y=>.acons (.pv t x) (.pv s y)
def mkc:AV → AV → AV
 | .pv t x,.pv s y=>mkpv t x s y
 | .lit b,.pv s y=>mkpv .bool b s y
 | h,t=>.acons h t
def AV.sz:AV → Nat
 | .pv t _=>t.sz
 | .anil=>0
 | .acons h t=>h.sz + t.sz
 | _=>1
def AV.val:AV → Bool
 | .tup _=>false
 | .top=>false
 | _=>true
def AV.offs:AV → Nat → Nat
 | .pv (.cons h t) x,i + 1=>h.sz + AV.offs (.pv t x.2) i
 | .acons h t,i + 1=>h.sz + t.offs i
 | _,_=>0
termination_by structural _ i=>i
def AV.nth:AV → Nat → Option AV
 | .pv (.cons h t) x,0=>some (.pv h x.1)
 | .pv (.cons h t) x,i + 1=>AV.nth (.pv t x.2) i
 | .acons h t,0=>some h
 | .acons h t,i + 1=>t.nth i
 | _,_=>none
termination_by structural _ i=>i
def AV.setN:AV → Nat → AV → Option AV
 | .pv (.cons h t) x,0,v=>some (mkc v (.pv t x.2))
 | .pv (.cons h t) x,i + 1,v=>(AV.setN (.pv t x.2) i v).map (mkc (.pv h x.1))
 | .acons h t,0,v=>some (mkc v t)
 | .acons h t,i + 1,v=>(t.setN i v).map (mkc h)
 | _,_,_=>none
termination_by structural _ i=>i
inductive Sh where
 | one
 | nil
 | cons (h t:Sh)
def Sh.sz:Sh → Nat
 | .one=>1
 | .nil=>0
 | .cons h t=>h.sz + t.sz
def Sh.rep (h:Sh):Nat → Sh
 | 0=>.nil
 | n + 1=>.cons h (h.rep n)
def shL (f:TypeId → Sh):List Field → Sh
 | []=>.nil
 | x :: l=>.cons (f x.type) (shL f l)
def shOf (P:Program):Nat → TypeId → Sh
 | 0,_=>.one
 | n + 1,t=>
  match P.underlying t with
  | some (.struct fs)=>shL (shOf P n) fs.toList
  | some (.array len el)=>(shOf P n el).rep len
  | _=>.one
def ofCells:Sh → (Nat → Option AV) → Nat → Option AV
 | .one,c,o=>c o
 | .nil,_,_=>some (.pv .nil ())
 | .cons h t,c,o=>match ofCells h c o with
  | some a=>match ofCells t c (o + h.sz) with
   | some b=>some (mkc a b)
   | none=>none
  | none=>none
def zeroA (P:Program) (t:TypeId):Option AV:=
 match zeroOf P t with
 | some z=>bif z.cells.toList.all Value.oneCell' && Nat.beq z.cells.size (shOf P 8 t).sz then ofCells (shOf P 8 t) (fun i=>(z.cells[i]?).map constA) 0 else none
 | none=>none
inductive AT where
 | pv (t:PT)
 /-- a list that may grow -/
 | ls (e:TypeId) (t:PT)
 /-- a pointer to cells -/
 | box (c:AT)
 | fn (f:FuncId) (c:AT)
 | cst (v:Value)
 /-- a cell that is not looked at -/
 | any
 | nil
 | cons (h t:AT)
@[reducible] def AT.den:AT → Type
 | .pv t=>t.den
 | .ls _ t=>List t.den
 | .box c=>c.den
 | .fn _ c=>c.den
 | .cst _=>Unit
 | .any=>Unit
 | .nil=>Unit
 | .cons h t=>h.den × t.den
def AT.isAgg:AT → Bool
 | .pv t=>t.isAgg
 | .nil=>true
 | .cons _ _=>true
 | _=>false
def kindN:IntKind → Nat
 | .i8=>0
 | .i16=>1
 | .i32=>2
 | .i64=>3
 | .u8=>4
 | .u16=>5
 | .u32=>6
 | .u64=>7
def PT.same:PT → PT → Bool
 | .int a,.int b=>Nat.beq (kindN a) (kindN b)
 | .bool,.bool=>true
 | .str,.str=>true
 | .lst a,.lst b=>a.same b
 | .nil,.nil=>true
 | .cons a b,.cons c d=>bif a.same c then b.same d else false
 | _,_=>false
theorem kindN_inj {a b:IntKind} (h:Nat.beq (kindN a) (kindN b) = true):a = b:=by cases a <;> cases b <;> first | rfl | cases h
theorem PT.same_eq:∀ {s t:PT},s.same t = true → s = t
 | .int a,.int b,h=>by rw [kindN_inj h]
 | .bool,.bool,_=>rfl
 | .str,.str,_=>rfl
 | .lst a,.lst b,h=>by rw [PT.same_eq (s:=a) (t:=b) h]
 | .nil,.nil,_=>rfl
 | .cons a b,.cons c d,h=>by
  simp only [PT.same] at h
  cases h1:a.same c with
  | false=>rw [h1] at h; cases h
  | true=>rw [h1] at h; rw [PT.same_eq h1,PT.same_eq (s:=b) (t:=d) h]
inductive EqD (p:Prop) where
 | yes (h:p)
 | no
def PT.dec (s t:PT):EqD (s = t):=
 match hs:s.same t with
 | true=>.yes (PT.same_eq hs)
 | false=>.no
def castP {s t:PT} (h:s = t) (x:s.den):t.den:=h ▸ x
def toPv:(t:PT) → AV → (t.den → Prop) → Prop
 | t,.pv s x,K=>match PT.dec s t with
  | .yes h=>K (castP h x)
  | .no=>False
 | .bool,.lit b,K=>K b
 | .lst e,.ls s xs _,K=>match PT.dec (PT.lst s) (.lst e) with
  | .yes h=>K (castP h xs)
  | .no=>False
 | .lst e,.cst (.slice none 0 0),K=>K []
 | .nil,.anil,K=>K ()
 | .cons h t,.acons a b,K=>toPv h a fun x=>toPv t b fun y=>K (x,y)
 | _,_,_=>False
def toLs (e:TypeId) (t:PT) (av:AV) (H:AHeap) (K:List t.den → AHeap → Prop):Prop:=
 match av with
 | .ls s xs id=>match H.t id with
  | some e'=>bif Nat.beq e' e then (match PT.dec (PT.lst s) (.lst t) with
   | .yes h=>K (castP h xs) (H.setT id none)
   | .no=>False) else False
  | none=>False
 | .cst (.slice none 0 0)=>K [] H
 | _=>False
def AT.sz:AT → Nat
 | .pv t=>t.sz
 | .nil=>0
 | .cons h t=>h.sz + t.sz
 | _=>1
def PT.sh:PT → Sh
 | .nil=>.nil
 | .cons h t=>.cons h.sh t.sh
 | _=>.one
def AHeap.dropL (H:AHeap) (i o n:Nat):AHeap:={ H with c:=fun j p=>match Nat.beq j i && (Nat.ble o p && Nat.blt p (o + n)) with | true=>Option.none | false=>H.c j p }
def takeA:(t:AT) → (AHeap → Nat → Option AV) → Nat → AHeap → (t.den → AHeap → Prop) → Prop
 | .pv t,c,o,H,K=>match ofCells t.sh (c H) o with
  | some av=>toPv t av fun x=>K x H
  | none=>False
 | .ls e t,c,o,H,K=>match c H o with
  | some av=>toLs e t av H K
  | none=>False
 | .box a,c,o,H,K=>match c H o with
  | some (.adr id p)=>takeA a (fun H j=>H.c id (p + j)) 0 H fun x H=>bif (List.range a.sz).all (fun j=>(H.c id (p + j)).isSome) then K x (AHeap.dropL H id p a.sz) else False
  | _=>False
 | .fn f a,c,o,H,K=>match c H o with
  | some (.fn g v)=>bif Nat.beq f g && Nat.beq v.cells.length a.sz then takeA a (fun _ j=>v.cells[j]?) 0 H K else False
  | _=>False
 | .cst v,_,_,_,_=>False
 | .any,c,o,H,K=>match c H o with
  | some _=>K () H
  | none=>False
 | .nil,_,_,H,K=>K () H
 | .cons h t,c,o,H,K=>takeA h c o H fun x H=>takeA t c (o + h.sz) H fun y H=>K (x,y) H
end Go.Proofs.YtpifnlfmojfgpaaGreatDoor.Pw
end
