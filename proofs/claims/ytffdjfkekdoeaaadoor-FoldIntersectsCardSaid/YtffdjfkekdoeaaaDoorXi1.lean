/- Parts of a proof, laid one behind the other by our own merge.py: FwBase FwOp FwOpS FwOpM FwReg FwHeld FwDraw FwCode FwSound FwMain FwFn FwHeap FwRun FmModel Sh0. -/
import Derived.RangeFuncLeaves
import Derived.OrdersIn
import Derived.Laws.Cells
import Derived.Laws.Build
import Derived.Laws.Strings
import Derived.Laws.Entries
import Derived.Laws.World
import Derived.Laws.Panics
import Derived.Laws.ByValue
import Derived.Laws.NewDeep
import Derived.Below
import Derived.RangeFuncRecord
import Derived.Laws.Small
import Derived.Laws.OwnMore
import Derived.Laws.IdiomStrings
import Derived.Laws.BytesArg
import Derived.Laws.Slices
import Derived.Test.YtffdjfkekdoeaaaDoorProg
import Derived.KernelRfl
set_option linter.unusedVariables false
set_option linter.unusedSimpArgs false
section
namespace Go.Proofs.YtffdjfkekdoeaaaDoor.Fw
abbrev Env:=Nat → Value
def upd (e:Env) (d:Nat) (v:Value):Env:=fun t=>bif Nat.beq t d then v else e t
def updO (e:Env) (d:Option Nat) (v:Value):Env:=
 match d with
 | some d=>upd e d v
 | none=>e
theorem upd_same (e:Env) (d:Nat) (v:Value):upd e d v d = v:=by simp [upd,Nat.beq_refl]
theorem upd_other (e:Env) (d t:Nat) (v:Value) (h:t ≠ d):upd e d v t = e t:=by
 unfold upd
 cases hb:Nat.beq t d with
 | false=>rfl
 | true=>exact absurd (Nat.eq_of_beq_eq_true hb) h
theorem upd_self (e:Env) (d:Nat):upd e d (e d) = e:=by
 funext t
 by_cases h:t = d
 ·subst h; exact upd_same _ _ _
 ·exact upd_other _ _ _ _ h
structure Fm where
 n:Nat
 fx:List (Nat × Value)
def Fm.free (F:Fm) (d:Option Nat):Bool:=
 match d with
 | none=>true
 | some d=>!(F.fx.map (·.1)).contains d
structure Rep (F:Fm) (ds:List Deferred) (e:Env) (a:Act):Prop where
 size:a.tmps.size = F.n
 slots:∀ t,t < F.n → a.tmps.getD t undef = e t
 defers:a.defers = ds
 fixed:∀ p ∈ F.fx,e p.1 = p.2
 low:∀ p ∈ F.fx,p.1 < F.n
theorem Rep.at {F:Fm} {ds:List Deferred} {e:Env} {a:Act} (h:Rep F ds e a):∀ p ∈ F.fx,a.tmps.getD p.1 undef = p.2:=fun p hp=>by
 rw [h.slots _ (h.low p hp),h.fixed p hp]
theorem Rep.put {F:Fm} {ds:List Deferred} {e:Env} {a:Act} (h:Rep F ds e a) (d:Option Nat) (v:Value) (hd:F.free d = true):Rep F ds (updO e d v) (a.put d v):=by
 cases d with
 | none=>exact h
 | some d=>
  refine ⟨by simp [Act.put,h.size],fun t ht=>?_,h.defers,fun p hp=>?_,h.low⟩
  ·by_cases hd:t = d
   ·subst hd
    simp [Act.put,updO,upd_same,h.size,ht]
   ·have:=h.slots t ht
    simp only [updO,upd_other _ _ _ _ hd,← this,Act.put]
    simp [Array.getElem?_setIfInBounds_ne (fun e=>hd e.symm)]
  ·have hne:p.1 ≠ d:=fun he=>by
    simp only [Fm.free,Bool.not_eq_true'] at hd
    have:(F.fx.map (·.1)).contains d = true:=by
     rw [List.contains_iff_mem,← he]
     exact List.mem_map.2 ⟨p,hp,rfl⟩
    rw [this] at hd
    cases hd
   simp only [updO,upd_other _ _ _ _ hne]
   exact h.fixed p hp
def ev (e:Env):Operand → Value
 | .tmp t=>e t
 | .const v=>v
 | .global g=>.pointer (some ⟨g,0,none⟩)
 | .func f=>.func (.func f) #[] #[]
def okX (n:Nat):Operand → Bool
 | .tmp t=>Nat.blt t n
 | _=>true
theorem Rep.ev {F:Fm} {ds:List Deferred} {e:Env} {a:Act} (h:Rep F ds e a) {x:Operand} (hx:okX F.n x = true):a.eval x = ev e x:=by
 cases x with
 | tmp t=>exact h.slots t (by simpa [okX] using hx)
 | _=>rfl
structure Sl where
 a:Option Addr
 n:Nat
 c:Nat
inductive Sc where
 | int (k:IntKind)
 | bool
 | str
 | ptr
 | sl
 | map
 | adr
 | raw
 /-- the function g with n captured variables -/
 | clo (g n:Nat)
 /-- yield of a loop -/
 | yld
 deriving DecidableEq
@[reducible] def addrs:Nat → Type
 | 0=>Unit
 | n + 1=>Addr × addrs n
@[reducible] def avals:(n:Nat) → addrs n → List Value
 | 0,_=>[]
 | n + 1,(x,y)=>.pointer (some x) :: avals n y
@[reducible] def Sc.den:Sc → Type
 | .int _=>Int
 | .bool=>Bool
 | .str=>ByteArray
 | .ptr=>Option Addr
 | .sl=>Sl
 | .map=>Option Nat
 | .adr=>Addr
 | .raw=>Value
 | .clo _ n=>addrs n
 | .yld=>Nat
@[reducible] def Sc.val:(s:Sc) → s.den → Value
 | .int k,n=>.int k n
 | .bool,b=>.bool b
 | .str,s=>.string s
 | .ptr,p=>.pointer p
 | .sl,s=>.slice s.a s.n s.c
 | .map,m=>.map m
 | .adr,a=>.pointer (some a)
 | .raw,v=>v
 | .clo g n,x=>.func (.func g) #[] (avals n x).toArray
 | .yld,l=>.func (.yield l) #[] #[]
@[reducible] def dens:List Sc → Type
 | []=>Unit
 | s :: l=>s.den × dens l
@[reducible] def vals:(l:List Sc) → dens l → List Value
 | [],_=>[]
 | s :: l,(x,y)=>s.val x :: vals l y
inductive Ty where
 | sc (s:Sc)
 | agg (l:List Sc)
@[reducible] def Ty.den:Ty → Type
 | .sc s=>s.den
 | .agg l=>dens l
@[reducible] def Ty.val:(t:Ty) → t.den → Value
 | .sc s,x=>s.val x
 | .agg l,x=>.agg (vals l x).toArray
@[reducible] def tdens:List Ty → Type
 | []=>Unit
 | t :: l=>t.den × tdens l
@[reducible] def tvals:(l:List Ty) → tdens l → List Value
 | [],_=>[]
 | t :: l,(x,y)=>t.val x :: tvals l y
theorem tvals_length:∀ (l:List Ty) (x:tdens l),(tvals l x).length = l.length
 | [],_=>rfl
 | t :: l,(x,y)=>by simp [tvals,tvals_length l y]
def getAs:(n:Nat) → List Value → (addrs n → Prop) → Prop
 | 0,l,K=>match l with | []=>K () | _ :: _=>False
 | n + 1,l,K=>match l with | .pointer (some a) :: l'=>getAs n l' fun y=>K (a,y) | _=>False
theorem getAs_spec:∀ (n:Nat) (l:List Value) (K:addrs n → Prop),getAs n l K → ∃ x,l = avals n x ∧ K x
 | 0,l,K,h=>by
  cases l with
  | nil=>exact ⟨(),rfl,h⟩
  | cons _ _=>exact h.elim
 | n + 1,l,K,h=>by
  simp only [getAs] at h
  split at h
  ·rename_i a l'
   obtain ⟨y,hy,h⟩:=getAs_spec n _ _ h
   exact ⟨(a,y),by rw [hy],h⟩
  ·exact h.elim
def Sc.get:(s:Sc) → Value → (s.den → Prop) → Prop
 | .int k,.int k' n,K=>
  match decEq k k' with
  | isTrue _=>K n
  | isFalse _=>False
 | .bool,.bool b,K=>K b
 | .str,.string s,K=>K s
 | .ptr,.pointer p,K=>K p
 | .sl,.slice a n c,K=>K ⟨a,n,c⟩
 | .map,.map m,K=>K m
 | .adr,.pointer (some a),K=>K a
 | .raw,v,K=>K v
 | .clo g n,.func (.func g') fi ca,K=>
  bif Nat.beq g g' && Nat.beq fi.size 0 then getAs n ca.toList K else False
 | .yld,.func (.yield l) fi ca,K=>
  bif Nat.beq fi.size 0 && Nat.beq ca.size 0 then K l else False
 | _,_,_=>False
theorem Sc.get_spec:∀ (s:Sc) (v:Value) (K:s.den → Prop),s.get v K → ∃ x,v = s.val x ∧ K x:=by
 intro s v K h
 cases s
 case int k=>
  cases v <;> simp only [Sc.get] at h <;> first | exact h.elim | skip
  rename_i k' n
  split at h
  ·rename_i he _; subst he; exact ⟨n,rfl,h⟩
  ·exact h.elim
 case adr=>
  cases v <;> first | exact (show False from h).elim | skip
  rename_i a
  cases a with
  | none=>exact (show False from h).elim
  | some a=>exact ⟨a,rfl,h⟩
 case clo g n=>
  cases v <;> first | exact (show False from h).elim | skip
  rename_i fn fi ca
  cases fn <;> first | exact (show False from h).elim | skip
  rename_i g'
  simp only [Sc.get] at h
  cases hb:(Nat.beq g g' && Nat.beq fi.size 0) with
  | false=>rw [hb] at h; exact h.elim
  | true=>
   rw [hb] at h
   simp only [Bool.and_eq_true] at hb
   obtain rfl:=Nat.eq_of_beq_eq_true hb.1
   obtain ⟨x,hx,hk⟩:=getAs_spec _ _ _ h
   have hfi:fi = #[]:=Array.eq_empty_of_size_eq_zero (Nat.eq_of_beq_eq_true hb.2)
   exact ⟨x,by simp [Sc.val,← hx,hfi],hk⟩
 case yld=>
  cases v <;> first | exact (show False from h).elim | skip
  rename_i fn fi ca
  cases fn <;> first | exact (show False from h).elim | skip
  rename_i l
  simp only [Sc.get] at h
  cases hb:(Nat.beq fi.size 0 && Nat.beq ca.size 0) with
  | false=>rw [hb] at h; exact h.elim
  | true=>
   rw [hb] at h
   simp only [Bool.and_eq_true] at hb
   have hfi:fi = #[]:=Array.eq_empty_of_size_eq_zero (Nat.eq_of_beq_eq_true hb.1)
   have hca:ca = #[]:=Array.eq_empty_of_size_eq_zero (Nat.eq_of_beq_eq_true hb.2)
   exact ⟨l,by simp [Sc.val,hfi,hca],h⟩
 all_goals (cases v <;> simp only [Sc.get] at h <;> first | exact h.elim | exact ⟨_,rfl,h⟩)
def getScs:(l:List Sc) → List Value → (dens l → Prop) → Prop
 | [],[],K=>K ()
 | s :: l,v :: vs,K=>s.get v fun x=>getScs l vs fun y=>K (x,y)
 | _,_,_=>False
theorem getScs_spec:∀ (l:List Sc) (vs:List Value) (K:dens l → Prop),getScs l vs K → ∃ x,vs = vals l x ∧ K x
 | [],[],K,h=>⟨(),rfl,h⟩
 | [],_ :: _,_,h=>h.elim
 | _ :: _,[],_,h=>h.elim
 | s :: l,v :: vs,K,h=>by
  unfold getScs at h
  obtain ⟨x,hx,h⟩:=Sc.get_spec s v _ h
  obtain ⟨y,hy,h⟩:=getScs_spec l vs _ h
  exact ⟨(x,y),by rw [hx,hy],h⟩
def Ty.get:(t:Ty) → Value → (t.den → Prop) → Prop
 | .sc s,v,K=>s.get v K
 | .agg l,.agg cs,K=>getScs l cs.toList K
 | .agg _,_,_=>False
theorem Ty.get_spec (t:Ty) (v:Value) (K:t.den → Prop) (h:t.get v K):∃ x,v = t.val x ∧ K x:=by
 cases t with
 | sc s=>exact Sc.get_spec s v K h
 | agg l=>
  cases v <;> first | exact h.elim | skip
  rename_i cs
  obtain ⟨x,hx,hk⟩:=getScs_spec l cs.toList K h
  exact ⟨x,by simp [Ty.val,← hx],hk⟩
abbrev Live:=List (Nat × Ty)
@[reducible] def ldens:Live → Type
 | []=>Unit
 | (_,t) :: l=>t.den × ldens l
def getTs:(l:Live) → Env → (ldens l → Prop) → Prop
 | [],_,K=>K ()
 | (d,t) :: l,e,K=>t.get (e d) fun x=>getTs l e fun y=>K (x,y)
def putTs:(l:Live) → ldens l → Env → Env
 | [],_,g=>g
 | (d,t) :: l,(x,y),g=>upd (putTs l y g) d (t.val x)
theorem getTs_spec:∀ (l:Live) (e:Env) (K:ldens l → Prop),getTs l e K → ∃ x,putTs l x e = e ∧ K x
 | [],e,K,h=>⟨(),rfl,h⟩
 | (d,t) :: l,e,K,h=>by
  obtain ⟨x,hx,h⟩:=Ty.get_spec t _ _ h
  obtain ⟨y,hy,h⟩:=getTs_spec l e _ h
  refine ⟨(x,y),?_,h⟩
  show upd (putTs l y e) d (t.val x) = e
  rw [hy,← hx]; exact upd_self e d
def scOf:Option TypeDesc → Sc
 | some (.int k)=>.int k
 | some .bool=>.bool
 | some .string=>.str
 | some (.pointer _)=>.ptr
 | some (.slice _)=>.sl
 | some (.map _ _)=>.map
 | _=>.raw
def scsOf (P:Program):Nat → TypeId → List Sc
 | 0,_=>[]
 | n + 1,t=>
  match P.underlying t with
  | some (.struct fs)=>fs.toList.flatMap fun f=>scsOf P n f.type
  | some (.array len el)=>(List.replicate len (scsOf P n el)).flatten
  | d=>[scOf d]
def isAggT (P:Program) (t:TypeId):Bool:=
 match P.underlying t with
 | some (.struct _)=>true
 | some (.array _ _)=>true
 | _=>false
def tyOf (P:Program) (t:TypeId):Ty:=
 bif isAggT P t then .agg (scsOf P 8 t) else .sc (scOf (P.underlying t))
def Br (b:Bool) (A B:Prop):Prop:=(b = true → A) ∧ (b = false → B)
def NilCk (p:Option Addr) (K:Addr → Prop):Prop:=∃ a,p = some a ∧ K a
def Idx (base:Option Addr) (len:Nat) (sz:Nat) (i:Int) (K:Addr → Prop):Prop:=
 ∃ a,base = some a ∧ 0 ≤ i ∧ i < (len:Int) ∧ K (a.add (i.toNat * sz))
def Holds (w:World) (a:Addr):Nat → List Value → Prop
 | _,[]=>True
 | i,v :: vs=>w.cell? (a.add i) = some v ∧ Holds w a (i + 1) vs
def LoadT (t:Ty) (w:World) (a:Addr) (K:t.den → Prop):Prop:=
 match t with
 | .sc s=>∃ x:s.den,w.cell? a = some (s.val x) ∧ K x
 | .agg l=>∃ x:dens l,Holds w a 0 (vals l x) ∧ K x
def Open1 (w:World) (a:Addr):Prop:=(w.cell? a).isSome = true ∧ w.frozen? a = false
def OpenN (w:World) (a:Addr):Nat → Nat → Prop
 | _,0=>True
 | i,n + 1=>Open1 w (a.add i) ∧ OpenN w a (i + 1) n
def setCells (w:World) (a:Addr):Nat → List Value → World
 | _,[]=>w
 | i,v :: vs=>setCells (w.setCell (a.add i) v) a (i + 1) vs
def Store1 (w:World) (a:Addr) (v:Value) (K:World → Prop):Prop:=Open1 w a ∧ K (w.setCell a v)
def StoreN (w:World) (a:Addr) (vs:List Value) (K:World → Prop):Prop:=OpenN w a 0 vs.length ∧ K (setCells w a 0 vs)
def LoopT {σ:Type} (x0:σ) (w:World) (body:σ → Env → World → (σ → World → Prop) → Prop):Prop:=
 ∃ (I:σ → World → Prop) (μ:σ → World → Nat),I x0 w ∧ ∀ x g w,I x w → body x g w fun y w'=>I y w' ∧ μ y w' < μ x w
def Join {σ:Type} (Y:σ → Env → World → Prop) (F:(σ → World → Prop) → Prop):Prop:=F fun x w=>∀ g,Y x g w
def New (w:World) (o:Obj) (K:Nat → World → Prop):Prop:=K w.heap.size (w.alloc o)
def RunT (P:Program) (t:Ty) (s:Sem Value) (w:World) (K:t.den → World → Prop):Prop:=∃ x w',s.run P w = .ok (t.val x) w' ∧ K x w'
def RunU (P:Program) (s:Sem Unit) (w:World) (K:World → Prop):Prop:=∃ w',s.run P w = .ok () w' ∧ K w'
def CallT (P:Program) (f:FuncId) (args:Array Value) (t:Ty) (w:World) (K:t.den → World → Prop) (Kp:List PanicEntry → World → Prop):Prop:=
 Calls P f args w fun e w'=>match e with
  | .returned v=>∃ x,v = t.val x ∧ K x w'
  | .panicked ch=>Kp ch w'
  | .outgrown=>False
def CallN (P:Program) (f:FuncId) (args:Array Value) (ts:List Ty) (w:World) (K:tdens ts → World → Prop) (Kp:List PanicEntry → World → Prop):Prop:=
 Calls P f args w fun e w'=>match e with
  | .returned v=>∃ x,v = .tuple (tvals ts x).toArray ∧ K x w'
  | .panicked ch=>Kp ch w'
  | .outgrown=>False
end Go.Proofs.YtffdjfkekdoeaaaDoor.Fw
end
section
namespace Go.Proofs.YtffdjfkekdoeaaaDoor.Fw
@[reducible] def Wf (ro:Option Nat):Fence:={ fn:=fun _=>True,depth:=none,alive:=false,round:=ro }
theorem Wf_none:Wf none = Fence.wide:=rfl
theorem callsIn_Wf {ro:Option Nat} {n:Nat} {P:Program} {f:FuncId} {args:Array Value} {w:World} {R:Ending → World → Prop}:CallsIn (Wf ro) n P f args w R ↔ Calls P f args w R:=
 callsIn_wide (n:=n)
def tysOf (P:Program) (es:Array TypeId):List Ty:=es.toList.map (tyOf P)
def RunN (P:Program) (ts:List Ty) (s:Sem Value) (w:World) (K:tdens ts → World → Prop):Prop:=∃ x w',s.run P w = .ok (.tuple (tvals ts x).toArray) w' ∧ K x w'
def RunR (P:Program) (ty:TypeId) (s:Sem Value) (w:World) (K:Value → World → Prop):Prop:=
 match P.underlying ty with
 | some (.tuple es)=>RunN P (tysOf P es) s w fun x w'=>K (.tuple (tvals _ x).toArray) w'
 | _=>RunT P (tyOf P ty) s w fun x w'=>K ((tyOf P ty).val x) w'
theorem RunR.run {P:Program} {ty:TypeId} {s:Sem Value} {w:World} {K:Value → World → Prop} (h:RunR P ty s w K):∃ v w',s.run P w = .ok v w' ∧ K v w':=by
 unfold RunR at h
 split at h
 ·obtain ⟨x,w',h1,h2⟩:=h; exact ⟨_,w',h1,h2⟩
 ·obtain ⟨x,w',h1,h2⟩:=h; exact ⟨_,w',h1,h2⟩
def madeIn:List Oper → Option Sc
 | []=>none
 | o :: l=>match o.op with
  | .makeFunc (.func g) fi ca=>bif Nat.beq fi.size 0 then some (.clo g ca.size) else madeIn l
  | _=>madeIn l
def cloIn:Code → Option Sc
 | .region _ ops _=>madeIn ops.toList
 | .seq a b=>match cloIn a with | some x=>some x | none=>cloIn b
 | .cond _ a b=>match cloIn a with | some x=>some x | none=>cloIn b
 | .block _ c=>cloIn c
 | .loop c=>cloIn c
 | _=>none
def cloTy (P:Program) (f:FuncId):Ty:=
 match P.funcs[f]? with
 | some fn=>match fn.body with
  | some c=>match cloIn c with
   | some x=>.sc x
   | none=>.sc .raw
  | none=>.sc .raw
 | none=>.sc .raw
def CallR (P:Program) (ty:TypeId) (f:FuncId) (args:Array Value) (w:World) (K:Value → World → Prop) (Kp:List PanicEntry → World → Prop):Prop:=
 match P.underlying ty with
 | some (.tuple es)=>CallN P f args (tysOf P es) w (fun x w'=>K (.tuple (tvals _ x).toArray) w') Kp
 | some (.func _ _ _)=>CallT P f args (cloTy P f) w (fun x w'=>K ((cloTy P f).val x) w') Kp
 | _=>CallT P f args (tyOf P ty) w (fun x w'=>K ((tyOf P ty).val x) w') Kp
theorem CallR.calls {P:Program} {ty:TypeId} {f:FuncId} {args:Array Value} {w:World} {K:Value → World → Prop} {Kp:List PanicEntry → World → Prop} (h:CallR P ty f args w K Kp) :
  Calls P f args w fun e w'=>match e with | .returned v=>K v w' | .panicked ch=>Kp ch w' | .outgrown=>False:=by
 unfold CallR at h
 split at h
 ·refine Calls.mono h fun e w' he=>?_
  cases e with
  | returned v=>obtain ⟨x,rfl,hk⟩:=he; exact hk
  | panicked ch=>exact he
  | outgrown=>exact he
 ·refine Calls.mono h fun e w' he=>?_
  cases e with
  | returned v=>obtain ⟨x,rfl,hk⟩:=he; exact hk
  | panicked ch=>exact he
  | outgrown=>exact he
 ·refine Calls.mono h fun e w' he=>?_
  cases e with
  | returned v=>obtain ⟨x,rfl,hk⟩:=he; exact hk
  | panicked ch=>exact he
  | outgrown=>exact he
def nextTys (P:Program) (s:Bool) (ty:TypeId):List Ty:=
 bif s then [.sc .bool,.sc (.int .i64),.sc (.int .i32)]
 else match P.underlying ty with
  | some (.tuple es)=>tysOf P es
  | _=>[.sc .bool,.sc .raw,.sc .raw]
def NextT (P:Program) (s:Sem Value) (w:World) (K:World → Prop) (B:Prop):Prop:=(∃ w',s.run P w = .ok (.tuple #[.bool false]) w' ∧ K w') ∨ B
def YieldT (P:Program) (l:Nat) (args:Array Value) (w:World) (K:Bool → World → Prop):Prop:=
 ∃ f tmps assign body,(Instr.yield l args).run P w = .ok (.round l f tmps assign body) w ∧
  RoundIn Fence.wide 0 P l f tmps assign body w fun e w'=>match e with
   | .returned v=>∃ b,v = .bool b ∧ K b w'
   | .panicked _=>False
   | .outgrown=>False
def intBin (op:BinOp) (k:IntKind) (a b:Int) (K:Value → Prop):Prop:=
 match op with
 | .add=>K (.int k (k.wrap (a + b)))
 | .sub=>K (.int k (k.wrap (a - b)))
 | .mul=>K (.int k (k.wrap (a * b)))
 | .quo=>b ≠ 0 ∧ K (.int k (k.wrap (a.tdiv b)))
 | .rem=>b ≠ 0 ∧ K (.int k (a.tmod b))
 | .and=>K (.int k (Go.bits .and k a b))
 | .or=>K (.int k (Go.bits .or k a b))
 | .xor=>K (.int k (Go.bits .xor k a b))
 | .eql=>K (.bool (a == b))
 | .neq=>K (.bool (a != b))
 | .lss=>K (.bool (decide (a < b)))
 | .leq=>K (.bool (decide (a ≤ b)))
 | .gtr=>K (.bool (decide (a > b)))
 | .geq=>K (.bool (decide (a ≥ b)))
 | _=>False
def isLenT (P:Program) (t:TypeId):Bool:=
 match P.underlying t with
 | some .string=>true
 | some (.slice _)=>true
 | _=>false
def isStrT (P:Program) (t:TypeId):Bool:=
 match P.underlying t with
 | some .string=>true
 | _=>false
def isBoolT (P:Program) (t:TypeId):Bool:=
 match P.underlying t with
 | some .bool=>true
 | _=>false
def zeroOf (P:Program) (t:TypeId):Option Value:=(P.info? t).bind (·.zero)
def sizeP (P:Program) (t:TypeId):Nat:=
 match P.info? t with
 | some i=>i.size
 | none=>0
def fieldOff (P:Program) (s:TypeId) (f:Nat):Option (Nat × TypeId):=
 match P.underlying s with
 | some (.struct fs)=>(fs[f]?).map fun x=>(x.offset,x.type)
 | _=>none
def partW (P:Program) (t:TypeId) (cs:Array Value) (off:Nat) (K:Value → Prop):Prop:=
 bif isAggT P t then bif (P.info? t).isSome then K (.agg (cs.extract off (off + sizeP P t))) else False
 else bif (P.underlying t).isSome then
  match cs[off]? with
  | some v=>K v
  | none=>False
 else False
def placesOf (P:Program) (fs:Array Field):Array (Nat × Nat):=fs.map fun f=>(f.offset,sizeP P f.type)
def infosOf (P:Program) (fs:Array Field):Bool:=fs.all fun f=>(P.info? f.type).isSome
def buildV (P:Program) (t:TypeId) (parts:Array (Nat × Value)):Option Value:=
 match zeroOf P t,P.underlying t with
 | some z,some (.struct fs)=>bif infosOf P fs then (Instr.fill ((placesOf P fs)[·]?) z.cells parts.toList).map .agg else none
 | some z,some (.array _ el)=>bif (P.info? el).isSome then (Instr.fill (fun i=>some (i * sizeP P el,sizeP P el)) z.cells parts.toList).map .agg else none
 | _,_=>none
def buildSliceV (P:Program) (t:TypeId) (len:Nat) (parts:Array (Nat × Value)):Option (TypeId × Array Value):=
 match P.underlying t with
 | some (.slice el)=>
  match zeroOf P el with
  | some z=>
   bif (P.info? el).isSome && Nat.ble (len * sizeP P el) 16777216 then
    (Instr.fill (fun i=>some (i * sizeP P el,sizeP P el)) ((Array.range (len * sizeP P el)).map (z.cells[· % z.cells.size]!)) parts.toList).map fun c=>(el,c)
   else none
  | none=>none
 | _=>none
def builtinSem (b:Builtin) (ts:Array TypeId) (ty:TypeId) (args:Array Value):Option (Sem Value):=
 match b with
 | .append=>some (Builtin.append_ ts ty args)
 | .cap=>some (Builtin.cap_ ts ty args)
 | .clear=>some (Builtin.clear_ ts ty args)
 | .copy=>some (Builtin.copy_ ts ty args)
 | .delete=>some (Builtin.delete_ ts ty args)
 | .len=>some (Builtin.len_ ts ty args)
 | .max=>some (Builtin.max_ ts ty args)
 | .min=>some (Builtin.min_ ts ty args)
 | _=>none
def enters (P:Program) (f:FuncId):Bool:=
 match P.funcs[f]? with
 | some fn => !(fn.name == "runtime.NumGoroutine") && !fn.body.isNone
 | none=>false
def binW (P:Program) (op:BinOp) (xt:TypeId) (x y:Operand) (a b:Value) (K:Value → Prop) (R:Sem Value → Prop):Prop:=
 match a,b with
 | .int k a,.int k' b=>
  match decEq k k' with
  | isTrue _=>intBin op k a b K
  | isFalse _=>False
 | .bool a,.bool b=>
  bif isBoolT P xt then
   match op with
   | .eql=>K (.bool (a == b))
   | .neq=>K (.bool (!(a == b)))
   | _=>False
  else False
 | .string s,.string t=>
  match op with
  | .add=>((s.size + t.size:Nat):Int) ≤ 9223372036854775807 ∧ K (.string (s ++ t))
  | .eql=>K (.bool (s.toList == t.toList))
  | .neq=>K (.bool (!(s.toList == t.toList)))
  | _=>R (do eqGuard op xt x y (.string s) (.string t); binOp op xt (.string s) (.string t))
 | a,b=>R (do eqGuard op xt x y a b; binOp op xt a b)
def StrIdx (s:ByteArray) (i:Int) (K:Int → Prop):Prop:=0 ≤ i ∧ ∃ h:i.toNat < s.size,K ((s[i.toNat]'h).toNat:Int)
def opw (P:Program) (lit:Bool) (o:Oper) (e:Env) (w:World) (K:Value → World → Prop) (Kp:List PanicEntry → World → Prop):Prop:=
 match o.op with
 | .move x=>K (ev e x) w
 | .assign x=>K (ev e x) w
 | .pick c a b=>
  match ev e c with
  | .bool t=>bif lit then (match t with | true=>K (ev e a) w | false=>K (ev e b) w) else Br t (K (ev e a) w) (K (ev e b) w)
  | _=>False
 | .alloc t=>
  match zeroOf P t with
  | some z=>New w (.cells z.cells t) fun b w'=>K (.pointer (some ⟨b,0,none⟩)) w'
  | none=>False
 | .box t x=>New w (.cells (ev e x).cells t) fun b w'=>K (.pointer (some ⟨b,0,none⟩)) w'
 | .build t ps=>
  match buildV P t (ps.map fun (i,x)=>(i,ev e x)) with
  | some v=>K v w
  | none=>False
 | .buildSlice t len ps=>
  match buildSliceV P t len (ps.map fun (i,x)=>(i,ev e x)) with
  | some (el,cells)=>New w (.cells cells el) fun b w'=>K (.slice (some ⟨b,0,none⟩) len len) w'
  | none=>False
 | .load t x=>
  match ev e x with
  | .pointer (some a)=>
   match tyOf P t with
   | .sc s=>bif (P.underlying t).isSome then LoadT (.sc s) w a fun y=>K (s.val y) w else False
   | .agg l=>bif Nat.beq (sizeP P t) l.length && (P.info? t).isSome then LoadT (.agg l) w a fun y=>K (.agg (vals l y).toArray) w else False
  | _=>False
 | .store t x y=>
  match ev e x with
  | .pointer (some a)=>
   match tyOf P t with
   | .sc .raw=>bif Nat.beq (sizeP P t) 1 && (P.info? t).isSome then (ev e y).oneCell' = true ∧ Store1 w a (ev e y) fun w'=>K undef w' else False
   | .sc _=>
    bif Nat.beq (sizeP P t) 1 && (P.info? t).isSome then
     (match ev e y with
     | .agg _=>False
     | .tuple _=>False
     | v=>Store1 w a v fun w'=>K undef w')
    else False
   | .agg _=>
    match ev e y with
    | .agg cs=>bif Nat.beq (sizeP P t) cs.size && (P.info? t).isSome && cs.toList.all Value.oneCell' then StoreN w a cs.toList fun w'=>K undef w' else False
    | _=>False
  | _=>False
 | .nilCheck x=>
  match ev e x with
  | .pointer p=>NilCk p fun a=>K (.pointer (some a)) w
  | .func (.func f) fi ca=>K (.func (.func f) fi ca) w
  | .func (.yield l) fi ca=>K (.func (.yield l) fi ca) w
  | _=>False
 | .binOp op xt x y _=>binW P op xt x y (ev e x) (ev e y) (fun v=>K v w) (fun s=>RunR P o.type s w K)
 | .unOp .not _ x=>
  match ev e x with
  | .bool b=>K (.bool (!b)) w
  | _=>False
 | .unOp op _ x=>RunR P o.type (Op.unary op (ev e x)) w K
 | .convert s d x=>RunR P o.type (convert s d (ev e x)) w K
 | .makeInterface xt x=>
  match P.underlying xt with
  | some (.interface _)=>False
  | some _=>K (.iface xt (ev e x)) w
  | none=>False
 | .makeFunc fn fi ca=>K (.func fn (fi.map (ev e)) (ca.map (ev e))) w
 | .makeMap _ none=>New w (.map #[] 0) fun b w'=>K (.map (some b)) w'
 | .makeSlice t l c=>RunR P o.type (Instr.makeSlice t (ev e l) (ev e c)) w K
 | .slice t x lo hi mx=>RunR P o.type (Instr.sliceAt t (ev e x) (lo.map (ev e)) (hi.map (ev e)) (mx.map (ev e))) w K
 | .fieldAddr s x f=>
  match ev e x with
  | .pointer (some a)=>
   match fieldOff P s f with
   | some (off,t)=>bif Nat.blt 0 (sizeP P t) then K (.pointer (some (a.add off))) w else False
   | none=>False
  | _=>False
 | .field s x f=>
  match ev e x with
  | .agg cs=>
   match fieldOff P s f with
   | some (off,t)=>partW P t cs off fun v=>K v w
   | none=>False
  | _=>False
 | .indexAddr t x i=>
  match P.underlying t with
  | some (.slice el)=>
   match ev e x with
   | .slice b n _=>
    match ev e i with
    | .int _ i=>bif (P.info? el).isSome then Idx b n (sizeP P el) i fun a=>K (.pointer (some a)) w else False
    | _=>False
   | _=>False
  | some (.array len el)=>
   match ev e x with
   | .pointer (some a)=>
    match ev e i with
    | .int _ i=>bif (P.info? el).isSome then Idx (some a) len (sizeP P el) i fun a=>K (.pointer (some a)) w else False
    | _=>False
   | _=>False
  | _=>False
 | .index t x i=>
  match P.underlying t with
  | some .string=>
   match ev e x with
   | .string s=>
    match ev e i with
    | .int _ i=>StrIdx s i fun b=>K (.int .u8 b) w
    | _=>False
   | _=>False
  | _=>RunR P o.type (Instr.index t (ev e x) (ev e i)) w K
 | .lookup t x i ok=>RunR P o.type (Instr.lookup t (ev e x) (ev e i) ok) w K
 | .mapUpdate t m k x=>RunU P (Instr.mapUpdate t (ev e m) (ev e k) (ev e x)) w fun w'=>K undef w'
 | .insert t m k x=>RunU P (Instr.mapUpdate t (ev e m) (ev e k) (ev e x)) w fun w'=>K undef w'
 | .range t x=>RunT P (.sc .adr) (Instr.range t (ev e x)) w fun a w'=>K (.pointer (some a)) w'
 | .next it s=>NextT P (Instr.next (ev e it) s o.type) w (fun w'=>K (.tuple #[.bool false]) w') (RunN P (nextTys P s o.type) (Instr.next (ev e it) s o.type) w fun x w'=>K (.tuple (tvals _ x).toArray) w')
 | .entry it=>RunR P o.type (Instr.entry (ev e it)) w K
 | .typeAssert x xt ta ok=>RunR P o.type (Instr.typeAssert (ev e x) xt ta ok) w K
 | .extract t i=>
  match ev e t with
  | .tuple vs=>
   match vs[i]? with
   | some v=>K v w
   | none=>False
  | _=>False
 | .panic x=>
  match ev e x with
  | .iface t v=>Kp [{ v:=.iface t v,recovered:=false }] w
  | _=>False
 | .call c=>
  match c.callee with
  | .builtin .len=>
   match (c.args.map (ev e)).toList,c.argTypes.toList with
   | [.slice _ n _],[t]=>bif isLenT P t && !isStrT P t then K (.int .i64 (n:Int)) w else False
   | [.string s],[t]=>bif isStrT P t then K (.int .i64 (s.size:Int)) w else False
   | _,_=>RunR P o.type (Builtin.len_ c.argTypes o.type (c.args.map (ev e))) w K
  | .builtin b=>
   match builtinSem b c.argTypes o.type (c.args.map (ev e)) with
   | some s=>RunR P o.type s w K
   | none=>False
  | .value f=>
   match ev e f with
   | .func (.func g) fi ca=>bif enters P g then CallR P o.type g ((fi ++ c.args.map (ev e)) ++ ca) w K Kp else False
   | .func (.yield l) fi ca=>YieldT P l (fi ++ c.args.map (ev e)) w fun b w'=>K (.bool b) w'
   | _=>False
  | .invoke _ _=>False
 | _=>False
end Go.Proofs.YtffdjfkekdoeaaaDoor.Fw
end
section
namespace Go.Proofs.YtffdjfkekdoeaaaDoor.Fw
def Good (P:Program) (K:Value → World → Prop) (Kp:List PanicEntry → World → Prop):Result Next → Prop
 | .ok (.value v) w'=>K v w'
 | .ok .skip w'=>K undef w'
 | .ok (.enter f args) w'=>Calls P f args w' fun e w''=>match e with | .returned v=>K v w'' | .panicked ch=>Kp ch w'' | .outgrown=>False
 | .ok (.round l f tmps assign body) w'=>RoundIn Fence.wide 0 P l f tmps assign body w' fun e w''=>match e with | .returned v=>K v w'' | .panicked ch=>Kp ch w'' | .outgrown=>False
 | .halt (.panic v) w'=>Kp [{ v,recovered:=false }] w'
 | _=>False
variable {P:Program} {K:Value → World → Prop} {Kp:List PanicEntry → World → Prop} {w:World}
theorem good_value {s:Sem Value} {v:Value} {w':World} (h:s.run P w = .ok v w') (hk:K v w'):Good P K Kp ((do pure (.value (← s)):Sem Next).run P w):=by
 simp [h,Good,hk]
theorem good_runR {ty:TypeId} {s:Sem Value} (h:RunR P ty s w K):Good P K Kp ((do pure (.value (← s)):Sem Next).run P w):=by
 obtain ⟨v,w',h1,h2⟩:=h.run
 exact good_value h1 h2
theorem good_runU {s:Sem Unit} (h:RunU P s w fun w'=>K undef w'):Good P K Kp ((do s; pure .skip:Sem Next).run P w):=by
 obtain ⟨w',h1,h2⟩:=h
 simp [h1,Good,h2]
theorem wrap_i64_max:(IntKind.i64.max:Int) = 9223372036854775807:=by decide
theorem run_underlying_some {t:TypeId} {d:TypeDesc} (h:P.underlying t = some d):(underlying t).run P w = .ok d w:=by
 simp [underlying,program,Sem.run,h]
theorem run_typeInfo_some {t:TypeId} {i:TypeInfo} (h:P.info? t = some i):(typeInfo t).run P w = .ok i w:=by
 simp [typeInfo,program,Sem.run,h]
theorem run_sizeOf_some {t:TypeId} (h:(P.info? t).isSome = true):(sizeOf t).run P w = .ok (sizeP P t) w:=by
 obtain ⟨i,hi⟩:=Option.isSome_iff_exists.1 h
 simp [sizeOf,run_typeInfo_some hi,sizeP,hi]
theorem run_zeroValue_some {t:TypeId} {z:Value} (h:zeroOf P t = some z):(zeroValue t).run P w = .ok z w:=by
 unfold zeroOf at h
 cases hi:P.info? t with
 | none=>simp [hi] at h
 | some i=>
  simp only [hi,Option.bind_some] at h
  simp [zeroValue,run_typeInfo_some hi,h]
theorem run_isAgg {t:TypeId} {d:TypeDesc} (h:P.underlying t = some d):(isAgg t).run P w = .ok (isAggT P t) w:=by
 unfold isAgg isAggT
 rw [h]
 cases d <;> simp [run_underlying_some h]
theorem holds_at:∀ (vs:List Value) (a:Addr) (i:Nat),Holds w a i vs → ∀ (j:Nat) (v:Value),vs[j]? = some v → w.cell? (a.add (i + j)) = some v
 | [],_,_,_,_,_,h=>by simp at h
 | x :: vs,a,i,hh,j,v,h=>by
  cases j with
  | zero=>simp at h; subst h; simpa using hh.1
  | succ j=>
   have:=holds_at vs a (i + 1) hh.2 j v (by simpa using h)
   rw [show i + (j + 1) = i + 1 + j by omega]; exact this
theorem run_loadCells_holds {a:Addr} {vs:List Value} (h:Holds w a 0 vs):(loadCells a vs.length).run P w = .ok vs.toArray w:=
 run_loadCells_list w a vs fun j v hj=>by have:=holds_at vs a 0 h j v hj; rwa [Nat.zero_add] at this
theorem run_store_open {a:Addr} {v:Value} (hv:v.oneCell' = true) (h:Open1 w a):(store a v).run P w = .ok () (w.setCell a v):=by
 obtain ⟨h1,h2⟩:=h
 obtain ⟨u,hu⟩:=Option.isSome_iff_exists.1 h1
 unfold store
 cases v <;> first | (simp [Value.oneCell'] at hv; done) | simp [Sem.run,hu,h2]
theorem open_setCell {a b:Addr} {v:Value} (h:Open1 w b):Open1 (w.setCell a v) b:=by
 obtain ⟨h1,h2⟩:=h
 refine ⟨?_,by rw [World.frozen?_setCell]; exact h2⟩
 by_cases hab:a = b
 ·subst hab
  obtain ⟨u,hu⟩:=Option.isSome_iff_exists.1 h1
  rw [World.cell?_setCell_same w a v hu]; rfl
 ·rw [World.cell?_setCell_other w a b v hab]; exact h1
theorem openN_setCell {a b:Addr} {v:Value}:∀ (n i:Nat),OpenN w b i n → OpenN (w.setCell a v) b i n
 | 0,_,_=>trivial
 | n + 1,i,h=>⟨open_setCell h.1,openN_setCell n (i + 1) h.2⟩
theorem run_storeCells_open:∀ (vs:List Value) (a:Addr) (i:Nat) (w:World),(∀ v ∈ vs,v.oneCell' = true) → OpenN w a i vs.length → (storeCells a vs i).run P w = .ok () (setCells w a i vs)
 | [],_,_,_,_,_=>by simp [storeCells,setCells]
 | v :: vs,a,i,w,h1,h2=>by
  simp only [storeCells,Sem.run_bind,run_store_open (h1 v (by simp)) h2.1,Result.andThen_ok]
  rw [run_storeCells_open vs a (i + 1) _ (fun u hu=>h1 u (by simp [hu])) (openN_setCell _ _ h2.2)]
  rfl
theorem run_storeVar_one {t:TypeId} {a:Addr} {v:Value} (hs:sizeP P t = 1) (hi:(P.info? t).isSome = true) (hv:v.oneCell' = true) (ho:Open1 w a):(storeVar t a v).run P w = .ok () (w.setCell a v):=by
 have hc:v.cells = #[v]:=by cases v <;> first | rfl | simp [Value.oneCell'] at hv
 unfold storeVar
 simp only [Sem.run_bind,run_sizeOf_some hi,Result.andThen_ok,hs,hc]
 simp [storeCells,Addr.add,run_store_open hv ho]
theorem run_storeVar_agg {t:TypeId} {a:Addr} {cs:Array Value} (hs:sizeP P t = cs.size) (hi:(P.info? t).isSome = true) (hv:∀ v ∈ cs.toList,v.oneCell' = true) (ho:OpenN w a 0 cs.toList.length) :
  (storeVar t a (.agg cs)).run P w = .ok () (setCells w a 0 cs.toList):=by
 unfold storeVar
 simp only [Sem.run_bind,run_sizeOf_some hi,Result.andThen_ok,hs,Value.cells]
 simp [run_storeCells_open cs.toList a 0 w hv ho]
theorem run_fieldAt {s:TypeId} {a:Addr} {f off:Nat} {t:TypeId} (h:fieldOff P s f = some (off,t)) (hp:0 < sizeP P t):(Instr.fieldAt s (.pointer (some a)) f).run P w = .ok (.pointer (some (a.add off))) w:=by
 unfold fieldOff at h
 split at h
 ·rename_i fs hu
  cases hf:fs[f]? with
  | none=>simp [hf] at h
  | some x=>
   simp only [hf,Option.map_some,Option.some.injEq,Prod.mk.injEq] at h
   obtain ⟨rfl,rfl⟩:=h
   have hi:(P.info? x.type).isSome = true:=by
    cases hh:P.info? x.type with
    | none=>simp [sizeP,hh] at hp
    | some i=>rfl
   simp [Instr.fieldAt,run_underlying_some hu,hf,Instr.sureAddr,fieldPlace,run_sizeOf_some hi,Nat.ne_of_gt hp]
 ·simp at h
theorem partW_any {t:TypeId} {cs:Array Value} {off:Nat} {K:Value → Prop} (h:partW P t cs off K):∃ v,(∀ w,(part t cs off).run P w = .ok v w) ∧ K v:=by
 unfold partW at h
 unfold part
 cases hd:P.underlying t with
 | none=>
  have:isAggT P t = false:=by unfold isAggT; rw [hd]
  rw [this,hd] at h
  exact h.elim
 | some d=>
 simp only [Sem.run_bind,run_isAgg hd,Result.andThen_ok]
 cases hb:isAggT P t with
 | true=>
  rw [hb] at h
  cases hi:(P.info? t).isSome with
  | false=>rw [hi] at h; exact h.elim
  | true=>rw [hi] at h; exact ⟨_,fun w=>by simp [run_sizeOf_some hi],h⟩
 | false=>
  rw [hb,hd] at h
  simp only [cond_false,Option.isSome_some,cond_true] at h
  cases hc:cs[off]? with
  | none=>rw [hc] at h; exact h.elim
  | some v=>rw [hc] at h; exact ⟨v,fun w=>by simp,h⟩
theorem partW_run {t:TypeId} {cs:Array Value} {off:Nat} {K:Value → Prop} (h:partW P t cs off K):∃ v,(part t cs off).run P w = .ok v w ∧ K v:=by
 obtain ⟨v,h1,h2⟩:=partW_any h
 exact ⟨v,h1 w,h2⟩
theorem run_places (fs:Array Field) (h:infosOf P fs = true):(fs.mapM fun f=>do pure (f.offset,← sizeOf f.type):Sem (Array (Nat × Nat))).run P w = .ok (placesOf P fs) w:=by
 obtain ⟨l⟩:=fs
 have key:∀ l:List Field,(∀ f ∈ l,(P.info? f.type).isSome = true) → (l.mapM fun f=>do pure (f.offset,← sizeOf f.type):Sem (List (Nat × Nat))).run P w = .ok (l.map fun f=>(f.offset,sizeP P f.type)) w:=by
  intro l
  induction l with
  | nil=>intro _; simp
  | cons f l ih=>
   intro hl
   simp only [List.mapM_cons,Sem.run_bind,run_sizeOf_some (hl f (by simp)),Result.andThen_ok,Sem.run_pure,ih (fun g hg=>hl g (by simp [hg])),List.map_cons]
 have hl:∀ f ∈ l,(P.info? f.type).isSome = true:=by
  unfold infosOf at h
  rw [Array.all_eq_true_iff_forall_mem] at h
  intro f hf
  exact h f (by simpa using hf)
 simp only [List.mapM_toArray,Sem.run_map,key l hl,Result.andThen_ok]
 simp [placesOf]
theorem run_places' (fs:Array Field) (h:infosOf P fs = true):Sem.run P (Array.mapM (fun f=>Prod.mk f.offset <$> sizeOf f.type) fs) w = .ok (placesOf P fs) w:=by
 have:=run_places (w:=w) fs h
 simpa using this
theorem run_build {t:TypeId} {ps:Array (Nat × Value)} {v:Value} (h:buildV P t ps = some v):(Instr.build t ps).run P w = .ok v w:=by
 unfold buildV at h
 split at h
 ·rename_i z fs hz hu
  cases hb:infosOf P fs with
  | false=>simp [hb] at h
  | true=>
   simp only [hb,cond_true] at h
   cases hf:Instr.fill ((placesOf P fs)[·]?) z.cells ps.toList with
   | none=>simp [hf] at h
   | some c=>
    simp only [hf,Option.map_some,Option.some.injEq] at h
    subst h
    simp [Instr.build,run_zeroValue_some hz,run_underlying_some hu,run_places' fs hb,hf]
 ·rename_i z n el hz hu
  cases hb:(P.info? el).isSome with
  | false=>simp [hb] at h
  | true=>
   simp only [hb,cond_true] at h
   cases hf:Instr.fill (fun i=>some (i * sizeP P el,sizeP P el)) z.cells ps.toList with
   | none=>simp [hf] at h
   | some c=>
    simp only [hf,Option.map_some,Option.some.injEq] at h
    subst h
    simp [Instr.build,run_zeroValue_some hz,run_underlying_some hu,run_sizeOf_some hb,hf]
 ·simp at h
theorem run_buildSlice {t:TypeId} {len:Nat} {ps:Array (Nat × Value)} {el:TypeId} {cells:Array Value} (h:buildSliceV P t len ps = some (el,cells)) :
  (Instr.buildSlice t len ps).run P w = .ok (.slice (some ⟨w.heap.size,0,none⟩) len len) (w.alloc (.cells cells el)):=by
 unfold buildSliceV at h
 split at h
 ·rename_i e hu
  split at h
  ·rename_i z hz
   cases hb:((P.info? e).isSome && Nat.ble (len * sizeP P e) 16777216) with
   | false=>simp [hb] at h
   | true=>
    simp only [hb,cond_true] at h
    simp only [Bool.and_eq_true] at hb
    have hle:len * sizeP P e ≤ 16777216:=Nat.le_of_ble_eq_true hb.2
    cases hf:Instr.fill (fun i=>some (i * sizeP P e,sizeP P e)) ((Array.range (len * sizeP P e)).map (z.cells[· % z.cells.size]!)) ps.toList with
    | none=>simp [hf] at h
    | some c=>
     simp only [hf,Option.map_some,Option.some.injEq,Prod.mk.injEq] at h
     obtain ⟨rfl,rfl⟩:=h
     by_cases h0:len * sizeP P e = 0
     ·have hf':=hf
      rw [h0] at hf'
      simp [Array.range_zero'] at hf'
      simp [Instr.buildSlice,run_underlying_some hu,run_sizeOf_some hb.1,h0,Array.range_zero',hf',newRow,newObj,Sem.run]
     ·simp [Instr.buildSlice,run_underlying_some hu,run_sizeOf_some hb.1,h0,Nat.not_lt.2 hle,run_zeroValue_some hz,hf,newRow,newObj,Sem.run]
  ·simp at h
 ·simp at h
end Go.Proofs.YtffdjfkekdoeaaaDoor.Fw
end
section
namespace Go.Proofs.YtffdjfkekdoeaaaDoor.Fw
variable {P:Program} {K:Value → World → Prop} {Kp:List PanicEntry → World → Prop} {w:World}
theorem good_eq {s s':Sem Next} (h:s = s') (hg:Good P K Kp (s'.run P w)):Good P K Kp (s.run P w):=h ▸ hg
theorem run_intBin {ty:BinOp} {xt:TypeId} {op:BinOp} {k:IntKind} {a b:Int} {x y:Operand} {Kv:Value → Prop} (h:intBin op k a b Kv) :
  ∃ v,(∀ w,(do eqGuard op xt x y (.int k a) (.int k b); binOp op xt (.int k a) (.int k b):Sem Value).run P w = .ok v w) ∧ Kv v:=by
 have hg:eqGuard op xt x y (.int k a) (.int k b) = pure ():=by cases op <;> rfl
 rw [hg]
 cases op <;> simp only [intBin] at h <;> try exact h.elim
 case quo=>exact ⟨_,fun w=>by simp [binOp,Op.intDiv,h.1],h.2⟩
 case rem=>exact ⟨_,fun w=>by simp [binOp,Op.intDiv,h.1],h.2⟩
 all_goals exact ⟨_,fun w=>by simp [binOp,Op.intArith,Op.intCmp,Op.intBits,Go.bits],h⟩
theorem run_binW {op:BinOp} {xt:TypeId} {x y:Operand} {a b:Value} {Kv:Value → Prop} {R:Sem Value → Prop} (h:binW P op xt x y a b Kv R) :
  (∃ v,(∀ w,(do eqGuard op xt x y a b; binOp op xt a b:Sem Value).run P w = .ok v w) ∧ Kv v) ∨ R (do eqGuard op xt x y a b; binOp op xt a b):=by
 unfold binW at h
 split at h
 ·rename_i k a k' b
  split at h
  ·rename_i hkk hd
   subst hkk
   obtain ⟨v,h1,h2⟩:=run_intBin (P:=P) (ty:=op) (xt:=xt) (x:=x) (y:=y) h
   exact .inl ⟨v,h1,h2⟩
  ·exact h.elim
 ·rename_i a b
  have hg:eqGuard op xt x y (.bool a) (.bool b) = pure ():=by cases op <;> rfl
  cases hb:isBoolT P xt with
  | false=>rw [hb] at h; exact h.elim
  | true=>
   rw [hb] at h
   have hu:P.underlying xt = some .bool:=by
    unfold isBoolT at hb
    split at hb
    ·assumption
    ·cases hb
   simp only [cond_true] at h
   split at h
   ·exact .inl ⟨_,fun w=>by rw [hg]; simp [run_eql_bool w xt a b hu],h⟩
   ·exact .inl ⟨_,fun w=>by rw [hg]; simp [run_neq_bool w xt a b hu],h⟩
   ·exact h.elim
 ·rename_i s t
  have hg:eqGuard op xt x y (.string s) (.string t) = pure ():=by cases op <;> rfl
  split at h
  ·obtain ⟨h1,h2⟩:=h
   refine .inl ⟨_,fun w=>?_,h2⟩
   rw [hg]
   have:¬ (((s.size + t.size:Nat):Int) > IntKind.i64.max):=by rw [wrap_i64_max]; omega
   simp [binOp,Op.stringOp]
   omega
  ·exact .inl ⟨_,fun w=>by rw [hg]; simp [binOp,Op.stringOp],h⟩
  ·exact .inl ⟨_,fun w=>by rw [hg]; simp [binOp,Op.stringOp],h⟩
  ·exact .inr h
 ·exact .inr h
theorem enters_spec {f:FuncId} (h:enters P f = true) (args:Array Value):(callFunc f args).run P w = .ok (.enter f args) w:=by
 unfold enters at h
 cases hf:P.funcs[f]? with
 | none=>simp [hf] at h
 | some fn=>
  simp only [hf,Bool.and_eq_true,Bool.not_eq_true'] at h
  obtain ⟨h1,h2⟩:=h
  simp only [beq_eq_false_iff_ne,ne_eq] at h1
  have h3:fn.body ≠ none:=by intro e; simp [e] at h2
  simp [callFunc,program,Sem.run,hf,h1,h3]
theorem bltn_run {b:Builtin} {ts:Array TypeId} {ty:TypeId} {cs:Array Bool} {args:Array Value} {s:Sem Value} (h:builtinSem b ts ty args = some s) :
  builtin b ts ty cs args = (do pure (.value (← s)):Sem Next):=by
 cases b <;> simp only [builtinSem] at h <;> first | (cases h; done) | (cases h; rfl)
theorem callw_good {c:Call} {ty:TypeId} {e:Env} (h:match c.callee with
  | .builtin .len=>
   match (c.args.map (ev e)).toList,c.argTypes.toList with
   | [.slice _ n _],[t]=>bif isLenT P t && !isStrT P t then K (.int .i64 (n:Int)) w else False
   | [.string s],[t]=>bif isStrT P t then K (.int .i64 (s.size:Int)) w else False
   | _,_=>RunR P ty (Builtin.len_ c.argTypes ty (c.args.map (ev e))) w K
  | .builtin b=>
   match builtinSem b c.argTypes ty (c.args.map (ev e)) with
   | some s=>RunR P ty s w K
   | none=>False
  | .value f=>
   match ev e f with
   | .func (.func g) fi ca=>bif enters P g then CallR P ty g ((fi ++ c.args.map (ev e)) ++ ca) w K Kp else False
   | .func (.yield l) fi ca=>YieldT P l (fi ++ c.args.map (ev e)) w fun b w'=>K (.bool b) w'
   | _=>False
  | .invoke _ _=>False):Good P K Kp ((do let d ← resolve (ev e) c ty; invoke d.target d.args:Sem Next).run P w):=by
 obtain ⟨callee,args,argTypes⟩:=c
 cases callee with
 | invoke r m=>exact h.elim
 | builtin b=>
  have hres:(do let d ← resolve (ev e) ⟨.builtin b,args,argTypes⟩ ty; invoke d.target d.args:Sem Next) = builtin b argTypes ty (args.map fun | .const _=>true | _=>false) (args.map (ev e)):=by
   rfl
  refine good_eq hres ?_
  by_cases hb:b = .len
  ·subst hb
   dsimp only at h
   have hlen:builtin .len argTypes ty (args.map fun | .const _=>true | _=>false) (args.map (ev e)) = (do pure (.value (← Builtin.len_ argTypes ty (args.map (ev e)))):Sem Next):=rfl
   refine good_eq hlen ?_
   split at h
   ·rename_i a n c t h1 h2
    have e1:args.map (ev e) = #[.slice a n c]:=by rw [← Array.toList_inj]; exact h1
    have e2:argTypes = #[t]:=by rw [← Array.toList_inj]; exact h2
    rw [e1,e2]
    cases hl:(isLenT P t && !isStrT P t) with
    | false=>rw [hl] at h; exact h.elim
    | true=>
     rw [hl] at h
     simp only [Bool.and_eq_true,Bool.not_eq_true'] at hl
     obtain ⟨hl1,hl2⟩:=hl
     unfold isLenT at hl1
     split at hl1
     ·rename_i hu; simp [isStrT,hu] at hl2
     ·rename_i el hu
      exact good_value (w':=w) (v:=.int .i64 (n:Int)) (by simp [Builtin.len_,run_underlying_some hu,goInt]) h
     ·cases hl1
   ·rename_i s t h1 h2
    have e1:args.map (ev e) = #[.string s]:=by rw [← Array.toList_inj]; exact h1
    have e2:argTypes = #[t]:=by rw [← Array.toList_inj]; exact h2
    rw [e1,e2]
    cases hl:isStrT P t with
    | false=>rw [hl] at h; exact h.elim
    | true=>
     rw [hl] at h
     unfold isStrT at hl
     split at hl
     ·rename_i hu
      exact good_value (w':=w) (v:=.int .i64 (s.size:Int)) (by simp [Builtin.len_,run_underlying_some hu,goInt]) h
     ·cases hl
   ·exact good_runR h
  ·have h':match builtinSem b argTypes ty (args.map (ev e)) with
     | some s=>RunR P ty s w K
     | none=>False:=by
    cases b <;> first | exact h | exact absurd rfl hb
   split at h'
   ·rename_i s hs
    rw [bltn_run hs]
    exact good_runR h'
   ·exact h'.elim
 | value f=>
  dsimp only at h
  split at h
  ·rename_i g fi ca hf
   have hres:(do let d ← resolve (ev e) ⟨.value f,args,argTypes⟩ ty; invoke d.target d.args:Sem Next) = callFunc g ((fi ++ args.map (ev e)) ++ ca):=by
    simp only [resolve,hf,Deferred.ofValue,pure_bind]
    rfl
   refine good_eq hres ?_
   cases hen:enters P g with
   | false=>rw [hen] at h; exact h.elim
   | true=>
    rw [hen] at h
    rw [enters_spec hen]
    exact CallR.calls h
  ·rename_i l fi ca hf
   have hres:(do let d ← resolve (ev e) ⟨.value f,args,argTypes⟩ ty; invoke d.target d.args:Sem Next) = Instr.yield l (fi ++ args.map (ev e)):=by
    simp only [resolve,hf,Deferred.ofValue,pure_bind]
    rfl
   refine good_eq hres ?_
   obtain ⟨f',tmps,assign,body,h1,h2⟩:=h
   rw [h1]
   refine RoundIn.mono h2 fun e' w' he=>?_
   cases e' with
   | returned v=>obtain ⟨b,rfl,hb⟩:=he; exact hb
   | panicked ch=>exact he.elim
   | outgrown=>exact he
  ·exact h.elim
theorem vals_length:∀ (l:List Sc) (x:dens l),(vals l x).length = l.length
 | [],_=>rfl
 | s :: l,(x,y)=>by simp [vals,vals_length l y]
set_option maxHeartbeats 4000000 in
theorem opw_good {lit:Bool} {o:Oper} {e:Env} (h:opw P lit o e w K Kp):Good P K Kp ((execOp (ev e) o).run P w):=by
 obtain ⟨dst,op,ty,pos,after,guard⟩:=o
 cases op <;> simp only [opw] at h <;> simp only [execOp]
 case move x=>exact h
 case assign x=>exact h
 case pick c a b=>
  split at h
  ·rename_i t ht
   rw [ht]
   cases lit with
   | true=>cases t <;> exact h
   | false=>cases t with
    | true=>exact h.1 rfl
    | false=>exact h.2 rfl
  ·exact h.elim
 case alloc t=>
  split at h
  ·rename_i z hz
   exact good_value (w':=w.alloc (.cells z.cells t)) (v:=.pointer (some ⟨w.heap.size,0,none⟩)) (by simp [Instr.alloc,run_zeroValue_some hz,newVar,newRow,newObj,Sem.run]) h
  ·exact h.elim
 case box t x=>exact good_value (w':=w.alloc (.cells (ev e x).cells t)) (v:=.pointer (some ⟨w.heap.size,0,none⟩)) (by simp [Instr.box,newVar,newRow,newObj,Sem.run]) h
 case build t ps=>
  split at h
  ·rename_i v hv; exact good_value (run_build hv) h
  ·exact h.elim
 case buildSlice t len ps=>
  split at h
  ·rename_i el cells hv; exact good_value (run_buildSlice hv) h
  ·exact h.elim
 case load t x=>
  split at h
  ·rename_i a ha
   rw [ha]
   unfold tyOf at h
   cases hu:P.underlying t with
   | none=>
    have hag:isAggT P t = false:=by unfold isAggT; rw [hu]
    rw [hag,hu] at h
    exact h.elim
   | some d=>
   cases hag:isAggT P t with
   | false=>
    rw [hag,hu] at h
    obtain ⟨x,hc,hk⟩:=h
    exact good_value (w':=w) (by simp [Instr.loadAt,Instr.sureAddr,loadVar,run_isAgg hu,hag,hc]) hk
   | true=>
    rw [hag] at h
    simp only [cond_true] at h
    cases hb:(Nat.beq (sizeP P t) (scsOf P 8 t).length && (P.info? t).isSome) with
    | false=>rw [hb] at h; exact h.elim
    | true=>
     rw [hb] at h
     obtain ⟨x,hc,hk⟩:=h
     simp only [Bool.and_eq_true] at hb
     have hlen:(vals (scsOf P 8 t) x).length = (scsOf P 8 t).length:=vals_length _ _
     have hsz:sizeP P t = (vals (scsOf P 8 t) x).length:=by rw [hlen]; exact Nat.eq_of_beq_eq_true hb.1
     refine good_value (w':=w) ?_ hk
     simp only [Instr.loadAt,Instr.sureAddr,loadVar,Sem.run_bind,Sem.run_pure,Result.andThen_ok,run_isAgg hu,hag,if_true,run_sizeOf_some hb.2,hsz,run_loadCells_holds hc]
  ·exact h.elim
 case store t x y=>
  split at h
  ·rename_i a ha
   rw [ha]
   split at h
   ·cases hb:(Nat.beq (sizeP P t) 1 && (P.info? t).isSome) with
    | false=>rw [hb] at h; exact h.elim
    | true=>
     rw [hb] at h
     simp only [Bool.and_eq_true] at hb
     obtain ⟨h1,h2,h3⟩:=h
     exact good_runU ⟨_,by simp [Instr.storeAt,Instr.sureAddr,run_storeVar_one (Nat.eq_of_beq_eq_true hb.1) hb.2 h1 h2],h3⟩
   ·cases hb:(Nat.beq (sizeP P t) 1 && (P.info? t).isSome) with
    | false=>rw [hb] at h; exact h.elim
    | true=>
     rw [hb] at h
     simp only [Bool.and_eq_true] at hb
     simp only [cond_true] at h
     split at h
     ·exact h.elim
     ·exact h.elim
     ·rename_i v hv1 hv2
      have h1:(ev e y).oneCell' = true:=by
       cases hv:ev e y <;> first | rfl | exact absurd hv (hv1 _) | exact absurd hv (hv2 _)
      exact good_runU ⟨_,by simp [Instr.storeAt,Instr.sureAddr,run_storeVar_one (Nat.eq_of_beq_eq_true hb.1) hb.2 h1 h.1],h.2⟩
   ·split at h
    ·rename_i cs hcs
     rw [hcs]
     cases hb:(Nat.beq (sizeP P t) cs.size && (P.info? t).isSome && cs.toList.all Value.oneCell') with
     | false=>rw [hb] at h; exact h.elim
     | true=>
      rw [hb] at h
      simp only [Bool.and_eq_true,List.all_eq_true] at hb
      obtain ⟨⟨hb1,hb2⟩,h1⟩:=hb
      obtain ⟨h2,h3⟩:=h
      exact good_runU ⟨_,by simp [Instr.storeAt,Instr.sureAddr,run_storeVar_agg (Nat.eq_of_beq_eq_true hb1) hb2 h1 h2],h3⟩
    ·exact h.elim
  ·exact h.elim
 case nilCheck x=>
  split at h
  ·rename_i p hp
   obtain ⟨a,rfl,hk⟩:=h
   rw [hp]; exact hk
  ·rename_i f fi ca hf
   rw [hf]; exact h
  ·rename_i l fi ca hf
   rw [hf]; exact h
  ·exact h.elim
 case binOp op xt x y yt=>
  rcases run_binW h with ⟨v,h1,h2⟩ | h
  ·exact good_value (h1 w) h2
  ·exact good_runR h
 case unOp op xt x=>
  cases op with
  | not=>
   dsimp only at h
   split at h
   ·rename_i b hb
    rw [hb]
    exact good_value (w':=w) (v:=.bool (!b)) (by simp [Op.unary]) h
   ·exact h.elim
  | _=>exact good_runR h
 case convert s d x=>exact good_runR h
 case makeInterface xt x=>
  split at h
  ·exact h.elim
  ·rename_i d hd hu
   refine good_value (w':=w) (v:=.iface xt (ev e x)) ?_ h
   simp only [Instr.makeInterface,Sem.run_bind,run_underlying_some hu,Result.andThen_ok]
   cases d <;> first | rfl | exact absurd rfl (hd _)
  ·exact h.elim
 case makeFunc fn fi ca=>exact h
 case makeMap t r=>
  cases r with
  | some r=>exact h.elim
  | none=>exact good_value (w':=w.alloc (.map #[] 0)) (v:=.map (some w.heap.size)) (by simp [Instr.makeMap,newObj,Sem.run]) h
 case makeSlice t l c=>exact good_runR h
 case slice t x lo hi mx=>exact good_runR h
 case fieldAddr s x f=>
  split at h
  ·rename_i a ha
   split at h
   ·rename_i off t hf
    cases hb:Nat.blt 0 (sizeP P t) with
    | false=>rw [hb] at h; exact h.elim
    | true=>
     rw [hb] at h
     rw [ha]
     exact good_value (run_fieldAt hf (by simpa using hb)) h
   ·exact h.elim
  ·exact h.elim
 case field s x f=>
  split at h
  ·rename_i cs hc
   rw [hc]
   split at h
   ·rename_i off t hf
    obtain ⟨v,h1,h2⟩:=partW_run (P:=P) (w:=w) h
    unfold fieldOff at hf
    split at hf
    ·rename_i fs hu
     cases hx:fs[f]? with
     | none=>simp [hx] at hf
     | some x=>
      simp only [hx,Option.map_some,Option.some.injEq,Prod.mk.injEq] at hf
      obtain ⟨rfl,rfl⟩:=hf
      exact good_value (w':=w) (by simp [Instr.field,run_underlying_some hu,hx,asAgg,h1]) h2
    ·cases hf
   ·exact h.elim
  ·exact h.elim
 case indexAddr t x i=>
  split at h
  ·rename_i el hu
   split at h
   ·rename_i b n c hx
    split at h
    ·rename_i k i hi
     cases h0:(P.info? el).isSome with
     | false=>rw [h0] at h; exact h.elim
     | true=>
     rw [h0] at h
     obtain ⟨a,rfl,h1,h2,h3⟩:=h
     rw [hx,hi]
     exact good_value (w':=w) (by simp [Instr.indexAt,asIntOf,run_underlying_some hu,h1,h2,run_sizeOf_some h0]) h3
    ·exact h.elim
   ·exact h.elim
  ·rename_i len el hu
   split at h
   ·rename_i a hx
    split at h
    ·rename_i k i hi
     cases h0:(P.info? el).isSome with
     | false=>rw [h0] at h; exact h.elim
     | true=>
     rw [h0] at h
     obtain ⟨a',ha,h1,h2,h3⟩:=h
     cases ha
     rw [hx,hi]
     exact good_value (w':=w) (by simp [Instr.indexAt,asIntOf,run_underlying_some hu,h1,h2,run_sizeOf_some h0,Instr.sureAddr]) h3
    ·exact h.elim
   ·exact h.elim
  ·exact h.elim
 case index t x i=>
  split at h
  ·rename_i hu
   split at h
   ·rename_i s hx
    split at h
    ·rename_i k i hi
     obtain ⟨h1,h2,h3⟩:=h
     rw [hx,hi]
     refine good_value (w':=w) ?_ h3
     simp [Instr.index,asIntOf,run_underlying_some hu,h1,h2]
    ·exact h.elim
   ·exact h.elim
  ·exact good_runR h
 case lookup t x i ok=>exact good_runR h
 case mapUpdate t m k x=>exact good_runU h
 case insert t m k x=>exact good_runU h
 case range t x=>
  obtain ⟨x,w',h1,h2⟩:=h
  exact good_value h1 h2
 case next it s=>
  rcases h with ⟨w',h1,h2⟩ | ⟨x,w',h1,h2⟩
  ·exact good_value h1 h2
  ·exact good_value h1 h2
 case entry it=>exact good_runR h
 case typeAssert x xt ta ok=>exact good_runR h
 case extract t i=>
  split at h
  ·rename_i vs hv
   rw [hv]
   split at h
   ·rename_i v hi
    exact good_value (w':=w) (by simp [Instr.extract,hi]) h
   ·exact h.elim
  ·exact h.elim
 case panic x=>
  split at h
  ·rename_i t v hv
   rw [hv]
   simpa [Instr.panic,goPanic,Sem.run,Good] using h
  ·exact h.elim
 case call c=>exact callw_good h
 all_goals exact h.elim
end Go.Proofs.YtffdjfkekdoeaaaDoor.Fw
end
section
namespace Go.Proofs.YtffdjfkekdoeaaaDoor.Fw
def guardSlot (ops:Array Oper) (o:Oper):Option (Nat × Bool):=
 match o.guard with
 | none=>none
 | some (j,want)=>
  match (ops[j]?).bind (·.dst) with
  | some d=>some (d,want)
  | none=>some (0,want)
def guardOk (ops:Array Oper) (n:Nat) (o:Oper):Bool:=
 match o.guard with
 | none=>true
 | some (j,_)=>
  match (ops[j]?).bind (·.dst) with
  | some d=>Nat.blt d n
  | none=>false
def isBool (v:Value) (want:Bool):Bool:=
 match v with
 | .bool b=>b == want
 | _=>false
def wantedE (ops:Array Oper) (o:Oper) (e:Env):Bool:=
 match guardSlot ops o with
 | none=>true
 | some (d,want)=>isBool (e d) want
def okOp (ops:Array Oper) (F:Fm) (o:Oper):Bool:=
 o.op.operands.all (okX F.n) && guardOk ops F.n o && F.free o.dst && (match o.op with | .select _ _=>false | .defer _=>false | .go _=>false | _=>true)
def okOps (F:Fm) (ops:Array Oper):Bool:=ops.all (okOp ops F)
theorem wanted_rep {F:Fm} {ds:List Deferred} {e:Env} {a:Act} {ops:Array Oper} {o:Oper} (h:Rep F ds e a) (ho:guardOk ops F.n o = true) :
  Region.wanted o (yielded ops a.tmps) = wantedE ops o e:=by
 unfold guardOk at ho
 unfold wantedE guardSlot Region.wanted
 cases hg:o.guard with
 | none=>rfl
 | some g=>
  obtain ⟨j,want⟩:=g
  rw [hg] at ho
  dsimp only at ho ⊢
  cases hd:(ops[j]?).bind (·.dst) with
  | none=>rw [hd] at ho; cases ho
  | some d=>
   rw [hd] at ho
   have hlt:d < F.n:=by simpa using ho
   have hs:=h.slots d hlt
   have hs':a.tmps[d]? = some (e d):=by
    rw [← hs]
    simp [h.size,hlt]
   simp only [yielded,hd,Option.bind_some,hs',isBool]
   cases e d <;> simp
def stepE (P:Program) (ops:Array Oper) (i:Nat) (e:Env) (w:World) (C:Env → World → Prop) (Kp:List PanicEntry → World → Prop):Prop:=
 match ops[i]? with
 | none=>C e w
 | some o=>if wantedE ops o e = true then Good P (fun v w'=>C (updO e o.dst v) w') Kp ((execOp (ev e) o).run P w) else C (updO e o.dst undef) w
theorem Good.mono {P:Program} {K K':Value → World → Prop} {Kp Kp':List PanicEntry → World → Prop} {r:Result Next} (h:Good P K Kp r) (hk:∀ v w,K v w → K' v w) (hp:∀ c w,Kp c w → Kp' c w):Good P K' Kp' r:=by
 cases r with
 | ok x w=>
  cases x <;> simp only [Good] at h ⊢ <;> first
   | exact hk _ _ h
   | exact h.elim
   | (refine Calls.mono h fun e w' he=>?_; cases e <;> first | exact hk _ _ he | exact hp _ _ he | exact he)
   | (refine RoundIn.mono h fun e w' he=>?_; cases e <;> first | exact hk _ _ he | exact hp _ _ he | exact he)
 | halt x w=>cases x <;> simp only [Good] at h ⊢ <;> first | exact hp _ _ h | exact h.elim
theorem stepE_mono {P:Program} {ops:Array Oper} {i:Nat} {e:Env} {w:World} {C C':Env → World → Prop} {Kp:List PanicEntry → World → Prop} (h:stepE P ops i e w C Kp) (hc:∀ e w,C e w → C' e w):stepE P ops i e w C' Kp:=by
 unfold stepE at *
 cases ho:ops[i]? with
 | none=>rw [ho] at h; exact hc _ _ h
 | some o=>
  rw [ho] at h
  dsimp only at h ⊢
  split
  ·rename_i hw; rw [if_pos hw] at h; exact Good.mono h (fun v w hv=>hc _ _ hv) (fun _ _ h=>h)
  ·rename_i hw; rw [if_neg hw] at h; exact hc _ _ h
theorem callsIn_of_calls {ro:Option Nat} {n:Nat} {P:Program} {f:FuncId} {args:Array Value} {w:World} {R R':Ending → World → Prop} (h:Calls P f args w R) (hr:∀ e w',R e w' → R' e w'):CallsIn (Wf ro) n P f args w R':=
 callsIn_Wf.2 (Calls.mono h hr)
theorem good_uponIn {ro:Option Nat} {P:Program} {o:Oper} {a:Act} {K:Value → World → Prop} {Kp:List PanicEntry → World → Prop} {next:Act → World → Prop} {Q:Exit → Act → World → Prop} {r:Result Next}
  (h:Good P K Kp r) (hk:∀ v w,K v w → next (a.put o.dst v) w) (hp:∀ c w,Kp c w → Q (.panic c) a w):o.uponIn (Wf ro) 0 P a next Q r:=by
 cases r with
 | ok x w=>
  cases x <;> simp only [Good] at h <;> simp only [Oper.uponIn] <;> first
   | exact hk _ _ h
   | exact h.elim
   | exact ⟨fun h=>by simp at h,callsIn_of_calls h fun e w' he=>by cases e <;> first | exact hk _ _ he | exact hp _ _ he | exact he.elim⟩
   | exact ⟨fun h=>by simp at h,RoundIn.mono h fun e w' he=>by cases e <;> first | exact hk _ _ he | exact hp _ _ he | exact he.elim⟩
 | halt x w=>cases x <;> simp only [Good] at h <;> simp only [Oper.uponIn] <;> first | exact hp _ _ h | exact h.elim
theorem semAt_of_ok {ops:Array Oper} {F:Fm} {ro:Option Nat} {o:Oper} {ρ:Operand → Value} (h:okOp ops F o = true):o.semAt ro ρ = execOp ρ o:=by
 refine Oper.semAt_eq ro ρ o fun c hc=>?_
 simp [okOp,hc] at h
theorem noSelect_of_ok {ops:Array Oper} {F:Fm} {o:Oper} (h:okOp ops F o = true):∀ cs b,o.op ≠ .select cs b:=by
 intro cs b hc
 simp [okOp,hc] at h
theorem execOp_rep {ops:Array Oper} {F:Fm} {ds:List Deferred} {e:Env} {a:Act} {o:Oper} (hr:Rep F ds e a) (h:okOp ops F o = true):execOp a.eval o = execOp (ev e) o:=by
 refine execOp_congr o (noSelect_of_ok h) fun x hx=>hr.ev ?_
 simp only [okOp,Bool.and_eq_true] at h
 have h1:=h.1.1.1
 rw [Array.all_eq_true_iff_forall_mem] at h1
 exact h1 x hx
theorem guardOk_of_ok {ops:Array Oper} {F:Fm} {o:Oper} (h:okOp ops F o = true):guardOk ops F.n o = true:=by
 simp only [okOp,Bool.and_eq_true] at h
 exact h.1.1.2
theorem free_of_ok {ops:Array Oper} {F:Fm} {o:Oper} (h:okOp ops F o = true):F.free o.dst = true:=by
 simp only [okOp,Bool.and_eq_true] at h
 exact h.1.2
theorem okOp_at {ops:Array Oper} {F:Fm} {i:Nat} {o:Oper} (h:okOps F ops = true) (ho:ops[i]? = some o):okOp ops F o = true:=by
 unfold okOps at h
 rw [Array.all_eq_true_iff_forall_mem] at h
 exact h o (Array.mem_of_getElem? ho)
theorem wpOpIn_of_stepE {ro:Option Nat} {P:Program} {ops:Array Oper} {F:Fm} {ds:List Deferred} {i:Nat} {e:Env} {a:Act} {w:World} {C:Env → World → Prop} {Kp:List PanicEntry → World → Prop} {K:Act → World → Prop} {Q:Exit → Act → World → Prop}
  (hok:okOps F ops = true) (hr:Rep F ds e a) (h:stepE P ops i e w C Kp) (hk:∀ e a w,Rep F ds e a → C e w → K a w) (hp:∀ c w,Kp c w → ∀ a:Act,a.defers = ds → (∀ p ∈ F.fx,a.tmps.getD p.1 undef = p.2) → Q (.panic c) a w):wpOpIn (Wf ro) 0 P ops Q i K a w:=by
 unfold stepE at h
 unfold wpOpIn
 cases ho:ops[i]? with
 | none=>rw [ho] at h; exact hk _ _ _ hr h
 | some o=>
  rw [ho] at h
  have hoo:=okOp_at hok ho
  dsimp only at h ⊢
  rw [wanted_rep hr (guardOk_of_ok hoo)]
  by_cases hw:wantedE ops o e = true
  ·rw [if_pos hw] at h
   rw [if_pos hw]
   refine ⟨fun _ _=>trivial,?_⟩
   rw [semAt_of_ok hoo,execOp_rep hr hoo]
   exact good_uponIn h (fun v w hv=>hk _ _ _ (hr.put _ _ (free_of_ok hoo)) hv) (fun c w hc=>hp c w hc a hr.defers hr.at)
  ·rw [if_neg hw] at h
   rw [if_neg hw]
   exact ⟨fun _ _=>trivial,hk _ _ _ (hr.put _ _ (free_of_ok hoo)) h⟩
def seqE (P:Program) (ops:Array Oper) (C:Env → World → Prop) (Kp:List PanicEntry → World → Prop):List Nat → Env → World → Prop
 | [],e,w=>C e w
 | i :: l,e,w=>stepE P ops i e w (seqE P ops C Kp l) Kp
theorem wpOpsIn_of_seqE {ro:Option Nat} {P:Program} {ops:Array Oper} {F:Fm} {ds:List Deferred} {C:Env → World → Prop} {Kp:List PanicEntry → World → Prop} {Q:Exit → Act → World → Prop}
  (hok:okOps F ops = true) (hq:∀ e a w,Rep F ds e a → C e w → Q .normal a w) (hp:∀ c w,Kp c w → ∀ a:Act,a.defers = ds → (∀ p ∈ F.fx,a.tmps.getD p.1 undef = p.2) → Q (.panic c) a w) :
  ∀ (l:List Nat) (e:Env) (a:Act) (w:World),Rep F ds e a → seqE P ops C Kp l e w → wpOpsIn (Wf ro) 0 P ops Q l a w
 | [],e,a,w,hr,h=>hq e a w hr h
 | i :: l,e,a,w,hr,h=>by
  rw [wpOpsIn_cons]
  exact wpOpIn_of_stepE hok hr h (fun e a w hr hc=>wpOpsIn_of_seqE hok hq hp l e a w hr hc) hp
def maskOf (ops:Array Oper) (t:List Nat) (n:Nat):Nat:=
 match ops[n]? with
 | some o=>o.after.toList.foldl (fun m x=>bif Region.binds .any x && Nat.blt x.on n then m ||| t.getD x.on 0 ||| (1 <<< x.on) else m) 0
 | none=>0
def ancTab (ops:Array Oper) (n:Nat):List Nat:=(List.range n).foldl (fun t i=>t ++ [maskOf ops t i]) []
def pivotIn (ops:Array Oper) (t:List Nat) (j:Nat):Bool:=
 (List.range ops.size).all fun k=>k == j || (t.getD j 0).testBit k || (t.getD k 0).testBit j
def pivot (ops:Array Oper) (j:Nat):Bool:=pivotIn ops (ancTab ops ops.size) j
inductive IsAnc (ops:Array Oper):Nat → Nat → Prop
 | direct {i j:Nat} {o:Oper} {x:Edge} (h:ops[j]? = some o) (hx:x ∈ o.after) (hb:Region.binds .any x = true) (hi:x.on = i):IsAnc ops i j
 | trans {i m j:Nat} {o:Oper} {x:Edge} (h0:IsAnc ops i m) (h:ops[j]? = some o) (hx:x ∈ o.after) (hb:Region.binds .any x = true) (hi:x.on = m):IsAnc ops i j
def TabOk (ops:Array Oper) (t:List Nat):Prop:=∀ j i,(t.getD j 0).testBit i = true → IsAnc ops i j
theorem maskOf_spec {ops:Array Oper} {t:List Nat} (ht:TabOk ops t) (n i:Nat) (h:(maskOf ops t n).testBit i = true):IsAnc ops i n:=by
 unfold maskOf at h
 cases ho:ops[n]? with
 | none=>rw [ho] at h; simp at h
 | some o=>
  rw [ho] at h
  dsimp only at h
  have key:∀ (l:List Edge),(∀ x ∈ l,x ∈ o.after) → ∀ m:Nat,(m.testBit i = true → IsAnc ops i n) →
    (l.foldl (fun m x=>bif Region.binds .any x && Nat.blt x.on n then m ||| t.getD x.on 0 ||| (1 <<< x.on) else m) m).testBit i = true → IsAnc ops i n:=by
   intro l
   induction l with
   | nil=>exact fun _ m hm h=>hm h
   | cons x l ih=>
    intro hl m hm h
    rw [List.foldl_cons] at h
    refine ih (fun y hy=>hl y (List.mem_cons_of_mem _ hy)) _ ?_ h
    cases hb:(Region.binds .any x && Nat.blt x.on n) with
    | false=>exact hm
    | true=>
     simp only [cond_true,Nat.testBit_or,Bool.or_eq_true]
     simp only [Bool.and_eq_true] at hb
     rintro ((h | h) | h)
     ·exact hm h
     ·exact .trans (ht _ _ h) ho (hl x (by simp)) hb.1 rfl
     ·refine .direct ho (hl x (by simp)) hb.1 ?_
      rw [Nat.one_shiftLeft,Nat.testBit_two_pow] at h
      simpa using h
  exact key o.after.toList (fun x hx=>by simpa using hx) 0 (by simp) h
theorem ancTab_ok (ops:Array Oper) (n:Nat):TabOk ops (ancTab ops n) ∧ (ancTab ops n).length = n:=by
 induction n with
 | zero=>exact ⟨fun j i h=>by simp [ancTab] at h,rfl⟩
 | succ n ih=>
  have he:ancTab ops (n + 1) = ancTab ops n ++ [maskOf ops (ancTab ops n) n]:=by unfold ancTab; rw [List.range_succ,List.foldl_append]; rfl
  rw [he]
  refine ⟨fun j i h=>?_,by simp [ih.2]⟩
  by_cases hj:j < n
  ·rw [List.getD_eq_getElem?_getD,List.getElem?_append_left (by omega),← List.getD_eq_getElem?_getD] at h; exact ih.1 j i h
  ·by_cases hjn:j = n
   ·subst hjn
    rw [List.getD_eq_getElem?_getD,List.getElem?_append_right (by omega),ih.2,Nat.sub_self] at h
    exact maskOf_spec ih.1 _ _ h
   ·rw [List.getD_eq_getElem?_getD,List.getElem?_eq_none (by simp [ih.2]; omega)] at h; simp at h
def Down (ops:Array Oper) (listed:Array Bool):Prop:=
 ∀ j o,listed.getD j false = true → ops[j]? = some o → ∀ x ∈ o.after,Region.binds .any x = true → listed.getD x.on false = true
theorem Down.anc {ops:Array Oper} {listed:Array Bool} (hd:Down ops listed) {i j:Nat} (h:IsAnc ops i j) :
  (∀ o,ops[j]? = some o → ∀ x ∈ o.after,Region.binds .any x = true → listed.getD x.on false = true) → listed.getD i false = true:=by
 induction h with
 | direct h hx hb hi=>intro hp; rw [← hi]; exact hp _ h _ hx hb
 | trans h0 h hx hb hi ih=>intro hp; exact ih fun o ho y hy hyb=>hd _ o (by rw [← hi]; exact hp _ h _ hx hb) ho y hy hyb
def anyE (P:Program) (ops:Array Oper) (C:Env → World → Prop) (Kp:List PanicEntry → World → Prop):Nat → (World → Prop) → Array Bool → Env → World → Prop
 | 0,_,listed,e,w=>Region.ready .any ops listed = [] ∧ C e w
 | f + 1,S,listed,e,w=>
  (Region.ready .any ops listed = [] → C e w) ∧
  ∀ i ∈ Region.ready .any ops listed,stepE P ops i e w (fun e' w'=>
   (pivot ops i = true ∧ ∃ S':World → Prop,S' w' ∧ anyE P ops C Kp f S' (listed.setIfInBounds i true) e' w') ∨
   (S w' ∧ anyE P ops C Kp f S (listed.setIfInBounds i true) e' w')) Kp
theorem wpAnyIn_of_anyE {ro:Option Nat} {P:Program} {ops:Array Oper} {F:Fm} {ds:List Deferred} {C:Env → World → Prop} {Kp:List PanicEntry → World → Prop} {Q:Exit → Act → World → Prop}
  (hok:okOps F ops = true) (hq:∀ e a w,Rep F ds e a → C e w → Q .normal a w) (hp:∀ c w,Kp c w → ∀ a:Act,a.defers = ds → (∀ p ∈ F.fx,a.tmps.getD p.1 undef = p.2) → Q (.panic c) a w) :
  ∀ (f:Nat) (S:World → Prop) (listed:Array Bool) (e:Env) (a:Act) (w:World),Rep F ds e a → anyE P ops C Kp f S listed e w → wpAnyIn (Wf ro) 0 P .any ops Q f listed a w
 | 0,S,listed,e,a,w,hr,h=>⟨h.1,hq e a w hr h.2⟩
 | f + 1,S,listed,e,a,w,hr,h=>by
  refine ⟨fun h0=>hq e a w hr (h.1 h0),fun i hi=>?_⟩
  refine wpOpIn_of_stepE hok hr (h.2 i hi) (fun e' a' w' hr' hc=>?_) hp
  rcases hc with ⟨_,S',_,hc⟩ | ⟨_,hc⟩
  ·exact wpAnyIn_of_anyE hok hq hp f S' _ e' a' w' hr' hc
  ·exact wpAnyIn_of_anyE hok hq hp f S _ e' a' w' hr' hc
def YieldsE (P:Program) (ops:Array Oper) (S:World → Prop) (o:Oper) (v:Value) (e:Env):Prop:=
 (wantedE ops o e = true ∧ ∀ w,S w → (execOp (ev e) o).run P w = .ok (.value v) w) ∨ (wantedE ops o e = false ∧ v = undef)
theorem updO_comm (e:Env) {x y:Option Nat} (v u:Value) (h:∀ d,x = some d → y ≠ some d):updO (updO e x v) y u = updO (updO e y u) x v:=by
 cases x with
 | none=>rfl
 | some d=>
  cases y with
  | none=>rfl
  | some d'=>
   have hne:d ≠ d':=fun he=>h d rfl (by rw [he])
   funext t
   simp only [updO]
   by_cases h1:t = d'
   ·subst h1
    rw [upd_same,upd_other _ _ _ _ (fun e=>hne e.symm),upd_same]
   ·rw [upd_other _ _ _ _ h1]
    by_cases h2:t = d
    ·subst h2; rw [upd_same,upd_same]
    ·rw [upd_other _ _ _ _ h2,upd_other _ _ _ _ h2,upd_other _ _ _ _ h1]
theorem ev_updO (e:Env) {d:Option Nat} {v:Value} {x:Operand} (h:∀ t,d = some t → x ≠ .tmp t):ev (updO e d v) x = ev e x:=by
 cases d with
 | none=>rfl
 | some d=>
  cases x with
  | tmp t=>exact upd_other _ _ _ _ (fun he=>h d rfl (by rw [he]))
  | _=>rfl
theorem execOp_updO {ops:Array Oper} (o:Oper) (hs:∀ cs b,o.op ≠ .select cs b) (e:Env) (d:Option Nat) (v:Value) (h:∀ t,d = some t → t ∉ o.looksAt ops):execOp (ev (updO e d v)) o = execOp (ev e) o:=
 execOp_congr o hs fun x hx=>ev_updO e fun t ht hxt=>h t ht (by
  subst hxt
  exact List.mem_append_left _ (List.mem_filterMap.2 ⟨.tmp t,by simpa using hx,rfl⟩))
theorem wantedE_updO {ops:Array Oper} {n:Nat} (o:Oper) (hok:guardOk ops n o = true) (e:Env) (d:Option Nat) (v:Value) (h:∀ t,d = some t → t ∉ o.looksAt ops):wantedE ops o (updO e d v) = wantedE ops o e:=by
 cases d with
 | none=>rfl
 | some d=>
  unfold guardOk at hok
  unfold wantedE guardSlot
  cases hg:o.guard with
  | none=>rfl
  | some g=>
   obtain ⟨j,want⟩:=g
   rw [hg] at hok
   dsimp only at hok ⊢
   cases hd:(ops[j]?).bind (·.dst) with
   | none=>rw [hd] at hok; cases hok
   | some t=>
    dsimp only
    have hne:t ≠ d:=fun he=>h d rfl (by subst he; simp [Oper.looksAt,hg,hd])
    rw [updO,upd_other _ _ _ _ hne]
theorem YieldsE.stepE {P:Program} {ops:Array Oper} {S:World → Prop} {i:Nat} {o:Oper} {v:Value} {e:Env} {w:World} {C:Env → World → Prop} {Kp:List PanicEntry → World → Prop}
  (hi:ops[i]? = some o) (hy:YieldsE P ops S o v e) (hS:S w) (h:C (updO e o.dst v) w):stepE P ops i e w C Kp:=by
 unfold Fw.stepE
 rw [hi]
 rcases hy with ⟨h1,h2⟩ | ⟨h1,rfl⟩
 ·dsimp only; rw [if_pos h1,h2 w hS]; exact h
 ·dsimp only; rw [if_neg (by rw [h1]; simp)]; exact h
theorem stepE_put {P:Program} {ops:Array Oper} {F:Fm} {S:World → Prop} {j:Nat} {oi oj:Oper} {v:Value} {e:Env} {w:World} {C:Env → World → Prop} {Kp:List PanicEntry → World → Prop}
  (hj:ops[j]? = some oj) (hap:oi.apart ops oj = true) (hoi:okOp ops F oi = true) (hoj:okOp ops F oj = true)
  (hy:YieldsE P ops S oi v e) (h:stepE P ops j (updO e oi.dst v) w C Kp):stepE P ops j e w (fun e' w'=>YieldsE P ops S oi v e' ∧ C (updO e' oi.dst v) w') Kp:=by
 obtain ⟨h1,h2,h3⟩:=Oper.apart_spec hap
 have keep:∀ u,YieldsE P ops S oi v (updO e oj.dst u):=fun u=>by
  unfold YieldsE at *
  rw [execOp_updO oi (noSelect_of_ok hoi) e oj.dst u h3,wantedE_updO oi (guardOk_of_ok hoi) e oj.dst u h3]
  exact hy
 unfold stepE at *
 rw [hj] at h ⊢
 dsimp only at h ⊢
 rw [wantedE_updO oj (guardOk_of_ok hoj) e oi.dst v h1,execOp_updO oj (noSelect_of_ok hoj) e oi.dst v h1] at h
 by_cases hw:wantedE ops oj e = true
 ·rw [if_pos hw] at h ⊢
  exact Good.mono h (fun u w' hu=>⟨keep u,by rw [← updO_comm e v u h2]; exact hu⟩) (fun _ _ h=>h)
 ·rw [if_neg hw] at h ⊢
  exact ⟨keep undef,by rw [← updO_comm e v undef h2]; exact h⟩
theorem Down.set {ops:Array Oper} {listed:Array Bool} (hd:Down ops listed) {i:Nat} (hi:i ∈ Region.ready .any ops listed):Down ops (listed.setIfInBounds i true):=by
 obtain ⟨hi0,oi,hoi,hia⟩:=mem_ready.1 hi
 have up:∀ k,listed.getD k false = true → (listed.setIfInBounds i true).getD k false = true:=fun k hk=>by
  by_cases hki:i = k
  ·subst hki
   by_cases hlt:i < listed.size
   ·simp [hlt]
   ·simp [hlt] at hk
  ·rw [show (listed.setIfInBounds i true).getD k false = listed.getD k false by simp [Array.getD_eq_getD_getElem?,Array.getElem?_setIfInBounds_ne hki]]; exact hk
 intro j o hj ho x hx hb
 by_cases hji:i = j
 ·subst hji
  rw [hoi] at ho; cases ho
  exact up _ (hia x hx hb)
 ·rw [show (listed.setIfInBounds i true).getD j false = listed.getD j false by simp [Array.getD_eq_getD_getElem?,Array.getElem?_setIfInBounds_ne hji]] at hj
  exact up _ (hd j o hj ho x hx hb)
theorem Down.start (ops:Array Oper) (n:Nat):Down ops (Array.replicate n false):=fun j o hj=>by
 by_cases hlt:j < n <;> simp [Array.getD,hlt] at hj
theorem not_both_of_pivot {ops:Array Oper} {i j:Nat} {listed:Array Bool} (hd:Down ops listed) (hp:pivot ops j = true) (hi:i ∈ Region.ready .any ops listed) (hj:j ∈ Region.ready .any ops listed):i = j:=by
 obtain ⟨hi0,oi,hoi,hia⟩:=mem_ready.1 hi
 obtain ⟨hj0,oj,hoj,hja⟩:=mem_ready.1 hj
 have hil:i < ops.size:=(Array.getElem?_eq_some_iff.1 hoi).1
 unfold pivot pivotIn at hp
 rw [List.all_eq_true] at hp
 have h:=hp i (by simp [hil])
 simp only [Bool.or_eq_true,beq_iff_eq] at h
 have hsz:∀ k,listed.getD k true = false → listed.getD k false = false:=fun k hk=>by
  by_cases hlt:k < listed.size
  ·simpa [hlt] using hk
  ·simp [hlt] at hk
 have ok:=(ancTab_ok ops ops.size).1
 rcases h with (h | h) | h
 ·exact h
 ·have:listed.getD i false = true:=hd.anc (ok _ _ h) (fun o ho=>by rw [hoj] at ho; cases ho; exact hja)
  rw [hsz i hi0] at this; cases this
 ·have:listed.getD j false = true:=hd.anc (ok _ _ h) (fun o ho=>by rw [hoi] at ho; cases ho; exact hia)
  rw [hsz j hj0] at this; cases this
theorem anyE_first {P:Program} {ops:Array Oper} {F:Fm} {S:World → Prop} {i:Nat} {oi:Oper} {v:Value} {C:Env → World → Prop} {Kp:List PanicEntry → World → Prop} (hok:okOps F ops = true) (hi:ops[i]? = some oi) :
  ∀ (f:Nat) (listed:Array Bool) (e:Env) (w:World),Down ops listed →
   (∀ j oj,ops[j]? = some oj → j ≠ i → listed.getD j true = false → (∀ x ∈ oj.after,Region.binds .any x = true → x.on ≠ i) → oi.apart ops oj = true) →
   i ∈ Region.ready .any ops listed → S w → YieldsE P ops S oi v e →
   anyE P ops C Kp f S (listed.setIfInBounds i true) (updO e oi.dst v) w → anyE P ops C Kp (f + 1) S listed e w:=by
 intro f
 induction f with
 | zero=>
  intro listed e w _ _ hr hS hy H
  refine ⟨fun h=>(by rw [h] at hr; cases hr),fun j hj=>?_⟩
  by_cases hji:j = i
  ·subst hji; exact hy.stepE hi hS (.inr ⟨hS,H⟩)
  ·have:=ready_mono hj hji
   rw [H.1] at this
   cases this
 | succ f ih=>
  intro listed e w hdn hfree hr hS hy H
  refine ⟨fun h=>(by rw [h] at hr; cases hr),fun j hj=>?_⟩
  by_cases hji:j = i
  ·subst hji; exact hy.stepE hi hS (.inr ⟨hS,H⟩)
  ·have h1:=H.2 j (ready_mono hj hji)
   obtain ⟨hjun,oj,hoj,hall⟩:=mem_ready.1 hj
   have hnot:∀ x ∈ oj.after,Region.binds .any x = true → x.on ≠ i:=fun x hx hb heq=>by
    have h1:=hall x hx hb
    have h0:=(mem_ready.1 hr).1
    rw [heq] at h1
    by_cases h':i < listed.size
    ·simp [h'] at h0 h1; rw [h0] at h1; cases h1
    ·simp [h'] at h1
   have h2:=stepE_put (F:=F) hoj (hfree j oj hoj hji hjun hnot) (okOp_at hok hi) (okOp_at hok hoj) hy h1
   have hfree':∀ k ok,ops[k]? = some ok → k ≠ i → (listed.setIfInBounds j true).getD k true = false →
     (∀ x ∈ ok.after,Region.binds .any x = true → x.on ≠ i) → oi.apart ops ok = true:=fun k ok hk hki hun hno=>by
    refine hfree k ok hk hki ?_ hno
    by_cases hjk:j = k
    ·subst hjk; exact hjun
    ·rw [getD_set_ne true hjk] at hun; exact hun
   refine stepE_mono h2 fun e' w' h3=>?_
   obtain ⟨hy',h3⟩:=h3
   rcases h3 with ⟨hp,_⟩ | ⟨hS',h3⟩
   ·exact absurd (not_both_of_pivot hdn hp hr hj) (fun h=>hji h.symm)
   ·refine .inr ⟨hS',ih (listed.setIfInBounds j true) e' w' (hdn.set hj) hfree' (ready_mono hr (Ne.symm hji)) hS' hy' ?_⟩
    rw [Array.setIfInBounds_comm _ _ hji]
    exact h3
end Go.Proofs.YtffdjfkekdoeaaaDoor.Fw
end
section
namespace Go.Proofs.YtffdjfkekdoeaaaDoor.Fw
def litOf (kn:List Nat) (o:Oper):Bool:=
 match o.op with
 | .pick (.tmp c) _ _=>kn.contains c
 | _=>false
def knownX (kn:List Nat):Operand → Bool
 | .tmp t=>kn.contains t
 | .const _=>true
 | _=>false
def knAfter (kn:List Nat) (o:Oper) (e:Env):List Nat:=
 match o.dst with
 | none=>kn
 | some d=>
  match o.op with
  | .move x=>bif knownX kn x then d :: kn else kn
  | .assign x=>bif knownX kn x then d :: kn else kn
  | .pick c a b=>
   bif knownX kn c then
    match ev e c with
    | .bool true=>bif knownX kn a then d :: kn else kn
    | .bool false=>bif knownX kn b then d :: kn else kn
    | _=>kn
   else kn
  | _=>kn
def gateW (ops:Array Oper) (kn:List Nat) (o:Oper) (e:Env) (F:Bool → List Nat → Env → Prop):Prop:=
 match guardSlot ops o with
 | none=>F true kn e
 | some (d,want)=>
  bif kn.contains d then
   match e d with
   | .bool true=>F want kn e
   | .bool false=>F (!want) kn e
   | _=>F false kn e
  else
   match e d with
   | .bool b=>Br b (F want (d :: kn) (upd e d (.bool true))) (F (!want) (d :: kn) (upd e d (.bool false)))
   | _=>F false kn e
theorem gateW_spec {ops:Array Oper} {kn:List Nat} {o:Oper} {e:Env} {F:Bool → List Nat → Env → Prop} (h:gateW ops kn o e F):∃ kn',F (wantedE ops o e) kn' e:=by
 unfold gateW at h
 unfold wantedE
 split at h
 ·rename_i hg; (try rw [hg]); exact ⟨_,h⟩
 ·rename_i d want hg
  (try rw [hg])
  (try dsimp only)
  cases hk:kn.contains d with
  | true=>
   rw [hk] at h
   simp only [cond_true] at h
   split at h
   ·rename_i hb; rw [hb]; exact ⟨kn,by cases want <;> exact h⟩
   ·rename_i hb; rw [hb]; exact ⟨kn,by cases want <;> exact h⟩
   ·rename_i h1 h2
    refine ⟨kn,?_⟩
    have:isBool (e d) want = false:=by
     unfold isBool
     split
     ·rename_i b hb; cases b
      ·exact absurd hb h2
      ·exact absurd hb h1
     ·rfl
    rw [this]; exact h
  | false=>
   rw [hk] at h
   simp only [cond_false] at h
   split at h
   ·rename_i b hb
    have hself:∀ c,e d = .bool c → upd e d (.bool c) = e:=fun c hc=>by rw [← hc]; exact upd_self e d
    cases b with
    | true=>
     have:=h.1 rfl
     rw [hself true hb] at this
     exact ⟨_,by rw [hb]; cases want <;> exact this⟩
    | false=>
     have:=h.2 rfl
     rw [hself false hb] at this
     exact ⟨_,by rw [hb]; cases want <;> exact this⟩
   ·rename_i h1
    refine ⟨kn,?_⟩
    have:isBool (e d) want = false:=by
     unfold isBool
     split
     ·rename_i b hb; exact absurd hb (h1 b)
     ·rfl
    rw [this]; exact h
def seqW (P:Program) (ops:Array Oper) (K:Env → World → Prop) (Kp:List PanicEntry → World → Prop):List Nat → List Nat → Env → World → Prop
 | [],_,e,w=>K e w
 | i :: l,kn,e,w=>
  match ops[i]? with
  | none=>False
  | some o=>gateW ops kn o e fun run kn e=>
   match run with
   | true=>opw P (litOf kn o) o e w (fun v w'=>seqW P ops K Kp l (knAfter kn o e) (updO e o.dst v) w') Kp
   | false=>seqW P ops K Kp l kn (updO e o.dst undef) w
theorem seqE_of_seqW {P:Program} {ops:Array Oper} {K:Env → World → Prop} {Kp:List PanicEntry → World → Prop} :
  ∀ (l kn:List Nat) (e:Env) (w:World),seqW P ops K Kp l kn e w → seqE P ops K Kp l e w
 | [],_,_,_,h=>h
 | i :: l,kn,e,w,h=>by
  unfold seqW at h
  unfold seqE stepE
  cases ho:ops[i]? with
  | none=>rw [ho] at h; exact h.elim
  | some o=>
   rw [ho] at h
   dsimp only at h ⊢
   obtain ⟨kn',h⟩:=gateW_spec h
   by_cases hw:wantedE ops o e = true
   ·rw [if_pos hw]
    rw [hw] at h
    exact Good.mono (opw_good h) (fun v w' hv=>seqE_of_seqW l _ _ _ hv) (fun _ _ h=>h)
   ·rw [if_neg hw]
    rw [Bool.eq_false_iff.2 hw] at h
    exact seqE_of_seqW l _ _ _ h
def RunQ (P:Program) (ty:TypeId) (S:World → Prop) (s:Sem Value) (K:Value → Prop):Prop:=
 match P.underlying ty with
 | some (.tuple es)=>∃ x,(∀ w',S w' → s.run P w' = .ok (.tuple (tvals (tysOf P es) x).toArray) w') ∧ K (.tuple (tvals (tysOf P es) x).toArray)
 | _=>∃ x,(∀ w',S w' → s.run P w' = .ok ((tyOf P ty).val x) w') ∧ K ((tyOf P ty).val x)
theorem RunQ.run {P:Program} {ty:TypeId} {S:World → Prop} {s:Sem Value} {K:Value → Prop} (h:RunQ P ty S s K):∃ v,(∀ w',S w' → s.run P w' = .ok v w') ∧ K v:=by
 unfold RunQ at h
 split at h
 ·obtain ⟨x,h1,h2⟩:=h; exact ⟨_,h1,h2⟩
 ·obtain ⟨x,h1,h2⟩:=h; exact ⟨_,h1,h2⟩
def HoldsT (w:World) (a:Addr) (t:Ty) (x:t.den):Prop:=
 match t,x with
 | .sc s,x=>w.cell? a = some (s.val x)
 | .agg l,x=>Holds w a 0 (vals l x)
def LoadS (S:World → Prop) (t:Ty) (a:Addr) (K:t.den → Prop):Prop:=∃ x,(∀ w',S w' → HoldsT w' a t x) ∧ K x
def quietK (P:Program) (o:Oper):Bool:=
 match o.op with
 | .move _ | .assign _ | .pick _ _ _ | .build _ _ | .load _ _ | .nilCheck _ | .binOp _ _ _ _ _ | .unOp _ _ _ | .makeFunc _ _ _ | .makeInterface _ _ | .fieldAddr _ _ _ | .field _ _ _
 | .indexAddr _ _ _ | .index _ _ _ | .extract _ _ | .slice _ _ _ _ _ | .lookup _ _ _ _=>true
 | .convert _ d _=>match P.underlying d with | some (.int _)=>true | _=>false
 | .call c=>match c.callee with | .builtin .len=>true | .builtin .max=>true | .builtin .min=>true | _=>false
 | _=>false
def opR (P:Program) (lit:Bool) (LD:(t:Ty) → Addr → (t.den → Prop) → Prop) (RN:TypeId → Sem Value → (Value → Prop) → Prop) (o:Oper) (e:Env) (K:Value → Prop):Prop:=
 match o.op with
 | .load t x=>
  match ev e x with
  | .pointer (some a)=>
   match tyOf P t with
   | .sc s=>bif (P.underlying t).isSome then LD (.sc s) a fun y=>K (s.val y) else False
   | .agg l=>bif Nat.beq (sizeP P t) l.length && (P.info? t).isSome then LD (.agg l) a fun y=>K (.agg (vals l y).toArray) else False
  | _=>False
 | .binOp op xt x y _=>binW P op xt x y (ev e x) (ev e y) K (fun s=>RN o.type s K)
 | .unOp .not _ x=>
  match ev e x with
  | .bool b=>K (.bool (!b))
  | _=>False
 | .unOp op _ x=>RN o.type (Op.unary op (ev e x)) K
 | .convert s d x=>RN o.type (convert s d (ev e x)) K
 | .slice t x lo hi mx=>RN o.type (Instr.sliceAt t (ev e x) (lo.map (ev e)) (hi.map (ev e)) (mx.map (ev e))) K
 | .index t x i=>
  match P.underlying t with
  | some .string=>
   match ev e x with
   | .string s=>
    match ev e i with
    | .int _ i=>StrIdx s i fun b=>K (.int .u8 b)
    | _=>False
   | _=>False
  | _=>RN o.type (Instr.index t (ev e x) (ev e i)) K
 | .lookup t x i ok=>RN o.type (Instr.lookup t (ev e x) (ev e i) ok) K
 | .call c=>
  match c.callee with
  | .builtin .len=>
   match (c.args.map (ev e)).toList,c.argTypes.toList with
   | [.slice _ n _],[t]=>bif isLenT P t && !isStrT P t then K (.int .i64 (n:Int)) else False
   | [.string s],[t]=>bif isStrT P t then K (.int .i64 (s.size:Int)) else False
   | _,_=>RN o.type (Builtin.len_ c.argTypes o.type (c.args.map (ev e))) K
  | .builtin .max=>RN o.type (Builtin.max_ c.argTypes o.type (c.args.map (ev e))) K
  | .builtin .min=>RN o.type (Builtin.min_ c.argTypes o.type (c.args.map (ev e))) K
  | _=>False
 | _=>opw P lit o e default (fun v _=>K v) (fun _ _=>False)
theorem opR_yields {P:Program} {lit:Bool} {S:World → Prop} {LD:(t:Ty) → Addr → (t.den → Prop) → Prop} {RN:TypeId → Sem Value → (Value → Prop) → Prop}
  (hLD:∀ t a K,LD t a K → ∃ x,(∀ w',S w' → HoldsT w' a t x) ∧ K x) (hRN:∀ ty s K,RN ty s K → ∃ v,(∀ w',S w' → s.run P w' = .ok v w') ∧ K v)
  {o:Oper} {e:Env} {K:Value → Prop} (hq:quietK P o = true) (h:opR P lit LD RN o e K):∃ v,(∀ w',S w' → (execOp (ev e) o).run P w' = .ok (.value v) w') ∧ K v:=by
 obtain ⟨dst,op,ty,pos,after,guard⟩:=o
 have hrun:∀ {s:Sem Value},RN ty s K → ∃ v,(∀ w',S w' → (do pure (.value (← s)):Sem Next).run P w' = .ok (.value v) w') ∧ K v:=fun {s} hs=>by
  obtain ⟨v,h1,h2⟩:=hRN _ _ _ hs
  exact ⟨v,fun w' hw=>by simp [h1 w' hw],h2⟩
 cases op <;> first | (exfalso; revert hq; simp [quietK]; done) | skip
 case load t x=>
  simp only [opR] at h
  simp only [execOp]
  split at h
  ·rename_i a ha
   rw [ha]
   unfold tyOf at h
   cases hu:P.underlying t with
   | none=>
    have hag:isAggT P t = false:=by unfold isAggT; rw [hu]
    rw [hag,hu] at h
    exact h.elim
   | some d=>
   cases hag:isAggT P t with
   | false=>
    rw [hag,hu] at h
    obtain ⟨x,hc,hk⟩:=hLD _ _ _ h
    refine ⟨_,fun w' hw=>?_,hk⟩
    have hc:=hc w' hw
    simp only [HoldsT] at hc
    simp [Instr.loadAt,Instr.sureAddr,loadVar,run_isAgg hu,hag,hc]
   | true=>
    rw [hag] at h
    simp only [cond_true] at h
    cases hb:(Nat.beq (sizeP P t) (scsOf P 8 t).length && (P.info? t).isSome) with
    | false=>rw [hb] at h; exact h.elim
    | true=>
     rw [hb] at h
     obtain ⟨x,hc,hk⟩:=hLD _ _ _ h
     simp only [Bool.and_eq_true] at hb
     have hlen:(vals (scsOf P 8 t) x).length = (scsOf P 8 t).length:=vals_length _ _
     have hsz:sizeP P t = (vals (scsOf P 8 t) x).length:=by rw [hlen]; exact Nat.eq_of_beq_eq_true hb.1
     refine ⟨_,fun w' hw=>?_,hk⟩
     have hc:=hc w' hw
     simp only [HoldsT] at hc
     simp only [Instr.loadAt,Instr.sureAddr,loadVar,Sem.run_bind,Sem.run_pure,Result.andThen_ok,run_isAgg hu,hag,if_true,run_sizeOf_some hb.2,hsz,run_loadCells_holds hc]
  ·exact h.elim
 case binOp op xt x y yt=>
  simp only [opR] at h
  simp only [execOp]
  rcases run_binW h with ⟨v,h1,h2⟩ | h
  ·exact ⟨v,fun w' _=>by rw [Sem.run_bind,h1 w']; rfl,h2⟩
  ·exact hrun h
 case unOp op xt x=>
  simp only [execOp]
  cases op with
  | not=>
   simp only [opR] at h
   split at h
   ·rename_i b hb
    rw [hb]
    exact ⟨.bool (!b),fun w' _=>by simp [Op.unary],h⟩
   ·exact h.elim
  | _=>exact hrun h
 case convert s d x=>exact hrun h
 case slice t x lo hi mx=>exact hrun h
 case lookup t x i ok=>exact hrun h
 case index t x i=>
  simp only [opR] at h
  simp only [execOp]
  split at h
  ·rename_i hu
   split at h
   ·rename_i s hx
    split at h
    ·rename_i k i hi
     obtain ⟨h1,h2,h3⟩:=h
     rw [hx,hi]
     refine ⟨_,fun w' _=>?_,h3⟩
     simp [Instr.index,asIntOf,run_underlying_some hu,h1,h2]
    ·exact h.elim
   ·exact h.elim
  ·exact hrun h
 case call c=>
  obtain ⟨callee,args,argTypes⟩:=c
  simp only [opR] at h
  simp only [execOp]
  cases callee with
  | value f=>exact absurd hq (by simp [quietK])
  | invoke r m=>exact absurd hq (by simp [quietK])
  | builtin b=>
   cases b <;> first | (exfalso; revert hq; simp [quietK]; done) | skip
   case max=>exact hrun h
   case min=>exact hrun h
   case len=>
    have hlen:(do let d ← resolve (ev e) ⟨.builtin .len,args,argTypes⟩ ty; invoke d.target d.args:Sem Next) = (do pure (.value (← Builtin.len_ argTypes ty (args.map (ev e)))):Sem Next):=rfl
    rw [hlen]
    dsimp only at h
    split at h
    ·rename_i a n c t h1 h2
     have e1:args.map (ev e) = #[.slice a n c]:=by rw [← Array.toList_inj]; exact h1
     have e2:argTypes = #[t]:=by rw [← Array.toList_inj]; exact h2
     rw [e1,e2]
     cases hl:(isLenT P t && !isStrT P t) with
     | false=>rw [hl] at h; exact h.elim
     | true=>
      rw [hl] at h
      simp only [Bool.and_eq_true,Bool.not_eq_true'] at hl
      obtain ⟨hl1,hl2⟩:=hl
      unfold isLenT at hl1
      split at hl1
      ·rename_i hu; simp [isStrT,hu] at hl2
      ·rename_i el hu
       exact ⟨.int .i64 (n:Int),fun w' _=>by simp [Builtin.len_,run_underlying_some hu,goInt],h⟩
      ·cases hl1
    ·rename_i s t h1 h2
     have e1:args.map (ev e) = #[.string s]:=by rw [← Array.toList_inj]; exact h1
     have e2:argTypes = #[t]:=by rw [← Array.toList_inj]; exact h2
     rw [e1,e2]
     cases hl:isStrT P t with
     | false=>rw [hl] at h; exact h.elim
     | true=>
      rw [hl] at h
      unfold isStrT at hl
      split at hl
      ·rename_i hu
       exact ⟨.int .i64 (s.size:Int),fun w' _=>by simp [Builtin.len_,run_underlying_some hu,goInt],h⟩
      ·cases hl
    ·exact hrun h
 case move x=>exact ⟨_,fun w' _=>rfl,h⟩
 case assign x=>exact ⟨_,fun w' _=>rfl,h⟩
 case makeFunc fn fi ca=>exact ⟨_,fun w' _=>rfl,h⟩
 all_goals
  simp only [opR,opw] at h
  simp only [execOp]
 case pick c a b=>
  split at h
  ·rename_i t ht
   rw [ht]
   cases lit with
   | true=>cases t <;> exact ⟨_,fun w' _=>rfl,h⟩
   | false=>cases t with
    | true=>exact ⟨_,fun w' _=>rfl,h.1 rfl⟩
    | false=>exact ⟨_,fun w' _=>rfl,h.2 rfl⟩
  ·exact h.elim
 case build t ps=>
  split at h
  ·rename_i v hv; exact ⟨v,fun w' _=>by rw [Sem.run_bind,run_build hv]; rfl,h⟩
  ·exact h.elim
 case nilCheck x=>
  split at h
  ·rename_i p hp
   obtain ⟨a,rfl,hk⟩:=h
   rw [hp]; exact ⟨_,fun w' _=>rfl,hk⟩
  ·rename_i f fi ca hf
   rw [hf]; exact ⟨_,fun w' _=>rfl,h⟩
  ·rename_i l fi ca hf
   rw [hf]; exact ⟨_,fun w' _=>rfl,h⟩
  ·exact h.elim
 case makeInterface xt x=>
  split at h
  ·exact h.elim
  ·rename_i d hd hu
   refine ⟨.iface xt (ev e x),fun w' _=>?_,h⟩
   simp only [Instr.makeInterface,Sem.run_bind,run_underlying_some hu,Result.andThen_ok]
   cases d <;> first | rfl | exact absurd rfl (hd _)
  ·exact h.elim
 case fieldAddr s x f=>
  split at h
  ·rename_i a ha
   split at h
   ·rename_i off t hf
    cases hb:Nat.blt 0 (sizeP P t) with
    | false=>rw [hb] at h; exact h.elim
    | true=>
     rw [hb] at h
     rw [ha]
     exact ⟨_,fun w' _=>by rw [Sem.run_bind,run_fieldAt hf (by simpa using hb)]; rfl,h⟩
   ·exact h.elim
  ·exact h.elim
 case field s x f=>
  split at h
  ·rename_i cs hc
   rw [hc]
   split at h
   ·rename_i off t hf
    unfold fieldOff at hf
    split at hf
    ·rename_i fs hu
     cases hx:fs[f]? with
     | none=>simp [hx] at hf
     | some x=>
      simp only [hx,Option.map_some,Option.some.injEq,Prod.mk.injEq] at hf
      obtain ⟨rfl,rfl⟩:=hf
      obtain ⟨v,h1,h2⟩:=partW_any h
      exact ⟨v,fun w' _=>by simp [Instr.field,run_underlying_some hu,hx,asAgg,h1 w'],h2⟩
    ·cases hf
   ·exact h.elim
  ·exact h.elim
 case indexAddr t x i=>
  split at h
  ·rename_i el hu
   split at h
   ·rename_i b n c hx
    split at h
    ·rename_i k i hi
     cases h0:(P.info? el).isSome with
     | false=>rw [h0] at h; exact h.elim
     | true=>
     rw [h0] at h
     obtain ⟨a,rfl,h1,h2,h3⟩:=h
     rw [hx,hi]
     exact ⟨_,fun w' _=>by simp [Instr.indexAt,asIntOf,run_underlying_some hu,h1,h2,run_sizeOf_some h0],h3⟩
    ·exact h.elim
   ·exact h.elim
  ·rename_i len el hu
   split at h
   ·rename_i a hx
    split at h
    ·rename_i k i hi
     cases h0:(P.info? el).isSome with
     | false=>rw [h0] at h; exact h.elim
     | true=>
     rw [h0] at h
     obtain ⟨a',ha,h1,h2,h3⟩:=h
     cases ha
     rw [hx,hi]
     exact ⟨_,fun w' _=>by simp [Instr.indexAt,asIntOf,run_underlying_some hu,h1,h2,run_sizeOf_some h0,Instr.sureAddr],h3⟩
    ·exact h.elim
   ·exact h.elim
  ·exact h.elim
 case extract t i=>
  split at h
  ·rename_i vs hv
   rw [hv]
   split at h
   ·rename_i v hi
    exact ⟨v,fun w' _=>by simp [Instr.extract,hi],h⟩
   ·exact h.elim
  ·exact h.elim
end Go.Proofs.YtffdjfkekdoeaaaDoor.Fw
end
section
namespace Go.Proofs.YtffdjfkekdoeaaaDoor.Fw
def RunA (P:Program) (ty:TypeId) (w:World) (s:Sem Value) (K:Value → Prop):Prop:=
 match P.underlying ty with
 | some (.tuple es)=>∃ x,s.run P w = .ok (.tuple (tvals (tysOf P es) x).toArray) w ∧ K (.tuple (tvals (tysOf P es) x).toArray)
 | _=>∃ x,s.run P w = .ok ((tyOf P ty).val x) w ∧ K ((tyOf P ty).val x)
theorem RunA.run {P:Program} {ty:TypeId} {w:World} {s:Sem Value} {K:Value → Prop} (h:RunA P ty w s K):∃ v,s.run P w = .ok v w ∧ K v:=by
 unfold RunA at h
 split at h
 ·obtain ⟨x,h1,h2⟩:=h; exact ⟨_,h1,h2⟩
 ·obtain ⟨x,h1,h2⟩:=h; exact ⟨_,h1,h2⟩
theorem LoadT.holds {t:Ty} {w:World} {a:Addr} {K:t.den → Prop} (h:LoadT t w a K):∃ x,HoldsT w a t x ∧ K x:=by
 cases t <;> exact h
def autoW (P:Program) (ops:Array Oper) (K:Env → World → Prop) (Kp:List PanicEntry → World → Prop):List Nat → List Nat → Env → World → Prop
 | [],_,e,w=>K e w
 | i :: l,kn,e,w=>
  match ops[i]? with
  | none=>False
  | some o=>gateW ops kn o e fun run kn e=>
   match run with
   | true=>
    bif quietK P o then opR P (litOf kn o) (fun t a K=>LoadT t w a K) (fun ty s K=>RunA P ty w s K) o e fun v=>autoW P ops K Kp l (knAfter kn o e) (updO e o.dst v) w
    else opw P (litOf kn o) o e w (fun v w'=>autoW P ops K Kp l (knAfter kn o e) (updO e o.dst v) w') Kp
   | false=>autoW P ops K Kp l kn (updO e o.dst undef) w
def autoFrom (P:Program) (ops:Array Oper):List Nat → Array Bool → Bool
 | [],listed=>(Region.ready .any ops listed).isEmpty
 | i :: l,listed=>
  (Region.ready .any ops listed).contains i && (match ops[i]? with
   | some o=>bif quietK P o then Region.free .any ops listed i else pivot ops i
   | none=>false) && autoFrom P ops l (listed.setIfInBounds i true)
theorem anyE_of_autoW {P:Program} {ops:Array Oper} {F:Fm} {K:Env → World → Prop} {Kp:List PanicEntry → World → Prop} (hok:okOps F ops = true) :
  ∀ (l kn:List Nat) (listed:Array Bool) (e:Env) (w:World),Down ops listed → autoFrom P ops l listed = true → autoW P ops K Kp l kn e w → anyE P ops K Kp l.length (fun w'=>w' = w) listed e w
 | [],kn,listed,e,w,hd,hb,h=>⟨by simpa [autoFrom] using hb,h⟩
 | i :: l,kn,listed,e,w,hd,hb,h=>by
  unfold autoFrom at hb
  unfold autoW at h
  cases ho:ops[i]? with
  | none=>rw [ho] at h; exact h.elim
  | some o=>
   rw [ho] at h hb
   simp only [Bool.and_eq_true] at hb
   obtain ⟨⟨hr,hq⟩,hb⟩:=hb
   have hr:i ∈ Region.ready .any ops listed:=by simpa using hr
   dsimp only at h
   obtain ⟨kn',h⟩:=gateW_spec h
   cases hqk:quietK P o with
   | true=>
    rw [hqk] at hq
    simp only [cond_true] at hq
    have hfree:=Region.free_spec (md:=.any) ho hq
    by_cases hw:wantedE ops o e = true
    ·rw [hw,hqk] at h
     simp only [cond_true] at h
     obtain ⟨v,h1,h2⟩:=opR_yields (S:=fun w'=>w' = w)
      (fun t a K hl=>by obtain ⟨x,h1,h2⟩:=LoadT.holds hl; exact ⟨x,fun w' hw'=>by rw [hw']; exact h1,h2⟩)
      (fun ty s K hl=>by obtain ⟨v,h1,h2⟩:=RunA.run hl; exact ⟨v,fun w' hw'=>by rw [hw']; exact h1,h2⟩) hqk h
     exact anyE_first hok ho l.length listed e w hd hfree hr rfl (.inl ⟨hw,h1⟩) (anyE_of_autoW hok l _ _ _ w (hd.set hr) hb h2)
    ·have hw':wantedE ops o e = false:=Bool.eq_false_iff.2 hw
     rw [hw'] at h
     exact anyE_first hok ho l.length listed e w hd hfree hr rfl (.inr ⟨hw',rfl⟩) (anyE_of_autoW hok l kn' _ _ w (hd.set hr) hb h)
   | false=>
    rw [hqk] at hq
    simp only [cond_false] at hq
    refine ⟨fun h0=>(by rw [h0] at hr; cases hr),fun j hj=>?_⟩
    have hji:j = i:=not_both_of_pivot hd hq hj hr
    subst hji
    unfold stepE
    rw [ho]
    dsimp only
    by_cases hw:wantedE ops o e = true
    ·rw [if_pos hw]
     rw [hw,hqk] at h
     simp only [cond_false] at h
     exact Good.mono (opw_good h) (fun v w' hv=>.inl ⟨hq,fun w''=>w'' = w',rfl,anyE_of_autoW hok l _ _ _ w' (hd.set hr) hb hv⟩) (fun _ _ h=>h)
    ·rw [if_neg hw]
     rw [Bool.eq_false_iff.2 hw] at h
     exact .inr ⟨rfl,anyE_of_autoW hok l kn' _ _ w (hd.set hr) hb h⟩
def allW (f:Nat → Prop):List Nat → Prop
 | []=>True
 | [i]=>f i
 | i :: j :: l=>f i ∧ allW f (j :: l)
theorem allW_spec {f:Nat → Prop}:∀ (l:List Nat),allW f l → ∀ i ∈ l,f i
 | [],_,_,h=>by cases h
 | [i],h,j,hj=>by simp at hj; subst hj; exact h
 | i :: j :: l,h,k,hk=>by
  rcases List.mem_cons.1 hk with rfl | hk
  ·exact h.1
  ·exact allW_spec (j :: l) h.2 k hk
def pickQ (P:Program) (ops:Array Oper) (listed:Array Bool):List Nat → Option Nat
 | []=>none
 | i :: l=>
  bif (match ops[i]? with | some o=>quietK P o | none=>false) && Region.free .any ops listed i then some i else pickQ P ops listed l
theorem pickQ_spec {P:Program} {ops:Array Oper} {listed:Array Bool}:∀ (l:List Nat) (i:Nat),pickQ P ops listed l = some i → i ∈ l ∧ Region.free .any ops listed i = true ∧ ∀ o,ops[i]? = some o → quietK P o = true
 | [],_,h=>by cases h
 | j :: l,i,h=>by
  unfold pickQ at h
  cases hb:((match ops[j]? with | some o=>quietK P o | none=>false) && Region.free .any ops listed j) with
  | false=>
   rw [hb] at h
   obtain ⟨h1,h2⟩:=pickQ_spec l i h
   exact ⟨List.mem_cons_of_mem _ h1,h2⟩
  | true=>
   rw [hb] at h
   simp only [cond_true,Option.some.injEq] at h
   subst h
   simp only [Bool.and_eq_true] at hb
   refine ⟨by simp,hb.2,fun o ho=>?_⟩
   have:=hb.1
   rw [ho] at this
   exact this
def heldW (P:Program) (ops:Array Oper) (S:World → Prop) (K:Env → World → Prop) (Kp:List PanicEntry → World → Prop):Nat → Array Bool → List Nat → Env → World → Prop
 | 0,listed,_,e,w=>
  match Region.ready .any ops listed with
  | []=>K e w
  | _ :: _=>False
 | f + 1,listed,kn,e,w=>
  match Region.ready .any ops listed with
  | []=>K e w
  | r :: rs=>
   match pickQ P ops listed (r :: rs) with
   | some i=>
    match ops[i]? with
    | none=>False
    | some o=>gateW ops kn o e fun run kn e=>
     match run with
     | true=>opR P (litOf kn o) (fun t a K=>LoadS S t a K) (fun ty s K=>RunQ P ty S s K) o e fun v=>heldW P ops S K Kp f (listed.setIfInBounds i true) (knAfter kn o e) (updO e o.dst v) w
     | false=>heldW P ops S K Kp f (listed.setIfInBounds i true) kn (updO e o.dst undef) w
   | none=>allW (fun i=>
    match ops[i]? with
    | none=>False
    | some o=>gateW ops kn o e fun run kn e=>
     match run with
     | true=>opw P (litOf kn o) o e w (fun v w'=>
       bif pivot ops i && (Region.ready .any ops (listed.setIfInBounds i true)).isEmpty then K (updO e o.dst v) w'
       else S w' ∧ heldW P ops S K Kp f (listed.setIfInBounds i true) (knAfter kn o e) (updO e o.dst v) w') Kp
     | false=>heldW P ops S K Kp f (listed.setIfInBounds i true) kn (updO e o.dst undef) w) (r :: rs)
theorem anyE_done {P:Program} {ops:Array Oper} {K:Env → World → Prop} {Kp:List PanicEntry → World → Prop} {S:World → Prop} {listed:Array Bool} {e:Env} {w:World} (hr:Region.ready .any ops listed = []) (h:K e w) :
  ∀ f,anyE P ops K Kp f S listed e w
 | 0=>⟨hr,h⟩
 | f + 1=>⟨fun _=>h,fun i hi=>by rw [hr] at hi; cases hi⟩
theorem anyE_of_heldW {P:Program} {ops:Array Oper} {F:Fm} {S:World → Prop} {K:Env → World → Prop} {Kp:List PanicEntry → World → Prop} (hok:okOps F ops = true) :
  ∀ (f:Nat) (listed:Array Bool) (kn:List Nat) (e:Env) (w:World),Down ops listed → S w → heldW P ops S K Kp f listed kn e w → anyE P ops K Kp f S listed e w
 | 0,listed,kn,e,w,hd,hS,h=>by
  unfold heldW at h
  split at h
  ·rename_i hr; exact ⟨hr,h⟩
  ·exact h.elim
 | f + 1,listed,kn,e,w,hd,hS,h=>by
  unfold heldW at h
  split at h
  ·rename_i hr; exact anyE_done hr h _
  ·rename_i r rs hr
   split at h
   ·rename_i i hp
    obtain ⟨h1,h2,h3⟩:=pickQ_spec _ _ hp
    rw [← hr] at h1
    split at h
    ·exact h.elim
    ·rename_i o ho
     have hqk:=h3 o ho
     have hfree:=Region.free_spec (md:=.any) ho h2
     obtain ⟨kn',h⟩:=gateW_spec h
     by_cases hw:wantedE ops o e = true
     ·rw [hw] at h
      obtain ⟨v,h4,h5⟩:=opR_yields (S:=S) (fun t a K hl=>hl) (fun ty s K hl=>RunQ.run hl) hqk h
      exact anyE_first hok ho f listed e w hd hfree h1 hS (.inl ⟨hw,h4⟩) (anyE_of_heldW hok f _ _ _ w (hd.set h1) hS h5)
     ·have hw':wantedE ops o e = false:=Bool.eq_false_iff.2 hw
      rw [hw'] at h
      exact anyE_first hok ho f listed e w hd hfree h1 hS (.inr ⟨hw',rfl⟩) (anyE_of_heldW hok f _ kn' _ w (hd.set h1) hS h)
   ·rw [← hr] at h
    refine ⟨fun h0=>(by rw [hr] at h0; cases h0),fun i hi=>?_⟩
    have h:=allW_spec _ h i hi
    unfold stepE
    cases ho:ops[i]? with
    | none=>rw [ho] at h; exact h.elim
    | some o=>
     rw [ho] at h
     dsimp only at h ⊢
     obtain ⟨kn',h⟩:=gateW_spec h
     by_cases hw:wantedE ops o e = true
     ·rw [if_pos hw]
      rw [hw] at h
      refine Good.mono (opw_good h) (fun v w' hv=>?_) (fun _ _ h=>h)
      cases hb:(pivot ops i && (Region.ready .any ops (listed.setIfInBounds i true)).isEmpty) with
      | true=>
       rw [hb] at hv
       simp only [Bool.and_eq_true,List.isEmpty_iff] at hb
       exact .inl ⟨hb.1,fun _=>True,trivial,anyE_done hb.2 hv f⟩
      | false=>
       rw [hb] at hv
       exact .inr ⟨hv.1,anyE_of_heldW hok f _ _ _ w' (hd.set hi) hv.1 hv.2⟩
     ·rw [if_neg hw]
      rw [Bool.eq_false_iff.2 hw] at h
      exact .inr ⟨hS,anyE_of_heldW hok f _ kn' _ w (hd.set hi) hS h⟩
def regW (P:Program) (ops:Array Oper) (draw:Bool) (K:Env → World → Prop) (Kp:List PanicEntry → World → Prop) (e:Env) (w:World):Prop:=
 match draw with
 | false=>seqW P ops K Kp (List.range ops.size) [] e w
 | true=>
  bif autoFrom P ops (List.range ops.size) (Array.replicate ops.size false) then autoW P ops K Kp (List.range ops.size) [] e w.drew
  else ∃ S:World → Prop,S w.drew ∧ heldW P ops S K Kp ops.size (Array.replicate ops.size false) [] e w.drew
theorem wpIn_regW {ro:Option Nat} {P:Program} {ops:Array Oper} {draw:Bool} {id:Nat} {F:Fm} {ds:List Deferred} {e:Env} {a:Act} {w:World} {K:Env → World → Prop} {Kp:List PanicEntry → World → Prop} {Q:Exit → Act → World → Prop}
  (hm:P.follows .mixedOrders = true) (hok:okOps F ops = true) (hr:Rep F ds e a) (h:regW P ops draw K Kp e w)
  (hq:∀ e a w,Rep F ds e a → K e w → Q .normal a w) (hp:∀ c w,Kp c w → ∀ a:Act,a.defers = ds → (∀ p ∈ F.fx,a.tmps.getD p.1 undef = p.2) → Q (.panic c) a w):(Code.region id ops draw).wpIn (Wf ro) 0 P Q a w:=by
 cases draw with
 | false=>exact wpIn_region (wpOpsIn_of_seqE hok hq hp _ e a w hr (seqE_of_seqW _ _ _ _ h))
 | true=>
  refine wpIn_region_any hm ?_
  unfold regW at h
  dsimp only at h
  cases hb:autoFrom P ops (List.range ops.size) (Array.replicate ops.size false) with
  | true=>
   rw [hb] at h
   have:=anyE_of_autoW hok _ _ _ _ _ (Down.start _ _) hb h
   rw [List.length_range] at this
   exact wpAnyIn_of_anyE hok hq hp _ _ _ e a _ hr this
  | false=>
   rw [hb] at h
   obtain ⟨S,hS,h⟩:=h
   exact wpAnyIn_of_anyE hok hq hp _ S _ e a _ hr (anyE_of_heldW hok _ _ _ _ _ (Down.start _ _) hS h)
end Go.Proofs.YtffdjfkekdoeaaaDoor.Fw
end
section
namespace Go.Proofs.YtffdjfkekdoeaaaDoor.Fw
def firstReg:Code → Option Nat
 | .region id _ _=>some id
 | .seq a b=>match firstReg a with | some i=>some i | none=>firstReg b
 | .cond _ a b=>match firstReg a with | some i=>some i | none=>firstReg b
 | .block _ c=>firstReg c
 | .loop c=>firstReg c
 | .scope c=>firstReg c
 | .rangeFunc _ _ a b=>match firstReg a with | some i=>some i | none=>firstReg b
 | _=>none
def hasRF:Code → Bool
 | .seq a b=>hasRF a || hasRF b
 | .cond _ a b=>hasRF a || hasRF b
 | .block _ c=>hasRF c
 | .loop c=>hasRF c
 | .scope c=>hasRF c
 | .rangeFunc _ _ _ _=>true
 | .region _ ops _=>match ops.toList.getLast? with | some o=>(match o.op with | .defer _=>true | _=>false) | none=>false
 | _=>false
def lastDefer (ops:Array Oper):Option Call:=
 match ops.toList.getLast? with
 | some o=>match o.op with | .defer c=>some c | _=>none
 | none=>none
def deferOf (e:Env) (c:Call):Option Deferred:=
 match c.callee with
 | .value f=>
  match ev e f with
  | .func fn fi ca=>some { target:=.fn fn ca,args:=fi ++ c.args.map (ev e) }
  | _=>none
 | _=>none
def okDefer (F:Fm) (ops:Array Oper) (c:Call):Bool:=
 okOps F ops.pop && c.operands.all (okX F.n) && (match ops.toList.getLast? with | some o=>o.guard.isNone && o.dst.isNone | none=>false) && ops.pop.all fun o=>o.guard.isNone
def okCode (F:Fm):Bool → Code → Bool
 | r,.region _ ops draw=>
  match lastDefer ops with
  | none=>okOps F ops
  | some c=>!r && !draw && okDefer F ops c
 | r,.seq a b=>okCode F r a && okCode F r b
 | r,.cond c a b=>okX F.n c && okCode F r a && okCode F r b
 | r,.block _ c=>okCode F r c
 | r,.loop c=>okCode F r c
 | r,.rangeFunc f ps a b=>!r && okX F.n f && ps.all (fun d=>Nat.blt d F.n && F.free (some d)) && okCode F true a && okCode F true b
 | _,_=>true
structure Ann where
 loops:Nat → Live
 joins:Nat → Option Live
abbrev KN:=Env → World → Prop
structure Ks where
 N:List Deferred → KN
 X:Nat → List Deferred → KN
 R:List Deferred → KN
 P:List PanicEntry → List Deferred → World → Prop
def joinOf (A:Ann) (c:Code):Option Live:=
 match firstReg c with
 | some i=>A.joins i
 | none=>none
def loopOf (A:Ann) (c:Code):Live:=
 match firstReg c with
 | some i=>A.loops i
 | none=>[]
def LoopD {σ:Type} (x0:σ) (ds:List Deferred) (w:World) (body:σ → List Deferred → Env → World → (σ → List Deferred → World → Prop) → Prop):Prop:=
 ∃ (I:σ → List Deferred → World → Prop) (μ:σ → World → Nat),I x0 ds w ∧ ∀ x ds g w,I x ds w → body x ds g w fun y ds' w'=>I y ds' w' ∧ μ y w' < μ x w
def JoinD {σ:Type} (Y:σ → List Deferred → Env → World → Prop) (F:(σ → List Deferred → World → Prop) → Prop):Prop:=F fun x ds w=>∀ g,Y x ds g w
def loopish:Obj → Bool
 | .loop _=>true
 | .deferred _=>true
 | _=>false
structure Turn (B:Nat) (w w':World):Prop where
 old:∀ k,k < B → k < w.heap.size → w'.heap[k]? = w.heap[k]?
 size:w.heap.size ≤ w'.heap.size
 keep:∀ (k:Nat) (o:Obj),w.heap[k]? = some o → (∀ r,o ≠ .loop r) → w'.heap[k]? = some o
 os:w'.os = w.os
 tape:w'.tape = w.tape
 output:w'.output = w.output
def KeepL (w w':World):Prop:=∀ (k:Nat) (o:Obj),w.heap[k]? = some o → loopish o = true → w'.heap[k]? = some o
def mark (r:Nat):Deferred:={ target:=.collected r,args:=#[] }
def Gives (P:Program) (g:FuncId) (fi ca:Array Value) (tys:List Ty) (xs:List (tdens tys)) (C:World → Prop):Prop:=
 ∀ (l:Nat) (J:Nat → World → Prop) (Jx:World → Prop) (W:World),
  (∀ i W,J i W → C W) →
  (∀ i W W',J i W → Go.RowKit.Below W.heap.size W W' → J i W') → (∀ W W',Jx W → Go.RowKit.Below W.heap.size W W' → Jx W') →
  (∀ (i:Nat) (x:tdens tys) (W:World),xs[i]? = some x → J i W → YieldT P l (tvals tys x).toArray W fun b W'=>(b = true ∧ J (i + 1) W') ∨ (b = false ∧ Jx W')) →
  J 0 W → Calls P g ((fi ++ #[.func (.yield l) #[] #[]]) ++ ca) W fun e W'=>e = .returned (.tuple #[]) ∧ (J xs.length W' ∨ Jx W')
def RangeF (P:Program) (g:FuncId) (fi ca:Array Value) (tys:List Ty) (w:World) (round:tdens tys → World → (World → Prop) → (Code → World → Prop) → Prop)
  (after:Option Code → Nat → World → Prop):Prop:=
 ∃ (xs:List (tdens tys)) (C:World → Prop) (I:Nat → World → Prop) (Ix:Code → World → Prop),
  Gives P g fi ca tys xs C ∧ (∀ i W,I i W → C W) ∧ (∀ i W W',I i W → Turn w.heap.size W W' → I i W') ∧ (∀ c W W',Ix c W → Turn w.heap.size W W' → Ix c W') ∧ I 0 w ∧
  (∀ (i:Nat) (x:tdens tys) (W:World),xs[i]? = some x → I i W → round x W (fun W'=>KeepL W W' ∧ I (i + 1) W') (fun c W'=>KeepL W W' ∧ Ix c W')) ∧
  (∀ d W,W.heap[d]? = some (.deferred (some [])) → w.heap.size ≤ d → I xs.length W → after none d W) ∧
  (∀ c d W,W.heap[d]? = some (.deferred (some [])) → w.heap.size ≤ d → Ix c W → after (some c) d W)
def putArgs:List Nat → List Value → Env → Env
 | d :: ds,v :: vs,e=>putArgs ds vs (upd e d v)
 | _,_,e=>e
def assignOps:List Oper → Env → Option Env
 | [],e=>some e
 | o :: l,e=>
  match o.guard with
  | some _=>none
  | none=>
   match o.op with
   | .move x=>assignOps l (updO e o.dst (ev e x))
   | .assign x=>assignOps l (updO e o.dst (ev e x))
   | _=>none
def assignE:Code → Env → Option Env
 | .skip,e=>some e
 | .region _ ops draw,e=>
  match draw with
  | false=>assignOps ops.toList e
  | true=>none
 | .seq a b,e=>
  match assignE a e with
  | some e1=>assignE b e1
  | none=>none
 | _,_=>none
def yieldTys (P:Program) (g:FuncId) (k:Nat):Option (List Ty):=
 match P.funcs[g]? with
 | some fn=>
  match fn.params[k]? with
  | some t=>
   match P.underlying t with
   | some (.func ps _ _)=>some (tysOf P ps)
   | _=>none
  | none=>none
 | none=>none
def exitsOf:Code → List Nat
 | .seq a b=>exitsOf a ++ exitsOf b
 | .cond _ a b=>exitsOf a ++ exitsOf b
 | .block _ c=>exitsOf c
 | .loop c=>exitsOf c
 | .exit id=>[id]
 | _=>[]
def exitK:List Nat → Nat → (Nat → Prop) → Prop
 | [],_,_=>False
 | i :: l,id,K=>bif Nat.beq id i then K i else exitK l id K
theorem exitK_spec:∀ {l:List Nat} {id:Nat} {K:Nat → Prop},exitK l id K → K id
 | [],_,_,h=>h.elim
 | i :: l,id,K,h=>by
  unfold exitK at h
  cases hb:Nat.beq id i with
  | true=>rw [hb] at h; rw [Nat.eq_of_beq_eq_true hb]; exact h
  | false=>rw [hb] at h; exact exitK_spec h
def wpc (P:Program) (A:Ann):Code → Ks → List Deferred → Env → World → Prop
 | .skip,k,ds,e,w=>k.N ds e w
 | .region _ ops draw,k,ds,e,w=>
  match lastDefer ops with
  | none=>regW P ops draw (k.N ds) (fun ch w=>k.P ch ds w) e w
  | some c=>seqW P ops.pop (fun e w=>
    match deferOf e c with
    | some d=>k.N (d :: ds) e w
    | none=>False) (fun ch w=>k.P ch ds w) (List.range ops.pop.size) [] e w
 | .seq a b,k,ds,e,w=>
  match joinOf A b with
  | none=>wpc P A a { k with N:=wpc P A b k } ds e w
  | some l=>
   bif hasRF a then JoinD (σ:=ldens l) (fun xs ds g w=>wpc P A b k ds (putTs l xs g) w) fun J=>wpc P A a { k with N:=fun ds e w=>getTs l e fun xs=>J xs ds w } ds e w
   else Join (σ:=ldens l) (fun xs g w=>wpc P A b k ds (putTs l xs g) w) fun J=>wpc P A a { k with N:=fun _ e w=>getTs l e fun xs=>J xs w } ds e w
 | .cond c a b,k,ds,e,w=>
  match ev e c with
  | .bool t=>Br t (wpc P A a k ds e w) (wpc P A b k ds e w)
  | _=>False
 | .block id c,k,ds,e,w=>wpc P A c { k with X:=fun i ds e w=>bif Nat.beq i id then k.N ds e w else k.X i ds e w } ds e w
 | .exit id,k,ds,e,w=>k.X id ds e w
 | .loop c,k,ds,e,w=>
  getTs (loopOf A c) e fun xs=>
   bif hasRF c then LoopD xs ds w fun xs ds g w I=>wpc P A c { k with N:=fun ds e w=>getTs (loopOf A c) e fun ys=>I ys ds w } ds (putTs (loopOf A c) xs g) w
   else LoopT xs w fun xs g w I=>wpc P A c { k with N:=fun _ e w=>getTs (loopOf A c) e fun ys=>I ys w } ds (putTs (loopOf A c) xs g) w
 | .ret,k,ds,e,w=>k.R ds e w
 | .rangeFunc f ps assign body,k,ds,e,w=>
  match ev e f with
  | .func (.func g) fi ca=>
   match yieldTys P g fi.size with
   | some tys=>
    bif enters P g && !hasRF body && Nat.beq ps.size tys.length then
     RangeF P g fi ca tys w (fun x w Kc Kx=>
       match assignE assign (putArgs ps.toList (tvals tys x) e) with
       | some e1=>wpc P A body { N:=fun _ _ w=>Kc w,X:=fun id _ _ w=>Kx (.exit id) w,R:=fun _ _ w=>Kx .ret w,P:=fun _ _ _=>False } [] e1 w
       | none=>False)
      (fun j d w=>
       match j with
       | none=>k.N (mark d :: ds) e w
       | some (.exit id)=>exitK (exitsOf body) id fun id=>k.X id (mark d :: ds) e w
       | some .ret=>k.R (mark d :: ds) e w
       | some _=>False)
    else False
   | none=>False
  | _=>False
 | _,_,_,_,_=>False
theorem wpIn_loop_n {F:Fence} {n:Nat} {P:Program} {c:Code} {Q:Exit → Act → World → Prop} {a:Act} {w:World} (I:Nat → Act → World → Prop) (m:Nat) (h₀:I m a w)
  (round:∀ m a w,I m a w → c.wpIn F n P (Exit.then (fun a' w'=>∃ m',m' < m ∧ I m' a' w') Q) a w):(Code.loop c).wpIn F n P Q a w:=by
 intro b k cs hro hb hr
 have key:∀ j a w,I j a w →
   ∃ e a' w',Q e a' w' ∧ ArrivesIn (Machine.fenced P F) P (lone (b.atR a (.code c :: .inLoop c :: k)) cs w) b k cs e a' w':=by
  intro j
  induction j using Nat.strongRecOn with
  | _ j ih=>
   intro a w hI
   obtain ⟨e,a₁,w₁,hq,harr⟩:=round j a w hI b (.inLoop c :: k) cs hro hb hr
   cases e with
   | normal=>
    obtain ⟨j₁,hlt,hI₁⟩:=hq
    obtain ⟨e₂,a₂,w₂,hq₂,harr₂⟩:=ih j₁ hlt a₁ w₁ hI₁
    exact ⟨e₂,a₂,w₂,hq₂,.of_steps (StepsIn.trans harr (.one (fenced_calm hb hr rfl) stepR_inLoop)) harr₂⟩
   | exit id=>exact ⟨_,a₁,w₁,hq,.pass (x:=.inLoop c) rfl (fun _ _=>.inl (by simp)) harr⟩
   | goto l=>exact ⟨_,a₁,w₁,hq,.pass (x:=.inLoop c) rfl (fun _ _=>.inl (by simp)) harr⟩
   | ret=>exact ⟨_,a₁,w₁,hq,.pass (x:=.inLoop c) rfl (fun _ _=>.inl (by simp)) harr⟩
   | panic ch=>exact ⟨_,a₁,w₁,hq,.pass (x:=.inLoop c) rfl (fun _ _=>.inl (by simp)) harr⟩
   | outgrown=>exact ⟨_,a₁,w₁,hq,.pass (x:=.inLoop c) rfl (fun _ _=>.inl (by simp)) harr⟩
 obtain ⟨e,a',w',hq,harr⟩:=key m a w h₀
 exact ⟨e,a',w',hq,.of_steps (.one (fenced_calm hb hr rfl) stepR_loop) harr⟩
structure KsOk (F:Fm) (b:Bool) (ds0:List Deferred) (k:Ks) (Q:Exit → Act → World → Prop):Prop where
 N:∀ ds e a w,(b = false → ds = ds0) → Rep F ds e a → k.N ds e w → Q .normal a w
 X:∀ i ds e a w,(b = false → ds = ds0) → Rep F ds e a → k.X i ds e w → Q (.exit i) a w
 R:∀ ds e a w,(b = false → ds = ds0) → Rep F ds e a → k.R ds e w → Q .ret a w
 P:∀ c ds w,(b = false → ds = ds0) → k.P c ds w → ∀ a:Act,a.defers = ds → (∀ p ∈ F.fx,a.tmps.getD p.1 undef = p.2) → Q (.panic c) a w
end Go.Proofs.YtffdjfkekdoeaaaDoor.Fw
end
section
namespace Go.Proofs.YtffdjfkekdoeaaaDoor.Fw
open RowKit
theorem Turn.trans {B:Nat} {a b c:World} (h:Turn B a b) (k:Turn B b c):Turn B a c:=
 ⟨fun i hi hs=>(k.old i hi (Nat.lt_of_lt_of_le hs h.size)).trans (h.old i hi hs),Nat.le_trans h.size k.size,fun i o hi ho=>k.keep i o (h.keep i o hi ho) ho,k.os.trans h.os,k.tape.trans h.tape,k.output.trans h.output⟩
theorem Turn.alloc {B:Nat} (w:World) (o:Obj):Turn B w (w.alloc o):=
 ⟨fun k _ hk=>Below.heap_alloc w o k hk,by simp,fun k o' hk _=>(Below.heap_alloc w o k (Array.getElem?_eq_some_iff.1 hk).1).trans hk,rfl,rfl,rfl⟩
theorem Turn.putLoop {B:Nat} {w:World} {l:Nat} {r r':Loop} (hB:B ≤ l) (h:w.heap[l]? = some (.loop r)):Turn B w (w.putObj l (.loop r')):=
 ⟨fun k hk _=>World.putObj_heap_other (by omega),by simp,fun k o hk ho=>by
  by_cases e:k = l
  ·subst e; rw [h] at hk; cases hk; exact absurd rfl (ho r)
  ·exact (World.putObj_heap_other e).trans hk,rfl,rfl,rfl⟩
theorem Turn.of_below {B:Nat} {w w':World} (h:Below w.heap.size w w'):Turn B w w':=
 ⟨fun k _ hk=>h.block k hk,h.size,fun k o hk _=>(h.block k (Array.getElem?_eq_some_iff.1 hk).1).trans hk,h.os,h.tape,h.output⟩
theorem seqE_assign {P:Program} {ops:Array Oper} {C:Env → World → Prop} {Kp:List PanicEntry → World → Prop} {w:World} :
  ∀ (l:List Oper) (k:Nat) (e e1:Env),(∀ j,l[j]? = ops[k + j]?) → assignOps l e = some e1 → C e1 w → seqE P ops C Kp (List.range' k l.length) e w
 | [],k,e,e1,_,h,hc=>by simp only [assignOps,Option.some.injEq] at h; subst h; exact hc
 | o :: l,k,e,e1,hl,h,hc=>by
  have h0:ops[k]? = some o:=by simpa using (hl 0).symm
  have hl':∀ j,l[j]? = ops[k + 1 + j]?:=fun j=>by
   have:=hl (j + 1)
   rw [show k + 1 + j = k + (j + 1) by omega]; simpa using this
  simp only [assignOps] at h
  cases hg:o.guard with
  | some g=>rw [hg] at h; cases h
  | none=>
   rw [hg] at h
   have hw:wantedE ops o e = true:=by simp [wantedE,guardSlot,hg]
   rw [List.length_cons,List.range'_succ]
   unfold seqE stepE
   rw [h0]
   dsimp only
   rw [if_pos hw]
   obtain ⟨dst,op,ty,pos,after,guard⟩:=o
   cases op <;> simp only at h <;> first | (cases h; done) | skip
   all_goals exact seqE_assign l (k + 1) _ e1 hl' h hc
theorem wpIn_assign {ro:Option Nat} {P:Program} {F:Fm} {ds:List Deferred}:∀ (c:Code) (e e1:Env) (a:Act) (w:World) (Q:Exit → Act → World → Prop),okCode F true c = true → assignE c e = some e1 → Rep F ds e a →
  (∀ a,Rep F ds e1 a → Q .normal a w) → c.wpIn (Wf ro) 0 P Q a w
 | .skip,e,e1,a,w,Q,ho,h,hr,hq=>by
  simp only [assignE,Option.some.injEq] at h
  subst h
  exact wpIn_skip (hq a hr)
 | .seq x y,e,e1,a,w,Q,ho,h,hr,hq=>by
  simp only [okCode,Bool.and_eq_true] at ho
  simp only [assignE] at h
  split at h
  ·rename_i e2 h2
   refine wpIn_seq (wpIn_assign x e e2 a w _ ho.1 h2 hr fun a' hr'=>?_)
   exact wpIn_assign y e2 e1 a' w Q ho.2 h hr' hq
  ·cases h
 | .region id ops draw,e,e1,a,w,Q,ho,h,hr,hq=>by
  cases draw with
  | true=>simp [assignE] at h
  | false=>
   simp only [assignE] at h
   have hld:lastDefer ops = none:=by
    cases hl:lastDefer ops with
    | none=>rfl
    | some c=>simp only [okCode,hl] at ho; simp at ho
   simp only [okCode,hld] at ho
   refine wpIn_region (wpOpsIn_of_seqE (C:=fun e w'=>e = e1 ∧ w' = w) (Kp:=fun _ _=>False) ho (fun e a w' hr hc=>by obtain ⟨rfl,rfl⟩:=hc; exact hq a hr) (fun _ _ h=>h.elim) _ e a w hr ?_)
   have:=seqE_assign (P:=P) (ops:=ops) (C:=fun e w'=>e = e1 ∧ w' = w) (Kp:=fun _ _=>False) (w:=w) ops.toList 0 e e1 (fun j=>by simp) h ⟨rfl,rfl⟩
   rw [List.range_eq_range']
   simpa using this
 | .cond _ _ _,_,_,_,_,_,_,h,_,_=>by simp [assignE] at h
 | .block _ _,_,_,_,_,_,_,h,_,_=>by simp [assignE] at h
 | .loop _,_,_,_,_,_,_,h,_,_=>by simp [assignE] at h
 | .rangeFunc _ _ _ _,_,_,_,_,_,_,h,_,_=>by simp [assignE] at h
 | .exit _,_,_,_,_,_,_,h,_,_=>by simp [assignE] at h
 | .scope _,_,_,_,_,_,_,h,_,_=>by simp [assignE] at h
 | .label _,_,_,_,_,_,_,h,_,_=>by simp [assignE] at h
 | .goto _,_,_,_,_,_,_,h,_,_=>by simp [assignE] at h
 | .ret,_,_,_,_,_,_,h,_,_=>by simp [assignE] at h
 | .refuse _,_,_,_,_,_,_,h,_,_=>by simp [assignE] at h
theorem rep_args {F:Fm}:∀ (ps:List Nat) (vs:List Value) (e:Env) (ts:Array Value),(∀ d ∈ ps,d < F.n ∧ F.free (some d) = true) → Rep F [] e { tmps:=ts,defers:=[] } →
  Rep F [] (putArgs ps vs e) { tmps:=(ps.zip vs).foldl (fun t (p,v)=>t.setIfInBounds p v) ts,defers:=[] }
 | [],vs,e,ts,_,h=>by simpa [putArgs] using h
 | d :: ps,[],e,ts,_,h=>by simpa [putArgs] using h
 | d :: ps,v :: vs,e,ts,hp,h=>by
  simp only [putArgs,List.zip_cons_cons,List.foldl_cons]
  exact rep_args ps vs _ _ (fun d' hd'=>hp d' (by simp [hd'])) (h.put (some d) v (hp d (by simp)).2)
def roundQ (Kc:World → Prop) (Kx:Code → World → Prop):Exit → Act → World → Prop
 | .normal,_,w=>Kc w
 | .exit id,_,w=>Kx (.exit id) w
 | .ret,_,w=>Kx .ret w
 | _,_,_=>False
theorem wpIn_rangeF {P:Program} {F:Fm} {ds:List Deferred} {e:Env} {a:Act} {w:World} {Q:Exit → Act → World → Prop} {f:Operand} {ps:Array Tmp} {assign body:Code} {g:FuncId} {fi ca:Array Value} {tys:List Ty}
  {round:tdens tys → World → (World → Prop) → (Code → World → Prop) → Prop} {after:Option Code → Nat → World → Prop}
  (hr:Rep F ds e a) (hx:okX F.n f = true) (hf:ev e f = .func (.func g) fi ca) (hen:enters P g = true) (hps:ps.all (fun d=>Nat.blt d F.n && F.free (some d)) = true) (hsz:ps.size = tys.length)
  (hoa:okCode F true assign = true) (h:RangeF P g fi ca tys w round after)
  (hround:∀ x W Kc Kx,round x W Kc Kx → ∃ e1,assignE assign (putArgs ps.toList (tvals tys x) e) = some e1 ∧ ∀ l a1,Rep F [] e1 a1 → body.wpIn (Wf (some l)) 0 P (roundQ Kc Kx) a1 W)
  (hnone:∀ d a' W,Rep F (mark d :: ds) e a' → after none d W → Q .normal a' W) (hexit:∀ d id a' W,Rep F (mark d :: ds) e a' → after (some (.exit id)) d W → Q (.exit id) a' W)
  (hret:∀ d a' W,Rep F (mark d :: ds) e a' → after (some .ret) d W → Q .ret a' W) (hother:∀ d c W,after (some c) d W → c = .ret ∨ ∃ id,c = .exit id) :
  (Code.rangeFunc f ps assign body).wpIn (Wf none) 0 P Q a w:=by
 obtain ⟨xs,C,I,Ix,hg,hC,hI,hIx,h0,hro,hdone,hstop⟩:=h
 refine wpIn_rangeFunc fun fn _=>?_
 obtain ⟨rec,hrec⟩:∃ rec:LoopState → Option Code → Loop,rec = fun st pe=>{ state:=st,pending:=pe,fn,tmps:=a.tmps,params:=ps,assign,body,defers:=w.heap.size }:=⟨_,rfl⟩
 obtain ⟨W1,hW1⟩:∃ W1,(w.alloc (.deferred (some []))).alloc (.loop (rec .ready none)) = W1:=⟨_,rfl⟩
 have hL1:W1.heap[w.heap.size + 1]? = some (.loop (rec .ready none)):=by
  rw [← hW1]; have:=World.alloc_heap_new (w.alloc (.deferred (some []))) (.loop (rec .ready none)); rwa [World.size_alloc] at this
 have hK1:W1.heap[w.heap.size]? = some (.deferred (some [])):=by
  rw [← hW1]; exact (Below.heap_alloc _ _ _ (by simp)).trans (World.alloc_heap_new w _)
 have hT1:Turn w.heap.size w W1:=by rw [← hW1]; exact (Turn.alloc _ _).trans (Turn.alloc _ _)
 have hev:a.eval f = .func (.func g) fi ca:=by rw [hr.ev hx]; exact hf
 refine ⟨w.heap.size + 1,[mark w.heap.size],W1,{ target:=.fn (.func g) ca,args:=fi ++ #[.func (.yield (w.heap.size + 1)) #[] #[]] },W1,g,(fi ++ #[.func (.yield (w.heap.size + 1)) #[] #[]]) ++ ca,W1,?_,?_,fun _ _=>trivial,?_,fun h=>by simp at h,?_⟩
 ·rw [← hW1,hrec]; exact run_enterLoop_outer fn a.tmps ps assign body
 ·have hres:resolve a.eval (rangeCall f (w.heap.size + 1)) 0 = Deferred.ofValue (a.eval f) (#[Operand.const (.func (.yield (w.heap.size + 1)) #[] #[])].map a.eval):=rfl
  rw [hres,hev]
  simp [Deferred.ofValue,Act.eval]
 ·exact enters_spec hen _
 ·refine callsIn_of_calls (hg (w.heap.size + 1)
   (fun i W=>I i W ∧ W.heap[w.heap.size + 1]? = some (.loop (rec .ready none)) ∧ W.heap[w.heap.size]? = some (.deferred (some [])))
   (fun W=>∃ c,Ix c W ∧ W.heap[w.heap.size + 1]? = some (.loop (rec .done (some c))) ∧ W.heap[w.heap.size]? = some (.deferred (some []))) W1 ?_ ?_ ?_ ?_ ⟨hI 0 _ _ h0 hT1,hL1,hK1⟩) ?_
  ·exact fun i W h=>hC i W h.1
  ·rintro i W W' ⟨h1,h2,h3⟩ hb
   exact ⟨hI i _ _ h1 (Turn.of_below hb),(hb.block _ (Array.getElem?_eq_some_iff.1 h2).1).trans h2,(hb.block _ (Array.getElem?_eq_some_iff.1 h3).1).trans h3⟩
  ·rintro W W' ⟨c,h1,h2,h3⟩ hb
   exact ⟨c,hIx c _ _ h1 (Turn.of_below hb),(hb.block _ (Array.getElem?_eq_some_iff.1 h2).1).trans h2,(hb.block _ (Array.getElem?_eq_some_iff.1 h3).1).trans h3⟩
  ·rintro i x W hx ⟨h1,h2,h3⟩
   have hlt:w.heap.size + 1 < W.heap.size:=(Array.getElem?_eq_some_iff.1 h2).1
   have hne:w.heap.size ≠ w.heap.size + 1:=by omega
   obtain ⟨W2,hW2⟩:∃ W2,W.putObj (w.heap.size + 1) (.loop { rec .ready none with state:=.busy }) = W2:=⟨_,rfl⟩
   have hT2:Turn w.heap.size W W2:=by rw [← hW2]; exact Turn.putLoop (Nat.le_succ _) h2
   have hl2:W2.heap[w.heap.size + 1]? = some (.loop { rec .ready none with state:=.busy }):=by rw [← hW2]; exact World.putObj_heap_same hlt
   have hd2:W2.heap[w.heap.size]? = some (.deferred (some [])):=by rw [← hW2]; exact (World.putObj_heap_other hne).trans h3
   have hI2:=hI i _ _ h1 hT2
   obtain ⟨e1,he1,hbody⟩:=hround _ _ _ _ (hro i x W2 hx hI2)
   refine ⟨_,_,_,_,run_yield h2 (by rw [hrec]; simp [hsz,tvals_length]),?_⟩
   have hreta:Rep F [] (putArgs ps.toList (tvals tys x) e) { tmps:=(ps.zip (tvals tys x).toArray).foldl (fun t (p,v)=>t.setIfInBounds p v) a.tmps,defers:=[] }:=by
    have:=rep_args (F:=F) ps.toList (tvals tys x) e a.tmps (fun d hd=>by
     rw [Array.all_eq_true_iff_forall_mem] at hps
     have:=hps d (by simpa using hd)
     simp only [Bool.and_eq_true] at this
     exact ⟨by simpa using this.1,this.2⟩) ⟨hr.size,hr.slots,rfl,hr.fixed,hr.low⟩
    have hz:(ps.zip (tvals tys x).toArray) = (ps.toList.zip (tvals tys x)).toArray:=by
     rw [← Array.toList_inj]; simp
    rw [hz,List.foldl_toArray]
    exact this
   rw [← Wf_none]
   refine roundIn_of_wpIn (F:=Wf none) (by trivial) ?_
   rw [show (rec .ready none).assign = assign by rw [hrec],show (rec .ready none).body = body by rw [hrec],show (rec .ready none).params = ps by rw [hrec],show (rec .ready none).tmps = a.tmps by rw [hrec]]
   refine wpIn_assign assign _ e1 _ W _ hoa he1 hreta fun a1 hr1=>?_
   refine ⟨W2,?_,?_⟩
   ·rw [← hW2]; exact run_beginRound h2 (by rw [hrec])
   ·refine wpIn_mono (hbody (w.heap.size + 1) a1 hr1) fun e2 a2 W3 hq=>?_
    have hfin:∀ (W3:World) (jump:Option Code),KeepL W2 W3 → (Instr.endRound (w.heap.size + 1) jump).run P W3 = .ok (.bool jump.isNone) (W3.putObj (w.heap.size + 1) (.loop (rec (if jump.isNone then .ready else .done) jump))):=fun W3 jump hk=>by
     have:=run_endRound (P:=P) jump (hk _ _ hl2 rfl)
     rw [this,hrec]
    have hkeep:∀ (W3:World) (o:Loop),KeepL W2 W3 → (W3.putObj (w.heap.size + 1) (.loop o)).heap[w.heap.size + 1]? = some (.loop o) ∧ (W3.putObj (w.heap.size + 1) (.loop o)).heap[w.heap.size]? = some (.deferred (some [])) ∧ Turn w.heap.size W3 (W3.putObj (w.heap.size + 1) (.loop o)):=fun W3 o hk=>
     ⟨World.putObj_heap_same (Array.getElem?_eq_some_iff.1 (hk _ _ hl2 rfl)).1,(World.putObj_heap_other hne).trans (hk _ _ hd2 rfl),Turn.putLoop (Nat.le_succ _) (hk _ _ hl2 rfl)⟩
    cases e2 with
    | normal=>
     obtain ⟨hk,hi⟩:=hq
     obtain ⟨k1,k2,k3⟩:=hkeep W3 (rec .ready none) hk
     exact ⟨_,_,by simpa using hfin W3 none hk,⟨true,rfl,.inl ⟨rfl,hI _ _ _ hi k3,k1,k2⟩⟩⟩
    | exit id=>
     obtain ⟨hk,hi⟩:=hq
     obtain ⟨k1,k2,k3⟩:=hkeep W3 (rec .done (some (.exit id))) hk
     exact ⟨_,_,by simpa using hfin W3 (some (.exit id)) hk,⟨false,rfl,.inr ⟨rfl,_,hIx _ _ _ hi k3,k1,k2⟩⟩⟩
    | ret=>
     obtain ⟨hk,hi⟩:=hq
     obtain ⟨k1,k2,k3⟩:=hkeep W3 (rec .done (some .ret)) hk
     exact ⟨_,_,by simpa using hfin W3 (some .ret) hk,⟨false,rfl,.inr ⟨rfl,_,hIx _ _ _ hi k3,k1,k2⟩⟩⟩
    | goto t=>exact hq.elim
    | panic c=>exact hq.elim
    | outgrown=>exact hq.elim
  ·rintro e' W' ⟨rfl,hj⟩
   have hne:w.heap.size ≠ w.heap.size + 1:=by omega
   have hrep:∀ d,Rep F (mark d :: ds) e { a with defers:=[mark d] ++ a.defers }:=fun d=>⟨hr.size,hr.slots,by simp [hr.defers],hr.fixed,hr.low⟩
   rcases hj with ⟨h1,h2,h3⟩ | ⟨c,h1,h2,h3⟩
   ·refine ⟨none,_,by rw [run_endLoop h2 (by rw [hrec]; simp),hrec],?_⟩
    refine hnone _ _ _ (hrep _) (hdone _ _ ((World.putObj_heap_other hne).trans h3) (Nat.le_refl _) (hI _ _ _ h1 (Turn.putLoop (Nat.le_succ _) h2)))
   ·refine ⟨some c,_,by rw [run_endLoop h2 (by rw [hrec]; simp),hrec],?_⟩
    have haf:=hstop c _ _ ((World.putObj_heap_other hne).trans h3) (Nat.le_refl _) (hIx _ _ _ h1 (Turn.putLoop (r':={ rec .done (some c) with state:=.exhausted }) (Nat.le_succ _) h2))
    have haf':=haf
    rw [hrec] at haf'
    rcases hother _ _ _ haf with rfl | ⟨id,rfl⟩
    ·exact wpIn_ret (hret _ _ _ (hrep _) haf')
    ·exact wpIn_exit (hexit _ _ _ _ (hrep _) haf')
end Go.Proofs.YtffdjfkekdoeaaaDoor.Fw
end
section
namespace Go.Proofs.YtffdjfkekdoeaaaDoor.Fw
open RowKit
theorem KsOk.sub {F:Fm} {b b':Bool} {ds ds':List Deferred} {k:Ks} {Q:Exit → Act → World → Prop} (h:KsOk F b ds k Q) (hb:b = false → b' = false ∧ ds' = ds):KsOk F b' ds' k Q:=
 ⟨fun d e a w hd=>h.N d e a w (fun hf=>(hd (hb hf).1).trans (hb hf).2),fun i d e a w hd=>h.X i d e a w (fun hf=>(hd (hb hf).1).trans (hb hf).2),
  fun d e a w hd=>h.R d e a w (fun hf=>(hd (hb hf).1).trans (hb hf).2),fun c d w hd=>h.P c d w (fun hf=>(hd (hb hf).1).trans (hb hf).2)⟩
theorem KsOk.setN {F:Fm} {b b':Bool} {ds:List Deferred} {k:Ks} {N:List Deferred → KN} {Q Q':Exit → Act → World → Prop} (h:KsOk F b ds k Q) (hb:b = false → b' = false)
  (hN:∀ d e a w,(b' = false → d = ds) → Rep F d e a → N d e w → Q' .normal a w) (hx:∀ e a w,e ≠ .normal → Q e a w → Q' e a w):KsOk F b' ds { k with N:=N } Q':=
 ⟨hN,fun i d e a w hd hr hk=>hx _ _ _ (by simp) (h.X i d e a w (fun hf=>hd (hb hf)) hr hk),fun d e a w hd hr hk=>hx _ _ _ (by simp) (h.R d e a w (fun hf=>hd (hb hf)) hr hk),
  fun c d w hd hk a ha hf=>hx _ _ _ (by simp) (h.P c d w (fun hf=>hd (hb hf)) hk a ha hf)⟩
theorem wpOpsIn_append_seqE {ro:Option Nat} {P:Program} {ops:Array Oper} {F:Fm} {ds:List Deferred} {C:Env → World → Prop} {Kp:List PanicEntry → World → Prop} {Q:Exit → Act → World → Prop} {l':List Nat}
  (hok:∀ (i:Nat) (o:Oper),i < ops.size - 1 → ops[i]? = some o → okOp ops F o = true) (hq:∀ e a w,Rep F ds e a → C e w → wpOpsIn (Wf ro) 0 P ops Q l' a w) (hp:∀ c w,Kp c w → ∀ a:Act,a.defers = ds → (∀ p ∈ F.fx,a.tmps.getD p.1 undef = p.2) → Q (.panic c) a w) :
  ∀ (l:List Nat) (e:Env) (a:Act) (w:World),(∀ i ∈ l,i < ops.size - 1) → Rep F ds e a → seqE P ops C Kp l e w → wpOpsIn (Wf ro) 0 P ops Q (l ++ l') a w
 | [],e,a,w,_,hr,h=>hq e a w hr h
 | i :: l,e,a,w,hl,hr,h=>by
  have hi:i < ops.size - 1:=hl i (by simp)
  rw [List.cons_append,wpOpsIn_cons]
  unfold seqE stepE at h
  unfold wpOpIn
  have ho:ops[i]? = some ops[i]:=Array.getElem?_eq_getElem (by omega)
  rw [ho] at h ⊢
  have hoo:=hok i _ hi ho
  dsimp only at h ⊢
  rw [wanted_rep hr (guardOk_of_ok hoo)]
  have ih:=fun e a w hr h=>wpOpsIn_append_seqE (ro:=ro) hok hq hp l e a w (fun j hj=>hl j (by simp [hj])) hr h
  by_cases hw:wantedE ops ops[i] e = true
  ·rw [if_pos hw] at h
   rw [if_pos hw]
   refine ⟨fun _ _=>trivial,?_⟩
   rw [semAt_of_ok hoo,execOp_rep hr hoo]
   exact good_uponIn h (fun v w hv=>ih _ _ _ (hr.put _ _ (free_of_ok hoo)) hv) (fun c w hc=>hp c w hc a hr.defers hr.at)
  ·rw [if_neg hw] at h
   rw [if_neg hw]
   exact ⟨fun _ _=>trivial,ih _ _ _ (hr.put _ _ (free_of_ok hoo)) h⟩
theorem seqE_pop {P:Program} {ops:Array Oper} {C:Env → World → Prop} {Kp:List PanicEntry → World → Prop} (hg:ops.pop.all (fun o=>o.guard.isNone) = true) :
  ∀ (l:List Nat) (e:Env) (w:World),(∀ i ∈ l,i < ops.size - 1) → seqE P ops.pop C Kp l e w → seqE P ops C Kp l e w
 | [],_,_,_,h=>h
 | i :: l,e,w,hl,h=>by
  have hi:i < ops.size - 1:=hl i (by simp)
  unfold seqE stepE at h ⊢
  have hp:ops.pop[i]? = ops[i]?:=by simp [Array.getElem?_pop,hi]
  rw [hp] at h
  have ho:ops[i]? = some ops[i]:=Array.getElem?_eq_getElem (by omega)
  rw [ho] at h ⊢
  dsimp only at h ⊢
  have hgi:ops[i].guard = none:=by
   rw [Array.all_eq_true_iff_forall_mem] at hg
   have:=hg ops[i] (Array.mem_of_getElem? (hp.trans ho))
   simpa using this
  have hwa:∀ os:Array Oper,wantedE os ops[i] e = true:=fun os=>by simp [wantedE,guardSlot,hgi]
  rw [if_pos (hwa _)] at h ⊢
  exact Good.mono h (fun v w' hv=>seqE_pop hg l _ _ (fun j hj=>hl j (by simp [hj])) hv) (fun _ _ h=>h)
theorem lastDefer_spec {ops:Array Oper} {c:Call} (h:lastDefer ops = some c):0 < ops.size ∧ ∃ o,ops[ops.size - 1]? = some o ∧ ops.toList.getLast? = some o ∧ o.op = .defer c:=by
 unfold lastDefer at h
 split at h
 ·rename_i o ho
  have hne:0 < ops.size:=by
   rcases Nat.eq_zero_or_pos ops.size with h0 | h0
   ·have:ops.toList = []:=by simpa using h0
    rw [this] at ho; cases ho
   ·exact h0
  refine ⟨hne,o,?_,ho,?_⟩
  ·rw [List.getLast?_eq_getElem?] at ho
   simpa using ho
  ·split at h
   ·rename_i c' hc; cases h; exact hc
   ·cases h
 ·cases h
theorem deferOf_run {P:Program} {e:Env} {c:Call} {d:Deferred} {ty:TypeId} {w:World} (h:deferOf e c = some d):(resolve (ev e) c ty).run P w = .ok d w:=by
 unfold deferOf at h
 obtain ⟨callee,args,ats⟩:=c
 cases callee with
 | builtin b=>cases h
 | invoke r m=>cases h
 | value f=>
  dsimp only at h
  split at h
  ·rename_i fn fi ca hf
   cases h
   have hres:resolve (ev e) ⟨.value f,args,ats⟩ ty = Deferred.ofValue (ev e f) (args.map (ev e)):=rfl
   rw [hres,hf]
   simp [Deferred.ofValue]
  ·cases h
theorem wpIn_deferRegion {P:Program} {F:Fm} {ds:List Deferred} {e:Env} {a:Act} {w:World} {Q:Exit → Act → World → Prop} {ops:Array Oper} {id:Nat} {c:Call} {K:Deferred → Env → World → Prop} {Kp:List PanicEntry → World → Prop}
  (hl:lastDefer ops = some c) (hok:okDefer F ops c = true) (hr:Rep F ds e a)
  (h:seqW P ops.pop (fun e w=>match deferOf e c with | some d=>K d e w | none=>False) Kp (List.range ops.pop.size) [] e w)
  (hq:∀ d e a w,Rep F (d :: ds) e a → K d e w → Q .normal a w) (hp:∀ c w,Kp c w → ∀ a:Act,a.defers = ds → (∀ p ∈ F.fx,a.tmps.getD p.1 undef = p.2) → Q (.panic c) a w) :
  (Code.region id ops false).wpIn (Wf none) 0 P Q a w:=by
 obtain ⟨hne,o,ho,hlast,hop⟩:=lastDefer_spec hl
 unfold okDefer at hok
 rw [hlast] at hok
 simp only [Bool.and_eq_true,Option.isNone_iff_eq_none] at hok
 obtain ⟨⟨⟨h1,h2⟩,hg,hd⟩,h3⟩:=hok
 refine wpIn_region ?_
 have hrange:List.range ops.size = List.range (ops.size - 1) ++ [ops.size - 1]:=by
  conv=>lhs; rw [show ops.size = (ops.size - 1) + 1 by omega]
  rw [List.range_succ]
 rw [hrange]
 have hs:=seqE_of_seqW _ _ _ _ h
 rw [Array.size_pop] at hs
 have hs:=seqE_pop h3 _ _ _ (fun i hi=>by simpa using hi) hs
 refine wpOpsIn_append_seqE (ro:=none) ?_ ?_ hp _ e a w (fun i hi=>by simpa using hi) hr hs
 ·intro i o' hi ho'
  have hpo:ops.pop[i]? = some o':=by rw [Array.getElem?_pop,if_pos hi,ho']
  have hok':=okOp_at h1 hpo
  rw [Array.all_eq_true_iff_forall_mem] at h3
  have hgn:o'.guard = none:=by simpa using h3 o' (Array.mem_of_getElem? hpo)
  simp only [okOp,guardOk,hgn,Bool.and_eq_true] at hok' ⊢
  exact hok'
 ·intro e a w hr hc
  unfold wpOpsIn
  rw [ho]
  dsimp only
  have hw:Region.wanted o (yielded ops a.tmps) = true:=by simp [Region.wanted,hg]
  rw [if_pos hw]
  refine ⟨fun _ _=>trivial,?_⟩
  have hsem:o.semAt (Wf none).round a.eval = (do pure (.defer (← resolve a.eval c o.type)):Sem Next):=by
   obtain ⟨dst,op,ty,pos,after,guard⟩:=o
   subst hop
   rfl
  rw [hsem]
  have hcong:resolve a.eval c o.type = resolve (ev e) c o.type:=resolve_congr c o.type fun x hx=>hr.ev (by
   rw [Array.all_eq_true_iff_forall_mem] at h2
   exact h2 x hx)
  rw [hcong]
  split at hc
  ·rename_i d hdf
   rw [Sem.run_bind,deferOf_run hdf]
   have hstep:o.uponIn (Wf none) 0 P a (wpOpsIn (Wf none) 0 P ops Q []) Q (.ok (.defer d) w) = wpOpsIn (Wf none) 0 P ops Q [] ({ a with defers:=d :: a.defers }.put o.dst undef) w:=rfl
   show o.uponIn (Wf none) 0 P a (wpOpsIn (Wf none) 0 P ops Q []) Q (.ok (.defer d) w)
   rw [hstep,hd]
   exact hq d e _ w ⟨hr.size,hr.slots,by simp [Act.put,hr.defers],hr.fixed,hr.low⟩ hc
  ·exact hc.elim
theorem wpIn_of_wpc {P:Program} {A:Ann} {F:Fm} (hm:P.follows .mixedOrders = true) :
  ∀ (c:Code) (ro:Option Nat) (k:Ks) (ds:List Deferred) (e:Env) (a:Act) (w:World) (Q:Exit → Act → World → Prop),okCode F ro.isSome c = true → Rep F ds e a → KsOk F (hasRF c) ds k Q → wpc P A c k ds e w → c.wpIn (Wf ro) 0 P Q a w
 | .skip,ro,k,ds,e,a,w,Q,ho,hr,hk,h=>wpIn_skip (hk.N ds _ _ _ (fun _=>rfl) hr h)
 | .region id ops draw,ro,k,ds,e,a,w,Q,ho,hr,hk,h=>by
  simp only [wpc] at h
  simp only [okCode] at ho
  split at h
  ·rename_i hl
   rw [hl] at ho
   exact wpIn_regW hm ho hr h (fun e a w hr hn=>hk.N ds e a w (fun _=>rfl) hr hn) (fun c w hc=>hk.P c ds w (fun _=>rfl) hc)
  ·rename_i c hl
   rw [hl] at ho
   simp only [Bool.and_eq_true,Bool.not_eq_true'] at ho
   obtain ⟨⟨h1,h2⟩,h3⟩:=ho
   have:ro = none:=by cases ro <;> simp_all
   subst this
   have:draw = false:=h2
   subst this
   have hrf:hasRF (.region id ops false) = true:=by
    obtain ⟨_,o,_,hlast,hop⟩:=lastDefer_spec hl
    simp [hasRF,hlast,hop]
   rw [hrf] at hk
   exact wpIn_deferRegion (K:=fun d e w=>k.N (d :: ds) e w) hl h3 hr h (fun d e a w hr hn=>hk.N _ e a w (fun h=>by cases h) hr hn) (fun c w hc=>hk.P c ds w (fun h=>by cases h) hc)
 | .seq x y,ro,k,ds,e,a,w,Q,ho,hr,hk,h=>by
  simp only [okCode,Bool.and_eq_true] at ho
  simp only [wpc] at h
  have hb:hasRF (.seq x y) = false → hasRF x = false ∧ hasRF y = false:=by simp [hasRF]
  have hthen:∀ (K:Act → World → Prop) e a w,e ≠ Exit.normal → Q e a w → Exit.then K Q e a w:=fun K e a w hne hq=>by
   cases e <;> first | exact absurd rfl hne | exact hq
  have hy:∀ ds',(hasRF x = false → ds' = ds) → KsOk F (hasRF y) ds' k Q:=fun ds' hd=>hk.sub fun hf=>⟨(hb hf).2,hd (hb hf).1⟩
  refine wpIn_seq ?_
  split at h
  ·refine wpIn_of_wpc hm x ro _ ds e a w _ ho.1 hr (hk.setN (fun hf=>(hb hf).1) (fun d e a w hd hr hn=>?_) (hthen _)) h
   exact wpIn_of_wpc hm y ro k d e a w Q ho.2 hr (hy d hd) hn
  ·rename_i l _
   cases hx:hasRF x with
   | true=>
    rw [hx] at h
    refine wpIn_of_wpc hm x ro _ ds e a w _ ho.1 hr (hk.setN (fun hf=>(hb hf).1) (fun d e a w hd hr hn=>?_) (hthen _)) h
    obtain ⟨xs,hxs,hj⟩:=getTs_spec l e _ hn
    have:=hj e
    dsimp only at this
    rw [hxs] at this
    exact wpIn_of_wpc hm y ro k d e a w Q ho.2 hr (hy d hd) this
   | false=>
    rw [hx] at h
    refine wpIn_of_wpc hm x ro _ ds e a w _ ho.1 hr (hk.setN (fun hf=>(hb hf).1) (fun d e' a' w' hd hr' hn=>?_) (hthen _)) h
    obtain rfl:=hd hx
    obtain ⟨xs,hxs,hj⟩:=getTs_spec l e' _ hn
    have:=hj e'
    dsimp only at this
    rw [hxs] at this
    exact wpIn_of_wpc hm y ro k d e' a' w' Q ho.2 hr' (hy d (fun _=>rfl)) this
 | .cond c x y,ro,k,ds,e,a,w,Q,ho,hr,hk,h=>by
  simp only [okCode,Bool.and_eq_true] at ho
  simp only [wpc] at h
  have hb:hasRF (.cond c x y) = false → hasRF x = false ∧ hasRF y = false:=by simp [hasRF]
  split at h
  ·rename_i t ht
   refine wpIn_cond (t:=t) (by rw [hr.ev ho.1.1]; exact ht) ?_
   cases t with
   | true=>exact wpIn_of_wpc hm x ro k ds e a w Q ho.1.2 hr (hk.sub fun hf=>⟨(hb hf).1,rfl⟩) (h.1 rfl)
   | false=>exact wpIn_of_wpc hm y ro k ds e a w Q ho.2 hr (hk.sub fun hf=>⟨(hb hf).2,rfl⟩) (h.2 rfl)
  ·exact h.elim
 | .block id c,ro,k,ds,e,a,w,Q,ho,hr,hk,h=>by
  simp only [okCode] at ho
  simp only [wpc] at h
  refine wpIn_block ?_
  refine wpIn_of_wpc hm c ro _ ds e a w _ ho hr ?_ h
  refine ⟨fun d e a w hd hr hn=>hk.N d e a w hd hr hn,fun i d e a w hd hr hx=>?_,fun d e a w hd hr hx=>hk.R d e a w hd hr hx,fun c d w hd hc a ha hf=>hk.P c d w hd hc a ha hf⟩
  simp only [Exit.inBlock]
  cases hb:Nat.beq i id with
  | true=>
   have:i = id:=Nat.eq_of_beq_eq_true hb
   simp only [hb] at hx
   rw [if_pos this]; exact hk.N d e a w hd hr hx
  | false=>
   have:i ≠ id:=fun he=>by subst he; rw [Nat.beq_refl] at hb; cases hb
   simp only [hb] at hx
   rw [if_neg this]; exact hk.X i d e a w hd hr hx
 | .exit id,ro,k,ds,e,a,w,Q,ho,hr,hk,h=>wpIn_exit (hk.X id ds _ _ _ (fun _=>rfl) hr h)
 | .ret,ro,k,ds,e,a,w,Q,ho,hr,hk,h=>wpIn_ret (hk.R ds _ _ _ (fun _=>rfl) hr h)
 | .loop c,ro,k,ds,e,a,w,Q,ho,hr,hk,h=>by
  simp only [okCode] at ho
  simp only [wpc] at h
  have hthen:∀ (K:Act → World → Prop) e a w,e ≠ Exit.normal → Q e a w → Exit.then K Q e a w:=fun K e a w hne hq=>by
   cases e <;> first | exact absurd rfl hne | exact hq
  obtain ⟨xs,hxs,h⟩:=getTs_spec _ e _ h
  have hk':KsOk F (hasRF c) ds k Q:=hk
  cases hrf:hasRF c with
  | true=>
   rw [hrf] at h hk'
   obtain ⟨I,μ,h0,hround⟩:=h
   refine wpIn_loop_n (fun m a w=>∃ e xs ds,Rep F ds e a ∧ putTs (loopOf A c) xs e = e ∧ I xs ds w ∧ m = μ xs w) (μ xs w) ⟨e,xs,ds,hr,hxs,h0,rfl⟩ ?_
   rintro m a w ⟨e,xs,ds1,hr,hxs,hI,rfl⟩
   have:=hround xs ds1 e w hI
   dsimp only at this
   rw [hxs] at this
   refine wpIn_of_wpc hm c ro _ ds1 e a w _ ho hr ?_ this
   rw [hrf]
   refine (hk'.sub (b':=true) (ds':=ds1) (fun h=>by cases h)).setN (fun h=>h) (fun d e' a w' hd hr hn=>?_) (hthen _)
   obtain ⟨ys,hys,hI',hlt⟩:=getTs_spec _ e' _ hn
   exact ⟨_,hlt,e',ys,d,hr,hys,hI',rfl⟩
  | false=>
   rw [hrf] at h hk'
   obtain ⟨I,μ,h0,hround⟩:=h
   refine wpIn_loop_n (fun m a w=>∃ e xs,Rep F ds e a ∧ putTs (loopOf A c) xs e = e ∧ I xs w ∧ m = μ xs w) (μ xs w) ⟨e,xs,hr,hxs,h0,rfl⟩ ?_
   rintro m a w ⟨e,xs,hr,hxs,hI,rfl⟩
   have:=hround xs e w hI
   dsimp only at this
   rw [hxs] at this
   refine wpIn_of_wpc hm c ro _ ds e a w _ ho hr ?_ this
   rw [hrf]
   refine hk'.setN (fun h=>h) (fun d e' a' w' hd hr' hn=>?_) (hthen _)
   obtain rfl:=hd rfl
   obtain ⟨ys,hys,hI',hlt⟩:=getTs_spec _ e' _ hn
   exact ⟨_,hlt,e',ys,hr',hys,hI',rfl⟩
 | .rangeFunc f ps assign body,ro,k,ds,e,a,w,Q,ho,hr,hk,h=>by
  simp only [okCode,Bool.and_eq_true,Bool.not_eq_true'] at ho
  obtain ⟨⟨⟨⟨h1,h2⟩,h3⟩,h4⟩,h5⟩:=ho
  have:ro = none:=by cases ro <;> simp_all
  subst this
  simp only [wpc] at h
  split at h
  ·rename_i g fi ca hf
   split at h
   ·rename_i tys hty
    cases hb:(enters P g && !hasRF body && Nat.beq ps.size tys.length) with
    | false=>rw [hb] at h; exact h.elim
    | true=>
     rw [hb] at h
     simp only [cond_true] at h
     simp only [Bool.and_eq_true,Bool.not_eq_true'] at hb
     obtain ⟨⟨hb1,hb2⟩,hb3⟩:=hb
     have hrf:hasRF (.rangeFunc f ps assign body) = true:=rfl
     rw [hrf] at hk
     refine wpIn_rangeF hr h2 hf hb1 h3 (Nat.eq_of_beq_eq_true hb3) h4 h ?_ ?_ ?_ ?_ ?_
     ·intro x W Kc Kx hx
      split at hx
      ·rename_i e1 he1
       refine ⟨e1,he1,fun l a1 hr1=>?_⟩
       refine wpIn_of_wpc hm body (some l) _ [] e1 a1 W _ h5 hr1 ?_ hx
       exact ⟨fun _ _ _ _ _ _ h=>h,fun _ _ _ _ _ _ _ h=>h,fun _ _ _ _ _ _ h=>h,fun _ _ _ _ h=>h.elim⟩
      ·exact hx.elim
     ·exact fun d a' W hr h=>hk.N _ _ _ _ (fun h=>by cases h) hr h
     ·exact fun d id a' W hr h=>hk.X _ _ _ _ _ (fun h=>by cases h) hr (exitK_spec h)
     ·exact fun d a' W hr h=>hk.R _ _ _ _ (fun h=>by cases h) hr h
     ·intro d c W h
      split at h
      ·rename_i hc; cases hc
      ·rename_i id hc; cases hc; exact .inr ⟨id,rfl⟩
      ·rename_i hc; cases hc; exact .inl rfl
      ·exact h.elim
   ·exact h.elim
  ·exact h.elim
 | .scope c,ro,k,ds,e,a,w,Q,ho,hr,hk,h=>h.elim
 | .label _,ro,k,ds,e,a,w,Q,ho,hr,hk,h=>h.elim
 | .goto _,ro,k,ds,e,a,w,Q,ho,hr,hk,h=>h.elim
 | .refuse _,ro,k,ds,e,a,w,Q,ho,hr,hk,h=>h.elim
end Go.Proofs.YtffdjfkekdoeaaaDoor.Fw
end
section
namespace Go.Proofs.YtffdjfkekdoeaaaDoor.Fw
open RowKit
def resVal (P:Program) (r:ResultVar) (e:Env) (w:World) (K:Value → Prop):Prop:=
 match r with
 | .tmp t=>K (e t)
 | .cell a t=>
  match e a with
  | .pointer (some ad)=>
   match tyOf P t with
   | .sc s=>bif (P.underlying t).isSome then LoadT (.sc s) w ad fun y=>K (s.val y) else False
   | .agg l=>bif Nat.beq (sizeP P t) l.length && (P.info? t).isSome then LoadT (.agg l) w ad fun y=>K (.agg (vals l y).toArray) else False
  | _=>False
def retW (P:Program) (e:Env) (w:World):List ResultVar → (List Value → Prop) → Prop
 | [],K=>K []
 | r :: rs,K=>resVal P r e w fun v=>retW P e w rs fun vs=>K (v :: vs)
def oneOr:List Value → Value
 | [v]=>v
 | vs=>.tuple vs.toArray
def okRes (n:Nat):ResultVar → Bool
 | .tmp t=>Nat.blt t n
 | .cell a _=>Nat.blt a n
theorem run_loadVar_of {P:Program} {t:TypeId} {a:Addr} {w:World} {K:Value → Prop} (h:match tyOf P t with
   | .sc s=>bif (P.underlying t).isSome then LoadT (.sc s) w a fun y=>K (s.val y) else False
   | .agg l=>bif Nat.beq (sizeP P t) l.length && (P.info? t).isSome then LoadT (.agg l) w a fun y=>K (.agg (vals l y).toArray) else False):∃ v,(loadVar t a).run P w = .ok v w ∧ K v:=by
 unfold tyOf at h
 cases hu:P.underlying t with
 | none=>
  have hag:isAggT P t = false:=by unfold isAggT; rw [hu]
  rw [hag,hu] at h
  exact h.elim
 | some d=>
 cases hag:isAggT P t with
 | false=>
  rw [hag,hu] at h
  obtain ⟨x,hc,hk⟩:=h
  exact ⟨_,by simp [loadVar,run_isAgg hu,hag,hc],hk⟩
 | true=>
  rw [hag] at h
  simp only [cond_true] at h
  cases hb:(Nat.beq (sizeP P t) (scsOf P 8 t).length && (P.info? t).isSome) with
  | false=>rw [hb] at h; exact h.elim
  | true=>
   rw [hb] at h
   obtain ⟨x,hc,hk⟩:=h
   simp only [Bool.and_eq_true] at hb
   have hlen:(vals (scsOf P 8 t) x).length = (scsOf P 8 t).length:=vals_length _ _
   have hsz:sizeP P t = (vals (scsOf P 8 t) x).length:=by rw [hlen]; exact Nat.eq_of_beq_eq_true hb.1
   refine ⟨_,?_,hk⟩
   simp only [loadVar,Sem.run_bind,run_isAgg hu,Result.andThen_ok,hag,if_true,run_sizeOf_some hb.2,hsz,run_loadCells_holds hc,Sem.run_pure]
def resSem (tmps:Array Value):ResultVar → Sem Value
 | .tmp t=>pure (tmps.getD t undef)
 | .cell a t=>do loadVar t (← asAddr (tmps.getD a undef))
theorem run_resSem {P:Program} {F:Fm} {ds:List Deferred} {e:Env} {a:Act} {w:World} (hr:Rep F ds e a):∀ (rs:List ResultVar) (K:List Value → Prop),rs.all (okRes F.n) = true → retW P e w rs K →
  ∃ vs,(rs.mapM (resSem a.tmps)).run P w = .ok vs w ∧ K vs ∧ vs.length = rs.length
 | [],K,_,h=>⟨[],by simp,h,rfl⟩
 | r :: rs,K,ho,h=>by
  simp only [List.all_cons,Bool.and_eq_true] at ho
  have step:∀ K:Value → Prop,resVal P r e w K → ∃ v,(resSem a.tmps r).run P w = .ok v w ∧ K v:=fun K hk=>by
   cases r with
   | tmp t=>
    refine ⟨e t,?_,hk⟩
    have:=hr.slots t (by simpa [okRes] using ho.1)
    simp only [resSem,this,Sem.run_pure]
   | cell ad t=>
    have hs:=hr.slots ad (by simpa [okRes] using ho.1)
    simp only [resVal] at hk
    split at hk
    ·rename_i b hb
     obtain ⟨v,h1,h2⟩:=run_loadVar_of hk
     exact ⟨v,by simp only [resSem,hs,hb,asAddr,Sem.run_bind,Sem.run_pure,Result.andThen_ok,h1],h2⟩
    ·exact hk.elim
  obtain ⟨v,h1,h2⟩:=step _ h
  obtain ⟨vs,h3,h4,h5⟩:=run_resSem hr rs _ ho.2 h2
  exact ⟨v :: vs,by simp [List.mapM_cons,h1,h3],h4,by simp [h5]⟩
theorem run_results_of {P:Program} {fn:Func} {F:Fm} {ds:List Deferred} {e:Env} {a:Act} {w:World} {K:List Value → Prop} (hr:Rep F ds e a) (ho:fn.results.toList.all (okRes F.n) = true) (h:retW P e w fn.results.toList K) :
  ∃ vs,(results fn a.tmps).run P w = .ok (oneOr vs) w ∧ K vs:=by
 obtain ⟨vs,h1,h2,_⟩:=run_resSem hr _ _ ho h
 refine ⟨vs,?_,h2⟩
 have hm:(fn.results.mapM (resSem a.tmps)).run P w = .ok vs.toArray w:=by
  have:fn.results = fn.results.toList.toArray:=by simp
  rw [this,List.mapM_toArray,Sem.run_map,h1]
  rfl
 have hre:results fn a.tmps = (do let vs ← fn.results.mapM (resSem a.tmps); pure (if h:vs.size = 1 then vs[0] else .tuple vs)):=rfl
 rw [hre,Sem.run_bind,hm]
 match vs with
 | []=>rfl
 | [v]=>rfl
 | _ :: _ :: _=>simp [oneOr]
def env0 (args:Array Value):Env:=fun t=>args.getD t undef
def okFn (fn:Func) (c:Code) (k:Nat):Bool:=okCode ⟨fn.ntmps,[]⟩ false c && fn.results.toList.all (okRes fn.ntmps) && Nat.ble k fn.ntmps
theorem rep0 {args:Array Value} {n:Nat} {fx:List (Nat × Value)} (h:args.size ≤ n) (hfx:∀ p ∈ fx,env0 args p.1 = p.2) (hl:∀ p ∈ fx,p.1 < n):Rep ⟨n,fx⟩ [] (env0 args) { tmps:=args ++ Array.replicate (n - args.size) undef,defers:=[] }:=by
 refine ⟨by simp; omega,fun t ht=>?_,rfl,hfx,hl⟩
 unfold env0
 by_cases hlt:t < args.size
 ·simp [Array.getElem?_append,hlt]
 ·simp [Array.getElem?_append,hlt,show t - args.size < n - args.size by simp at ht; omega]
def RetM:List Deferred → World → (World → Prop) → Prop
 | [],w,K=>K w
 | d :: ds,w,K=>
  match d.target with
  | .collected r=>w.heap[r]? = some (.deferred (some [])) ∧ RetM ds (w.putObj r (.deferred none)) K
  | .fn _ _=>False
  | _=>False
theorem leavesM_of_ret {P:Program} {fn:Func} {tmps:Array Value} {R:Ending → World → Prop} {K:World → Prop} (h0:∀ w,K w → ∃ v,(results fn tmps).run P w = .ok v w ∧ R (.returned v) w) :
  ∀ (ds:List Deferred) (w:World),RetM ds w K → LeavesInM (Wf none) 0 P fn tmps R ds .returning w
 | [],w,h=>h0 w h
 | d :: ds,w,h=>by
  unfold RetM at h
  refine ⟨by simp,.inl ?_⟩
  split at h
  ·rename_i r hr
   exact ⟨r,_,hr,run_takeDeferred h.1,leavesM_of_ret h0 ds _ h.2⟩
  ·exact h.elim
  ·exact h.elim
theorem leavesM_of_panic {P:Program} {fn:Func} {tmps:Array Value} {R:Ending → World → Prop} {ch:List PanicEntry} {K:World → Prop} (h0:∀ w,K w → R (.panicked ch) w) :
  ∀ (ds:List Deferred) (w:World),RetM ds w K → LeavesInM (Wf none) 0 P fn tmps R ds (.panicking ch) w
 | [],w,h=>h0 w h
 | d :: ds,w,h=>by
  unfold RetM at h
  refine ⟨by simp,.inl ?_⟩
  split at h
  ·rename_i r hr
   exact ⟨r,_,hr,run_takeDeferred h.1,leavesM_of_panic h0 ds _ h.2⟩
  ·exact h.elim
  ·exact h.elim
def fnKs (P:Program) (fn:Func) (R:Ending → World → Prop):Ks where
 N:=fun ds e w=>RetM ds w fun w=>retW P e w fn.results.toList fun vs=>R (.returned (oneOr vs)) w
 X:=fun _ _ _ _=>False
 R:=fun ds e w=>RetM ds w fun w=>retW P e w fn.results.toList fun vs=>R (.returned (oneOr vs)) w
 P:=fun ch ds w=>RetM ds w fun w=>R (.panicked ch) w
def defKs (sl:List Nat) (Rn:List Deferred → List Value → World → Prop) (Rp:List PanicEntry → List Deferred → World → Prop):Ks where
 N:=fun ds e w=>Rn ds (sl.map e) w
 X:=fun _ _ _ _=>False
 R:=fun ds e w=>Rn ds (sl.map e) w
 P:=Rp
theorem calls_of_wpc {P:Program} {A:Ann} {f:FuncId} {fn:Func} {c:Code} {args:Array Value} {w:World} {R:Ending → World → Prop} (hm:P.follows .mixedOrders = true) (hf:P.funcs[f]? = some fn) (hb:fn.body = some c)
  (ho:okFn fn c args.size = true) (h:wpc P A c (fnKs P fn R) [] (env0 args) w):Calls P f args w R:=by
 simp only [okFn,Bool.and_eq_true] at ho
 obtain ⟨⟨h1,h2⟩,h3⟩:=ho
 refine (callsIn_wide (n:=0)).1 ?_
 rw [← Wf_none]
 refine callsIn_of_wp_marks hf hb trivial ?_
 refine wpIn_of_wpc (F:=⟨fn.ntmps,[]⟩) hm c none _ [] _ _ w _ h1 (rep0 (Nat.le_of_ble_eq_true h3) (by simp) (by simp)) ?_ h
 have hret:∀ (ds:List Deferred) (e:Env) (a:Act) (w:World),Rep ⟨fn.ntmps,[]⟩ ds e a → (RetM ds w fun w=>retW P e w fn.results.toList fun vs=>R (.returned (oneOr vs)) w) → LeavesInM (Wf none) 0 P fn a.tmps R a.defers .returning w:=fun ds e a w hr hn=>by
  rw [hr.defers]
  refine leavesM_of_ret (fun w hk=>?_) ds w hn
  obtain ⟨vs,h4,h5⟩:=run_results_of hr h2 hk
  exact ⟨_,h4,h5⟩
 refine ⟨fun ds e a w _ hr hn=>hret ds e a w hr hn,fun i ds e a w _ hr hx=>hx.elim,fun ds e a w _ hr hx=>hret ds e a w hr hx,fun ch ds w _ hc a ha _=>?_⟩
 show LeavesInM (Wf none) 0 P fn a.tmps R a.defers (.panicking ch) w
 rw [ha]
 exact leavesM_of_panic (fun w hk=>hk) ds w hc
theorem wp_of_wpc {P:Program} {A:Ann} {fn:Func} {c:Code} {e:Env} {a:Act} {w:World} {R:Ending → World → Prop} {n:Nat} (hm:P.follows .mixedOrders = true) (ho:(okCode ⟨n,[]⟩ false c && fn.results.toList.all (okRes n)) = true) (hrf:hasRF c = false)
  (hr:Rep ⟨n,[]⟩ [] e a) (h:wpc P A c (fnKs P fn R) [] e w):c.wp P (bodyPost P fn R) a w:=by
 simp only [Bool.and_eq_true] at ho
 refine (wpIn_wide (n:=0)).1 ?_
 rw [← Wf_none]
 refine wpIn_of_wpc (F:=⟨n,[]⟩) hm c none _ [] _ _ w _ ho.1 hr ?_ h
 rw [hrf]
 refine ⟨fun ds e a w hd hr hn=>?_,fun i ds e a w _ hr hx=>hx.elim,fun ds e a w hd hr hx=>?_,fun ch ds w hd hc a ha _=>?_⟩
 ·obtain rfl:=hd rfl
  obtain ⟨vs,h4,h5⟩:=run_results_of hr ho.2 hn
  exact ⟨hr.defers,_,h4,h5⟩
 ·obtain rfl:=hd rfl
  obtain ⟨vs,h4,h5⟩:=run_results_of hr ho.2 hx
  exact ⟨hr.defers,_,h4,h5⟩
 ·obtain rfl:=hd rfl
  exact ⟨ha,hc⟩
end Go.Proofs.YtffdjfkekdoeaaaDoor.Fw
end
section
namespace Go.Proofs.YtffdjfkekdoeaaaDoor.Fw
open RowKit
structure Chg (S:Nat → Prop) (w w':World):Prop where
 os:w'.os = w.os
 tape:w'.tape = w.tape
 output:w'.output = w.output
 size:w.heap.size ≤ w'.heap.size
 block:∀ k,k < w.heap.size → ¬ S k → w'.heap[k]? = w.heap[k]?
abbrev Nil:Nat → Prop:=fun _=>False
theorem Chg.refl {S:Nat → Prop} (w:World):Chg S w w:=⟨rfl,rfl,rfl,Nat.le_refl _,fun _ _ _=>rfl⟩
theorem Chg.trans {S T U:Nat → Prop} {a b c:World} (h:Chg S a b) (k:Chg T b c) (h1:∀ i,i < a.heap.size → S i → U i) (h2:∀ i,i < a.heap.size → T i → U i):Chg U a c:=
 ⟨k.os.trans h.os,k.tape.trans h.tape,k.output.trans h.output,Nat.le_trans h.size k.size,fun i hi hu=>
  (k.block i (Nat.lt_of_lt_of_le hi h.size) (fun ht=>hu (h2 i hi ht))).trans (h.block i hi (fun hs=>hu (h1 i hi hs)))⟩
theorem Chg.mono {S T:Nat → Prop} {a b:World} (h:Chg S a b) (h1:∀ i,i < a.heap.size → S i → T i):Chg T a b:=
 ⟨h.os,h.tape,h.output,h.size,fun i hi hu=>h.block i hi fun hs=>hu (h1 i hi hs)⟩
theorem Chg.then {S:Nat → Prop} {a b c:World} (h:Chg S a b) (k:Chg S b c):Chg S a c:=h.trans k (fun _ _ h=>h) (fun _ _ h=>h)
theorem Chg.nil {S:Nat → Prop} {a b:World} (h:Chg Nil a b):Chg S a b:=h.mono fun _ _ h=>h.elim
theorem Chg.alloc {S:Nat → Prop} (w:World) (o:Obj):Chg S w (w.alloc o):=⟨rfl,rfl,rfl,by simp,fun k hk _=>heap_alloc_old w o k hk⟩
theorem Chg.drew {S:Nat → Prop} (w:World):Chg S w w.drew:=⟨rfl,rfl,rfl,Nat.le_refl _,fun _ _ _=>rfl⟩
theorem Chg.setCell {S:Nat → Prop} (w:World) {a:Addr} (v:Value) (h:S a.block):Chg S w (w.setCell a v):=
 ⟨rfl,rfl,rfl,by simp,fun k hk hs=>heap_setCell_other w a k v (fun e=>hs (e ▸ h))⟩
theorem Chg.grown {S:Nat → Prop} {w w':World} {row:Option Nat} (hg:w.grownBy w' row) (h:∀ k,row = some k → S k):Chg S w w':=
 ⟨hg.os,hg.tape,hg.output,hg.size,fun k hk hs=>hg.block k hk fun e=>hs (h k e.symm)⟩
theorem Chg.toBelow {w w':World} (h:Chg Nil w w'):Below w.heap.size w w':=⟨h.os,h.tape,h.output,h.size,fun k hk=>h.block k hk (fun h=>h)⟩
theorem lt_of_heap {w:World} {k:Nat} {o:Obj} (h:w.heap[k]? = some o):k < w.heap.size:=(Array.getElem?_eq_some_iff.1 h).1
theorem Chg.heap {S:Nat → Prop} {w w':World} (h:Chg S w w') {k:Nat} {o:Obj} (hk:w.heap[k]? = some o) (hs:¬ S k):w'.heap[k]? = some o:=
 (h.block k (lt_of_heap hk) hs).trans hk
theorem Chg.cell {S:Nat → Prop} {w w':World} (h:Chg S w w') {a:Addr} {v:Value} (hk:w.cell? a = some v) (hs:¬ S a.block):w'.cell? a = some v:=
 (World.cell?_of_block (h.block a.block (World.block_lt_of_cell? w a hk) hs)).trans hk
theorem Chg.turn {B:Nat} {w0 W W':World} (h:Chg Nil w0 W) (t:Turn B W W') (hB:w0.heap.size ≤ B):Chg Nil w0 W':=
 ⟨t.os.trans h.os,t.tape.trans h.tape,t.output.trans h.output,Nat.le_trans h.size t.size,fun k hk _=>(t.old k (by omega) (Nat.lt_of_lt_of_le hk h.size)).trans (h.block k hk fun h=>h)⟩
theorem Turn.cells {B:Nat} {W W':World} (t:Turn B W W') {k:Nat} {cs:Array Value} {e:TypeId} {f:Nat × Nat} (h:W.heap[k]? = some (.cells cs e f)):W'.heap[k]? = some (.cells cs e f):=t.keep k _ h (fun r hr=>by cases hr)
theorem Turn.map {B:Nat} {W W':World} (t:Turn B W W') {k:Nat} {es:Array MapEntry} {c:Nat} (h:W.heap[k]? = some (.map es c)):W'.heap[k]? = some (.map es c):=t.keep k _ h (fun r hr=>by cases hr)
theorem Turn.deferred {B:Nat} {W W':World} (t:Turn B W W') {k:Nat} {ds:Option (List Deferred)} (h:W.heap[k]? = some (.deferred ds)):W'.heap[k]? = some (.deferred ds):=t.keep k _ h (fun r hr=>by cases hr)
def Marks (w:World) (rs:List Nat):Prop:=rs.Nodup ∧ ∀ r ∈ rs,w.heap[r]? = some (.deferred (some []))
def marksOf (rs:List Nat):List Deferred:=rs.map Fw.mark
theorem Marks.chg {S:Nat → Prop} {w w':World} {rs:List Nat} (h:Marks w rs) (hc:Chg S w w') (hs:∀ r ∈ rs,¬ S r):Marks w' rs:=⟨h.1,fun r hr=>hc.heap (h.2 r hr) (hs r hr)⟩
theorem Marks.turn {B:Nat} {w w':World} {rs:List Nat} (h:Marks w rs) (t:Turn B w w'):Marks w' rs:=⟨h.1,fun r hr=>t.deferred (h.2 r hr)⟩
theorem Marks.cons {w:World} {rs:List Nat} {r:Nat} (h:Marks w rs) (hr:w.heap[r]? = some (.deferred (some []))) (hn:r ∉ rs):Marks w (r :: rs):=
 ⟨List.nodup_cons.2 ⟨hn,h.1⟩,fun k hk=>(List.mem_cons.1 hk).elim (fun he=>he ▸ hr) (h.2 k)⟩
theorem retM_marks:∀ (rs:List Nat) (w:World) {K:World → Prop},Marks w rs → (∀ w',Chg (fun k=>k ∈ rs) w w' → K w') → RetM (marksOf rs) w K
 | [],w,K,_,hk=>hk w (Chg.refl w)
 | r :: rs,w,K,h,hk=>by
  refine ⟨h.2 r (by simp),?_⟩
  have hn:=List.nodup_cons.1 h.1
  have hc:Chg (· = r) w (w.putObj r (.deferred none)):=⟨rfl,rfl,rfl,by simp [World.putObj],fun k hk hs=>by
   show (w.heap.setIfInBounds r _)[k]? = _
   rw [Array.getElem?_setIfInBounds_ne (fun e:r = k=>hs e.symm)]⟩
  refine retM_marks rs _ ⟨hn.2,fun k hk'=>hc.heap (h.2 k (by simp [hk'])) fun he=>?_⟩ fun w' hc'=>?_
  ·have he:k = r:=he
   subst he; exact hn.1 hk'
  ·refine hk w' (hc.trans hc' (fun i _ hi=>?_) fun i _ hi=>by simp [hi])
   have hi:i = r:=hi
   simp [hi]
theorem add0 (a:Addr):a.add 0 = a:=Addr.add_zero' a
theorem add_add (a:Addr) (i j:Nat):(a.add i).add j = a.add (i + j):=by
 cases i with
 | zero=>simp [Addr.add_zero']
 | succ i=>
  cases j with
  | zero=>simp [Addr.add_zero']
  | succ j=>simp only [Addr.add_succ']; rw [show i + 1 + (j + 1) = (i + 1 + j) + 1 by omega,Addr.add_succ']; simp; omega
theorem mk_add (b o n:Nat):(Addr.mk b o none).add n = ⟨b,o + n,none⟩:=Addr.add_lit b o n
theorem add_block (a:Addr) (n:Nat):(a.add n).block = a.block:=by
 cases n with
 | zero=>rw [add0]
 | succ n=>rw [Addr.add_succ']
theorem cellOf {w:World} {b:Nat} {cs:Array Value} {t:TypeId} {fr:Nat × Nat} (h:w.heap[b]? = some (.cells cs t fr)) (k:Nat):w.cell? ((Addr.mk b 0 none).add k) = cs[k]?:=by
 rw [mk_add,cell_of_row w b _ cs t fr h,Nat.zero_add]
theorem cellOf0 {w:World} {b:Nat} {cs:Array Value} {t:TypeId} {fr:Nat × Nat} (h:w.heap[b]? = some (.cells cs t fr)):w.cell? (Addr.mk b 0 none) = cs[0]?:=by
 rw [cell_of_row w b _ cs t fr h]
theorem frozenOf {w:World} {b k:Nat} {cs:Array Value} {t:TypeId} (h:w.heap[b]? = some (.cells cs t (0,0))):w.frozen? ((Addr.mk b 0 none).add k) = false:=by
 rw [mk_add]; exact frozen_of_row w b _ cs t h
theorem Br.mk {b:Bool} {A B:Prop} (h1:b = true → A) (h2:b = false → B):Br b A B:=⟨h1,h2⟩
theorem Br.t {b:Bool} {A B:Prop} (h:b = true) (h1:A):Br b A B:=⟨fun _=>h1,fun hf=>by rw [h] at hf; cases hf⟩
theorem Br.f {b:Bool} {A B:Prop} (h:b = false) (h1:B):Br b A B:=⟨fun hf=>(by rw [h] at hf; cases hf),fun _=>h1⟩
theorem Br.dec {p:Prop} [Decidable p] {A B:Prop} (h1:p → A) (h2:¬ p → B):Br (decide p) A B:=⟨fun h=>h1 (of_decide_eq_true h),fun h=>h2 (of_decide_eq_false h)⟩
theorem Br.yes {p:Prop} [Decidable p] {A B:Prop} (h:p) (h1:A):Br (decide p) A B:=Br.t (decide_eq_true h) h1
theorem Br.no {p:Prop} [Decidable p] {A B:Prop} (h:¬ p) (h1:B):Br (decide p) A B:=Br.f (decide_eq_false h) h1
theorem NilCk.mk {a:Addr} {K:Addr → Prop} (k:K a):NilCk (some a) K:=⟨a,rfl,k⟩
theorem New.mk {w:World} {o:Obj} {K:Nat → World → Prop} (k:∀ b w',b = w.heap.size → w'.heap[b]? = some o → w'.heap.size = b + 1 → Chg Nil w w' → K b w'):New w o K:=
 k _ _ rfl (heap_alloc_new w o) (by simp) (Chg.alloc w o)
theorem LoadT.sc {w:World} {a:Addr} {s:Sc} {x:s.den} {K:s.den → Prop} (h:w.cell? a = some (s.val x)) (k:K x):LoadT (.sc s) w a K:=⟨x,h,k⟩
theorem Idx.mk {a:Addr} {len sz:Nat} {i:Int} {K:Addr → Prop} (j:Nat) (hi:i = (j:Int)) (hj:j < len) (k:K (a.add (j * sz))):Idx (some a) len sz i K:=
 ⟨a,rfl,by omega,by omega,by rw [hi]; simpa using k⟩
theorem Join.mk {σ:Type} {Y:σ → Env → World → Prop} {F:(σ → World → Prop) → Prop} (h:F fun x w=>∀ g,Y x g w):Join Y F:=h
theorem Join.by' {σ:Type} {Y:σ → Env → World → Prop} {F:(σ → World → Prop) → Prop} (P:σ → World → Prop) (h1:∀ x w g,P x w → Y x g w) (h2:∀ J:σ → World → Prop,(∀ x w,P x w → J x w) → F J):Join Y F:=
 h2 _ fun x w hp g=>h1 x w g hp
theorem LoopT.mk {σ:Type} {x0:σ} {w:World} {body:σ → Env → World → (σ → World → Prop) → Prop} (I:σ → World → Prop) (μ:σ → World → Nat) (h0:I x0 w)
  (h:∀ x g w,I x w → body x g w fun y w'=>I y w' ∧ μ y w' < μ x w):LoopT x0 w body:=⟨I,μ,h0,h⟩
def Ret (P:Program) (f:FuncId) (args:Array Value) (t:Ty) (w:World) (Q:t.den → World → Prop):Prop:=Calls P f args w fun e w'=>∃ x,e = .returned (t.val x) ∧ Q x w'
def RetN (P:Program) (f:FuncId) (args:Array Value) (ts:List Ty) (w:World) (Q:tdens ts → World → Prop):Prop:=Calls P f args w fun e w'=>∃ x,e = .returned (.tuple (tvals ts x).toArray) ∧ Q x w'
theorem Ret.call {P:Program} {f:FuncId} {args:Array Value} {t:Ty} {w:World} {K Q:t.den → World → Prop} {Kp:List PanicEntry → World → Prop} (h:Ret P f args t w Q) (k:∀ x w',Q x w' → K x w'):CallT P f args t w K Kp:=
 Calls.mono h fun e w' he=>by obtain ⟨x,rfl,hq⟩:=he; exact ⟨x,rfl,k x w' hq⟩
theorem RetN.call {P:Program} {f:FuncId} {args:Array Value} {ts:List Ty} {w:World} {K Q:tdens ts → World → Prop} {Kp:List PanicEntry → World → Prop} (h:RetN P f args ts w Q) (k:∀ x w',Q x w' → K x w'):CallN P f args ts w K Kp:=
 Calls.mono h fun e w' he=>by obtain ⟨x,rfl,hq⟩:=he; exact ⟨x,rfl,k x w' hq⟩
theorem Ret.mono {P:Program} {f:FuncId} {args:Array Value} {t:Ty} {w:World} {Q Q':t.den → World → Prop} (h:Ret P f args t w Q) (k:∀ x w',Q x w' → Q' x w'):Ret P f args t w Q':=
 Calls.mono h fun e w' he=>by obtain ⟨x,rfl,hq⟩:=he; exact ⟨x,rfl,k x w' hq⟩
theorem wrap64 {x:Int} (h0:-9223372036854775808 ≤ x) (h1:x ≤ 9223372036854775807):IntKind.wrap .i64 x = x:=by rw [IntKind.wrap_i64]; omega
def Ty.sz:Ty → Nat
 | .sc _=>1
 | .agg l=>l.length
def Ty.cells:(t:Ty) → t.den → List Value
 | .sc s,x=>[s.val x]
 | .agg l,x=>vals l x
theorem vals_len:∀ (l:List Sc) (x:dens l),(vals l x).length = l.length
 | [],_=>rfl
 | s :: l,(x,y)=>by simp [vals,vals_len l y]
theorem Ty.cells_length (t:Ty) (x:t.den):(t.cells x).length = t.sz:=by
 cases t with
 | sc s=>rfl
 | agg l=>exact vals_len l x
theorem flat_length (t:Ty) (xs:List t.den):(xs.flatMap t.cells).length = xs.length * t.sz:=by
 induction xs with
 | nil=>simp
 | cons x xs ih=>simp only [List.flatMap_cons,List.length_append,Ty.cells_length,ih,List.length_cons]; rw [Nat.add_mul,Nat.one_mul,Nat.add_comm]
theorem flat_get (t:Ty):∀ (xs:List t.den) (i j:Nat) (x:t.den),xs[i]? = some x → j < t.sz → (xs.flatMap t.cells)[i * t.sz + j]? = (t.cells x)[j]?
 | [],i,j,x,h,_=>by simp at h
 | y :: xs,0,j,x,h,hj=>by
  simp only [List.getElem?_cons_zero,Option.some.injEq] at h
  subst h
  rw [List.flatMap_cons,Nat.zero_mul,Nat.zero_add,List.getElem?_append_left (by rw [Ty.cells_length]; exact hj)]
 | y :: xs,i + 1,j,x,h,hj=>by
  simp only [List.getElem?_cons_succ] at h
  rw [List.flatMap_cons,List.getElem?_append_right (by rw [Ty.cells_length]; rw [Nat.add_mul]; omega),Ty.cells_length]
  rw [show (i + 1) * t.sz + j - t.sz = i * t.sz + j by rw [Nat.add_mul]; omega]
  exact flat_get t xs i j x h hj
theorem holds_of {w:World} {a:Addr}:∀ (vs:List Value) (i:Nat),(∀ j v,vs[j]? = some v → w.cell? (a.add (i + j)) = some v) → Holds w a i vs
 | [],_,_=>trivial
 | v :: vs,i,h=>⟨by simpa using h 0 v (by simp),holds_of vs (i + 1) fun j u hu=>by have:=h (j + 1) u (by simpa using hu); rwa [show i + (j + 1) = i + 1 + j by omega] at this⟩
theorem LoadT.mk {w:World} {a:Addr} (t:Ty) {x:t.den} {K:t.den → Prop} (h:∀ j v,(t.cells x)[j]? = some v → w.cell? (a.add j) = some v) (k:K x):LoadT t w a K:=by
 cases t with
 | sc s=>exact ⟨x,by simpa [add0] using h 0 (s.val x) rfl,k⟩
 | agg l=>exact ⟨x,holds_of _ 0 (fun j v hv=>by rw [Nat.zero_add]; exact h j v hv),k⟩
structure RdT (w:World) (t:Ty) (s:Sl) (xs:List t.den):Prop where
 len:s.n = xs.length
 at':∀ i x,xs[i]? = some x → ∃ a,s.a = some a ∧ ∀ j v,(t.cells x)[j]? = some v → w.cell? ((a.add (i * t.sz)).add j) = some v
theorem RdT.idx {w:World} {t:Ty} {s:Sl} {xs:List t.den} (h:RdT w t s xs) {i:Int} (j:Nat) {x:t.den} (hi:i = (j:Int)) (hx:xs[j]? = some x) {K:Addr → Prop}
  (k:∀ a,(∀ j v,(t.cells x)[j]? = some v → w.cell? (a.add j) = some v) → K a):Idx s.a s.n t.sz i K:=by
 obtain ⟨a,ha,hc⟩:=h.at' j x hx
 have hlt:j < xs.length:=(List.getElem?_eq_some_iff.1 hx).1
 exact ⟨a,ha,by omega,by rw [h.len]; omega,by rw [hi]; simpa using k _ hc⟩
theorem RdT.get {w:World} {t:Ty} {s:Sl} {xs:List t.den} (h:RdT w t s xs) {i:Int} (j:Nat) {x:t.den} (hi:i = (j:Int)) (hx:xs[j]? = some x) {K:t.den → Prop} (k:K x) :
  Idx s.a s.n t.sz i fun a=>LoadT t w a K:=h.idx j hi hx fun a ha=>LoadT.mk t ha k
theorem RdT.chg {S:Nat → Prop} {w w':World} {t:Ty} {s:Sl} {xs:List t.den} (h:RdT w t s xs) (hc:Chg S w w') (hs:∀ a,s.a = some a → ¬ S a.block):RdT w' t s xs:=
 ⟨h.len,fun i x hx=>by
  obtain ⟨a,ha,hv⟩:=h.at' i x hx
  exact ⟨a,ha,fun j v hj=>hc.cell (hv j v hj) (by rw [add_block,add_block]; exact hs a ha)⟩⟩
theorem RdT.nil (w:World) (t:Ty) (a:Option Addr) (c:Nat):RdT w t ⟨a,0,c⟩ []:=⟨rfl,fun i x hx=>by simp at hx⟩
theorem RdT.cellAt {w:World} {t:Ty} {s:Sl} {xs:List t.den} (h:RdT w t s xs) {a:Addr} (ha:s.a = some a) {i:Nat} {x:t.den} (hx:xs[i]? = some x):∀ j v,(t.cells x)[j]? = some v → w.cell? ((a.add (i * t.sz)).add j) = some v:=by
 obtain ⟨a',h1,h2⟩:=h.at' i x hx
 rw [ha] at h1; cases h1; exact h2
theorem RdT.cell1 {w:World} {t:Sc} {s:Sl} {xs:List t.den} (h:RdT w (.sc t) s xs) {a:Addr} (ha:s.a = some a) {i:Nat} {x:t.den} (hx:xs[i]? = some x):w.cell? (a.add (i * 1)) = some (t.val x):=by
 have:=h.cellAt ha hx 0 (t.val x) rfl
 rwa [add0] at this
abbrev Sl.v (s:Sl):Value:=.slice s.a s.n s.c
structure OwnT (w:World) (e:TypeId) (t:Ty) (s:Sl) (xs:List t.den):Prop where
 row:w.ownsRow 0 e t.sz s.v s.n (xs.flatMap t.cells)
 len:s.n = xs.length
theorem OwnT.nil (w:World) (e:TypeId) (t:Ty):OwnT w e t ⟨none,0,0⟩ []:=⟨w.ownsRow_nil 0 e t.sz,rfl⟩
theorem OwnT.block {w:World} {e:TypeId} {t:Ty} {s:Sl} {xs:List t.den} (h:OwnT w e t s xs):s.a = none ∧ xs = [] ∨ ∃ g cur,s.a = some ⟨g,0,none⟩ ∧ w.heap[g]? = some (.cells cur e (0,0)) ∧ s.n ≤ s.c ∧ s.c ≤ maxLen ∧ cur.size = s.c * t.sz ∧ cur.toList.take (s.n * t.sz) = xs.flatMap t.cells:=by
 rcases h.row.2 with ⟨h1,h2⟩ | ⟨g,cap,cur,h1,_,h2,h3,h4,h5,h6⟩
 ·simp only [Value.slice.injEq] at h1
  refine .inl ⟨h1.1,?_⟩
  have:=h.len
  rw [h2] at this
  exact List.length_eq_zero_iff.1 this.symm
 ·simp only [Value.slice.injEq] at h1
  obtain ⟨h1,_,h7⟩:=h1
  subst h7
  exact .inr ⟨g,cur,h1,h2,h3,h4,h5,h6⟩
theorem OwnT.lt {w:World} {e:TypeId} {t:Ty} {s:Sl} {xs:List t.den} (h:OwnT w e t s xs):∀ a,s.a = some a → a.block < w.heap.size:=fun a ha=>by
 rcases h.block with ⟨h1,_⟩ | ⟨g,cur,h1,h2,_⟩
 ·rw [h1] at ha; cases ha
 ·rw [h1] at ha; cases ha; exact lt_of_heap h2
theorem OwnT.rd {w:World} {e:TypeId} {t:Ty} {s:Sl} {xs:List t.den} (h:OwnT w e t s xs):RdT w t s xs:=by
 refine ⟨h.len,fun i x hx=>?_⟩
 have hlt:i < xs.length:=(List.getElem?_eq_some_iff.1 hx).1
 rcases h.block with ⟨_,h1⟩ | ⟨g,cur,h1,h2,h3,h4,h5,h6⟩
 ·subst h1; simp at hlt
 ·refine ⟨_,h1,fun j v hj=>?_⟩
  have hjl:j < t.sz:=by rw [← Ty.cells_length t x]; exact (List.getElem?_eq_some_iff.1 hj).1
  rw [mk_add,mk_add,cell_of_row w g _ cur e _ h2]
  have hf:=flat_get t xs i j x hx hjl
  rw [hj,← h6,List.getElem?_take] at hf
  split at hf
  ·simpa using hf
  ·cases hf
theorem OwnT.chg {S:Nat → Prop} {w w':World} {e:TypeId} {t:Ty} {s:Sl} {xs:List t.den} (h:OwnT w e t s xs) (hc:Chg S w w') (hs:∀ a,s.a = some a → ¬ S a.block):OwnT w' e t s xs:=by
 refine ⟨⟨h.row.1,?_⟩,h.len⟩
 rcases h.row.2 with hn | ⟨g,cap,cur,h1,h2,h3,h4⟩
 ·exact .inl hn
 ·refine .inr ⟨g,cap,cur,h1,h2,hc.heap h3 ?_,h4⟩
  simp only [Value.slice.injEq] at h1
  exact hs ⟨g,0,none⟩ h1.1
theorem OwnT.idx {w:World} {e:TypeId} {t:Ty} {s:Sl} {xs:List t.den} (h:OwnT w e t s xs) {i:Int} (j:Nat) (hi:i = (j:Int)) (hj:j < xs.length) {K:Addr → Prop}
  (k:∀ g,s.a = some ⟨g,0,none⟩ → K ((Addr.mk g 0 none).add (j * t.sz))):Idx s.a s.n t.sz i K:=by
 rcases h.block with ⟨_,h1⟩ | ⟨g,cur,h1,h2,h3,h4,h5,h6⟩
 ·subst h1; simp at hj
 ·exact ⟨_,h1,by omega,by rw [h.len]; omega,by rw [hi]; simpa using k g h1⟩
theorem set_flat1 (s:Sc) (xs:List s.den) (j:Nat) (x:s.den):(xs.set j x).flatMap (Ty.cells (.sc s)) = (xs.flatMap (Ty.cells (.sc s))).set j (s.val x):=by
 have:∀ ys:List s.den,ys.flatMap (Ty.cells (.sc s)) = ys.map s.val:=fun ys=>by
  induction ys with
  | nil=>rfl
  | cons y ys ih=>rw [List.flatMap_cons,ih]; rfl
 rw [this,this,List.map_set]
theorem OwnT.store {w:World} {e:TypeId} {s:Sc} {sl:Sl} {xs:List s.den} (h:OwnT w e (.sc s) sl xs) {g:Nat} (hg:sl.a = some ⟨g,0,none⟩) (j:Nat) (hj:j < xs.length) {x:s.den} {K:World → Prop}
  (k:∀ w',OwnT w' e (.sc s) sl (xs.set j x) → Chg (· = g) w w' → w'.heap.size = w.heap.size → K w'):Store1 w ((Addr.mk g 0 none).add (j * Ty.sz (.sc s))) (s.val x) K:=by
 obtain ⟨a,n,c⟩:=sl
 simp only at hg
 subst hg
 have hrow:=h.row
 have hlen:=h.len
 simp only at hlen
 have hadd:(Addr.mk g 0 none).add (j * Ty.sz (.sc s)) = ⟨g,j,none⟩:=by rw [mk_add]; simp [Ty.sz]
 rw [hadd]
 refine ⟨⟨?_,hrow.frozenAt j⟩,?_⟩
 ·rw [hrow.cellAt j (by rw [hlen]; simpa [Ty.sz] using hj)]
  rw [List.getElem?_eq_getElem (by rw [flat_length]; simpa [Ty.sz] using hj)]
  rfl
 ·have hst:=hrow.stored j (s.val x)
  refine k _ ⟨?_,by simpa using hlen⟩ (Chg.grown hst.2 (fun k hk=>by cases hk; rfl)) (by simp)
  rw [set_flat1]
  exact hst.1
theorem LoadS.sc {S:World → Prop} {s:Sc} {a:Addr} {x:s.den} {K:s.den → Prop} (h:∀ w',S w' → w'.cell? a = some (s.val x)) (k:K x):LoadS S (.sc s) a K:=⟨x,h,k⟩
theorem LoadS.mk {S:World → Prop} (t:Ty) {a:Addr} {x:t.den} {K:t.den → Prop} (h:∀ w',S w' → ∀ j v,(t.cells x)[j]? = some v → w'.cell? (a.add j) = some v) (k:K x):LoadS S t a K:=by
 refine ⟨x,fun w' hw=>?_,k⟩
 cases t with
 | sc s=>exact (by simpa [add0] using h w' hw 0 (s.val x) rfl:w'.cell? a = some (s.val x))
 | agg l=>exact holds_of _ 0 (fun j v hv=>by rw [Nat.zero_add]; exact h w' hw j v hv)
open Classical in
theorem LoopT.fuel {σ:Type} {x0:σ} {w:World} {body:σ → Env → World → (σ → World → Prop) → Prop} (J:Nat → σ → World → Prop) (k0:Nat) (h0:J k0 x0 w)
  (h:∀ k x g w (C:σ → World → Prop),J k x w → (∀ y w' k',k' < k → J k' y w' → C y w') → body x g w C):LoopT x0 w body:=by
 have key:∀ x w,(∃ k,J k x w) → ∃ m,J m x w ∧ ∀ k,J k x w → m ≤ k:=by
  intro x w ⟨k,hk⟩
  induction k using Nat.strongRecOn with
  | _ k ih=>
   by_cases hlt:∃ k',k' < k ∧ J k' x w
   ·obtain ⟨k',h1,h2⟩:=hlt
    exact ih k' h1 h2
   ·exact ⟨k,hk,fun k' hk'=>Nat.le_of_not_lt fun hl=>hlt ⟨k',hl,hk'⟩⟩
 refine ⟨fun x w=>∃ k,J k x w,fun x w=>if hx:∃ k,J k x w then Classical.choose (key x w hx) else 0,⟨k0,h0⟩,fun x g w hx=>?_⟩
 have hm:=Classical.choose_spec (key x w hx)
 refine h _ x g w _ hm.1 fun y w' k' hlt hj=>⟨⟨k',hj⟩,?_⟩
 have hy:∃ k,J k y w':=⟨k',hj⟩
 simp only [dif_pos hy,dif_pos hx]
 exact Nat.lt_of_le_of_lt ((Classical.choose_spec (key y w' hy)).2 k' hj) hlt
theorem OwnT.elem {w:World} {e:TypeId} {t:Ty} {s:Sl} {xs:List t.den} (h:OwnT w e t s xs) {k:Nat} (hk:∃ a,s.a = some a ∧ a.block = k):∃ cur,w.heap[k]? = some (.cells cur e (0,0)):=by
 obtain ⟨a,ha,rfl⟩:=hk
 rcases h.block with ⟨h1,_⟩ | ⟨g,cur,h1,h2,_⟩
 ·rw [h1] at ha; cases ha
 ·rw [h1] at ha; cases ha; exact ⟨cur,h2⟩
theorem Store1.at {w:World} {b:Nat} {cs:Array Value} {t:TypeId} (h:w.heap[b]? = some (.cells cs t (0,0))) (k:Nat) (hk:k < cs.size) {v:Value} {cs':Array Value} (hcs:cs.setIfInBounds k v = cs') {K:World → Prop}
  (hK:∀ w',w'.heap[b]? = some (.cells cs' t (0,0)) → Chg (· = b) w w' → w'.heap.size = w.heap.size → K w'):Store1 w ((Addr.mk b 0 none).add k) v K:=by
 refine ⟨⟨?_,frozenOf h⟩,hK _ ?_ (Chg.setCell w v (by rw [add_block])) (by simp)⟩
 ·rw [cellOf h,Array.getElem?_eq_getElem hk]; rfl
 ·rw [mk_add,Nat.zero_add,← hcs]; exact heap_setCell_same w b k cs t v h
theorem StoreN.at {b:Nat} {t:TypeId}:∀ (vs:List Value) (w:World) (cs:Array Value) (i:Nat) {K:World → Prop},w.heap[b]? = some (.cells cs t (0,0)) → i + vs.length ≤ cs.size →
  (∀ w' cs',w'.heap[b]? = some (.cells cs' t (0,0)) → cs'.size = cs.size → (∀ j v,vs[j]? = some v → cs'[i + j]? = some v) → (∀ j,j < i → cs'[j]? = cs[j]?) → Chg (· = b) w w' → w'.heap.size = w.heap.size → K w') →
  OpenN w (Addr.mk b 0 none) i vs.length ∧ K (setCells w (Addr.mk b 0 none) i vs)
 | [],w,cs,i,K,h,hl,hK=>⟨trivial,hK w cs h rfl (fun j v hv=>by simp at hv) (fun j hj=>rfl) (Chg.refl w) rfl⟩
 | v :: vs,w,cs,i,K,h,hl,hK=>by
  simp only [List.length_cons] at hl
  have hopen:Open1 w ((Addr.mk b 0 none).add i):=⟨by rw [cellOf h,Array.getElem?_eq_getElem (by omega)]; rfl,frozenOf h⟩
  have hset:(w.setCell ((Addr.mk b 0 none).add i) v).heap[b]? = some (.cells (cs.setIfInBounds i v) t (0,0)):=by rw [mk_add,Nat.zero_add]; exact heap_setCell_same w b i cs t v h
  have hc:Chg (· = b) w (w.setCell ((Addr.mk b 0 none).add i) v):=Chg.setCell w v (by rw [add_block])
  have ih:=StoreN.at vs (w.setCell ((Addr.mk b 0 none).add i) v) (cs.setIfInBounds i v) (i + 1) (K:=fun w'=>OpenN w (Addr.mk b 0 none) (i + 1) vs.length → K w') hset (by simp; omega) (fun w' cs' h1 h2 h3 h4 h5 h6 _=>?_)
  ·have hop:∀ n j,i < j → j + n ≤ cs.size → OpenN w (Addr.mk b 0 none) j n:=by
    intro n
    induction n with
    | zero=>intro j _ _; trivial
    | succ n ihn=>intro j hj hle; exact ⟨⟨by rw [cellOf h,Array.getElem?_eq_getElem (by omega)]; rfl,frozenOf h⟩,ihn (j + 1) (by omega) (by omega)⟩
   exact ⟨⟨hopen,hop _ _ (by omega) (by omega)⟩,ih.2 (hop _ _ (by omega) (by omega))⟩
  ·refine hK w' cs' h1 (by simpa using h2) (fun j u hu=>?_) (fun j hj=>?_) (hc.then h5) (by simpa using h6)
   ·cases j with
    | zero=>
     simp only [List.getElem?_cons_zero,Option.some.injEq] at hu
     subst hu
     rw [Nat.add_zero,h4 i (by omega),Array.getElem?_setIfInBounds_self_of_lt (by omega)]
    | succ j=>rw [show i + (j + 1) = i + 1 + j by omega]; exact h3 j u (by simpa using hu)
   ·rw [h4 j (by omega),Array.getElem?_setIfInBounds_ne (by omega)]
theorem StoreN.whole {w:World} {b:Nat} {cs:Array Value} {t:TypeId} {vs:List Value} (h:w.heap[b]? = some (.cells cs t (0,0))) (hl:cs.size = vs.length) {K:World → Prop}
  (hK:∀ w',w'.heap[b]? = some (.cells vs.toArray t (0,0)) → Chg (· = b) w w' → w'.heap.size = w.heap.size → K w'):StoreN w (Addr.mk b 0 none) vs K:=by
 refine StoreN.at vs w cs 0 h (by omega) fun w' cs' h1 h2 h3 _ h5 h6=>hK w' ?_ h5 h6
 have:cs' = vs.toArray:=by
  apply Array.ext_getElem?
  intro j
  by_cases hj:j < vs.length
  ·have:=h3 j vs[j] (List.getElem?_eq_getElem hj)
   rw [Nat.zero_add] at this
   rw [this]; simp [hj]
  ·rw [Array.getElem?_eq_none (by omega)]; simp [Nat.le_of_not_lt hj]
 rw [← this]; exact h1
end Go.Proofs.YtffdjfkekdoeaaaDoor.Fw
end
section
namespace Go.Proofs.YtffdjfkekdoeaaaDoor.Fw
open RowKit
def slOk (P:Program) (t e:TypeId) (sz bytes:Nat):Bool:=
 match P.underlying t,P.info? e with
 | some (.slice e'),some i=>Nat.beq e' e && Nat.beq i.size sz && Nat.ble i.bytes bytes && (match i.zero with | some z=>Nat.beq z.cells.size sz | none=>false)
 | _,_=>false
theorem slOk_spec {P:Program} {t e:TypeId} {sz bytes:Nat} (h:slOk P t e sz bytes = true) :
  ∃ i z,P.underlying t = some (.slice e) ∧ P.info? e = some i ∧ i.size = sz ∧ i.bytes ≤ bytes ∧ i.zero = some z ∧ z.cells.size = sz:=by
 unfold slOk at h
 split at h
 ·rename_i e' i h1 h2
  simp only [Bool.and_eq_true] at h
  obtain ⟨⟨⟨h3,h4⟩,h5⟩,h6⟩:=h
  split at h6
  ·rename_i z hz
   have h3:=Nat.eq_of_beq_eq_true h3
   subst h3
   exact ⟨i,z,h1,h2,Nat.eq_of_beq_eq_true h4,Nat.le_of_ble_eq_true h5,hz,Nat.eq_of_beq_eq_true h6⟩
  ·cases h6
 ·cases h
def Sc.one:Sc → Bool
 | .raw=>false
 | _=>true
theorem Sc.one_val {s:Sc} (h:s.one = true) (x:s.den):(s.val x).oneCell' = true:=by cases s <;> first | rfl | cases h
def Ty.one:Ty → Bool
 | .sc s=>s.one
 | .agg l=>l.all Sc.one
theorem vals_one:∀ {l:List Sc},l.all Sc.one = true → ∀ (x:dens l) (v:Value),v ∈ vals l x → v.oneCell' = true
 | [],_,x,v,h=>by simp [vals] at h
 | s :: l,ho,(x,y),v,h=>by
  simp only [List.all_cons,Bool.and_eq_true] at ho
  simp only [vals,List.mem_cons] at h
  rcases h with rfl | h
  ·exact Sc.one_val ho.1 x
  ·exact vals_one ho.2 y v h
theorem Ty.one_cells {t:Ty} (h:t.one = true) (x:t.den) (v:Value) (hv:v ∈ t.cells x):v.oneCell' = true:=by
 cases t with
 | sc s=>simp only [Ty.cells,List.mem_singleton] at hv; subst hv; exact Sc.one_val h x
 | agg l=>exact vals_one h x v hv
theorem RunT.auto {P:Program} {t:Ty} {s:Sem Value} {w:World} {K:t.den → Prop} (h:RunT P t s w fun x w'=>w' = w ∧ K x):∃ r,s.run P w = .ok (t.val r) w ∧ K r:=by
 obtain ⟨x,w',h1,rfl,h2⟩:=h; exact ⟨x,h1,h2⟩
def Sl.own (s:Sl):Nat → Prop:=fun k=>∃ a,s.a = some a ∧ a.block = k
theorem OwnT.append {P:Program} {w:World} {st ty e:TypeId} {t:Ty} {bytes:Nat} (ok:slOk P st e t.sz bytes = true) (ht:t.one = true) (hsz:0 < t.sz) {s:Sl} {xs:List t.den} (h:OwnT w e t s xs)
  {b:Addr} {m c:Nat} (news:List t.den) (hm:m = news.length) (h0:0 < m) (hnews:∀ j v,(news.flatMap t.cells)[j]? = some v → w.cell? (b.add j) = some v)
  (hb:(xs.length + m) * bytes ≤ 140737488355328) (h63:xs.length + m ≤ maxLen) {K:Sl → World → Prop}
  (k:∀ s' w',OwnT w' e t s' (xs ++ news) → Chg s.own w w' → (∀ i,s'.own i → s.own i ∨ w.heap.size ≤ i) → K s' w') :
  RunT P (.sc .sl) (Builtin.append_ #[st,st] ty #[s.v,.slice (some b) m c]) w K:=by
 obtain ⟨i,z,h1,h2,h3,h4,h5,h6⟩:=slOk_spec ok
 have hlen:=h.len
 have hl:(news.flatMap t.cells).length = m * i.size:=by rw [flat_length,hm,h3]
 have hl':(news.flatMap t.cells).length = m * t.sz:=by rw [flat_length,hm]
 have hone:∀ u ∈ news.flatMap t.cells,u.oneCell' = true:=fun u hu=>by
  obtain ⟨x,_,hx⟩:=List.mem_flatMap.1 hu
  exact Ty.one_cells ht x u hx
 have hbytes:(s.n + m) * i.bytes ≤ 140737488355328:=by rw [hlen]; exact Nat.le_trans (Nat.mul_le_mul_left _ h4) hb
 have h63':s.n + m ≤ maxLen:=by rw [hlen]; exact h63
 have fin:∀ (v':Value) (w':World),(Builtin.append_ #[st,st] ty #[s.v,.slice (some b) m c]).run P w = .ok v' w' → w'.ownsRow 0 e t.sz v' (s.n + m) (xs.flatMap t.cells ++ news.flatMap t.cells) → w.grownBy w' s.v.ownBlock →
   (∃ g n c',v' = .slice (some ⟨g,0,none⟩) n c' ∧ (s.own g ∨ w.heap.size ≤ g)) → RunT P (.sc .sl) (Builtin.append_ #[st,st] ty #[s.v,.slice (some b) m c]) w K:=by
  rintro v' w' hrun hown hgr ⟨g,n,c',rfl,hg⟩
  have hn:n = s.n + m:=by
   rcases hown.2 with ⟨hh,_⟩ | ⟨_,_,_,hh,_⟩ <;> simp only [Value.slice.injEq] at hh
   ·cases hh.1
   ·exact hh.2.1
  refine ⟨⟨some ⟨g,0,none⟩,n,c'⟩,w',hrun,k _ _ ⟨?_,?_⟩ (Chg.grown hgr fun k hk=>?_) fun i hi=>?_⟩
  ·rw [List.flatMap_append]; subst hn; exact hown
  ·rw [List.length_append]; show n = _; omega
  ·unfold Value.ownBlock at hk
   split at hk
   ·rename_i a _ _ hv
    cases hk
    simp only [Value.slice.injEq] at hv
    exact ⟨a,hv.1,rfl⟩
   ·cases hk
  ·obtain ⟨a,ha,rfl⟩:=hi
   cases ha; exact hg
 rcases h.block with ⟨ha,hx⟩ | ⟨g,cur,ha,hcur,hnc,hcm,hcs,htake⟩
 ·have hrow:w.ownsRow w.heap.size e t.sz s.v s.n (xs.flatMap t.cells):=by
   rcases h.row.2 with hn | ⟨g,cap,cur,hn,_⟩
   ·exact ⟨h.row.1,.inl hn⟩
   ·simp only [Value.slice.injEq] at hn; rw [ha] at hn; cases hn.1
  obtain ⟨v',w',hr,ho,hg,hnil⟩:=run_append_own (P:=P) w w.heap.size st ty e i z t.sz i.bytes h1 h2 h5 h3 rfl h6 hsz s.v s.n (xs.flatMap t.cells) hrow b m c _ hl' hnews hone h63' hbytes (Nat.le_refl _)
  rcases ho.2 with ⟨hv,_⟩ | ⟨g',cap,cur',hv,hge,hh⟩
  ·have:=(hnil.1 hv).2; omega
  ·exact fin v' w' hr ⟨ho.1,.inr ⟨g',cap,cur',hv,Nat.zero_le _,hh⟩⟩ hg ⟨g',_,_,hv,.inr hge⟩
 ·have hv:s.v = .slice (some ⟨g,0,none⟩) s.n s.c:=by simp only [Sl.v]; rw [ha]
  by_cases hroom:s.n + m ≤ s.c
  ·obtain ⟨w',hr,ho,hg⟩:=run_append_fits (P:=P) w 0 st ty e i t.sz h1 h2 h3 g s.n s.c (xs.flatMap t.cells) (hv ▸ h.row) b m c _ hl' hnews hone hroom
   refine fin _ w' (by rw [hv]; exact hr) ho (by rw [hv]; exact hg) ⟨g,_,_,rfl,.inl ⟨_,ha,rfl⟩⟩
  ·obtain ⟨v',w',hr,ho,hg,_⟩:=run_append_own (P:=P) w 0 st ty e i z t.sz i.bytes h1 h2 h5 h3 rfl h6 hsz s.v s.n (xs.flatMap t.cells) h.row b m c _ hl' hnews hone h63' hbytes (Nat.zero_le _)
   have holds:∀ j v,(xs.flatMap t.cells)[j]? = some v → w.cell? ((Addr.mk g 0 none).add j) = some v:=fun j v hj=>by
    rw [cellOf hcur]
    rw [← htake,List.getElem?_take] at hj
    split at hj
    ·simpa using hj
    ·cases hj
   have hgrow:=run_append_grow (P:=P) w st ty e i z h1 h2 h5 ⟨g,0,none⟩ s.n s.c (xs.flatMap t.cells) (by rw [flat_length,h3,hlen]) holds b m c _ hl hnews (by omega) (by simp only [maxLen] at h63'; omega) (growslice_fits (by omega) hbytes)
   rw [hv] at hr
   rw [hgrow] at hr
   cases hr
   refine fin _ _ (by rw [hv]; exact hgrow) ho hg ⟨_,_,_,rfl,.inr (Nat.le_refl _)⟩
def zeroIs (P:Program) (e:TypeId) (v:Value):Prop:=(P.info? e).bind (·.zero) = some v
theorem makeSlice_own {P:Program} {w:World} {st e:TypeId} {s:Sc} {bytes:Nat} (ok:slOk P st e 1 bytes = true) {z:s.den} (hz:zeroIs P e (s.val z)) (ho:s.one = true) {n:Int} (n':Nat) (hn:n = (n':Int)) (hb:bytes * n' ≤ 140737488355328) (h63:n' ≤ maxLen) {kl kc:IntKind} {K:Sl → World → Prop}
  (k:∀ g w',OwnT w' e (.sc s) ⟨some ⟨g,0,none⟩,n',n'⟩ (List.replicate n' z) → Chg Nil w w' → g = w.heap.size → K ⟨some ⟨g,0,none⟩,n',n'⟩ w') :
  RunT P (.sc .sl) (Instr.makeSlice st (.int kl n) (.int kc n)) w K:=by
 obtain ⟨i,z',h1,h2,h3,h4,h5,h6⟩:=slOk_spec ok
 unfold zeroIs at hz
 rw [h2] at hz
 simp only [Option.bind_some] at hz
 rw [h5] at hz; cases hz
 have hcells:(s.val z).cells = #[s.val z]:=by
  have:=Sc.one_val ho z
  cases hv:s.val z <;> rw [hv] at this <;> first | rfl | (simp [Value.oneCell'] at this)
 obtain ⟨w',hr,hrow,hg⟩:=run_make_full (P:=P) w w.heap.size st e i _ 1 h1 h2 h5 h3 kl kc n' (Nat.le_trans (Nat.mul_le_mul_right _ h4) (by omega)) h63 (Nat.le_refl _)
 refine ⟨⟨some ⟨w.heap.size,0,none⟩,n',n'⟩,w',by rw [hn]; exact hr,k _ _ ⟨?_,by simp⟩ (Chg.grown hg fun k hk=>by cases hk) rfl⟩
 ·have hf:(List.replicate n' z).flatMap (Ty.cells (.sc s)) = List.replicate n' (s.val z):=by
   clear hr hrow hg hb h63 hn k
   induction n' with
   | zero=>rfl
   | succ n ih=>rw [List.replicate_succ,List.flatMap_cons,ih]; rfl
  rw [hf,← toList_madeCells_one]
  rw [hcells,Nat.mul_one] at hrow
  rcases hrow.2 with ⟨hh,_⟩ | ⟨g,cap,cur,hh,_,hrest⟩
  ·simp at hh
  ·exact ⟨hrow.1,.inr ⟨g,cap,cur,hh,Nat.zero_le _,hrest⟩⟩
theorem take_flat (t:Ty):∀ (xs:List t.den) (n:Nat),(xs.take n).flatMap t.cells = (xs.flatMap t.cells).take (n * t.sz)
 | [],n=>by simp
 | x :: xs,0=>by simp
 | x :: xs,n + 1=>by
  rw [List.take_succ_cons,List.flatMap_cons,List.flatMap_cons,List.take_append,Ty.cells_length,take_flat t xs n]
  have h1:(t.cells x).take ((n + 1) * t.sz) = t.cells x:=List.take_of_length_le (by rw [Ty.cells_length,Nat.add_mul]; omega)
  have h2:(n + 1) * t.sz - t.sz = n * t.sz:=by rw [Nat.add_mul]; omega
  rw [h1,h2]
theorem OwnT.upto {P:Program} {w:World} {st e:TypeId} {t:Ty} {bytes:Nat} (ok:slOk P st e t.sz bytes = true) {s:Sl} {xs:List t.den} (h:OwnT w e t s xs) {n:Int} (n':Nat) (hn:n = (n':Int)) (hle:n' ≤ xs.length) {K:Sl → World → Prop}
  (k:∀ s',OwnT w e t s' (xs.take n') → (∀ i,s'.own i → s.own i) → s'.n = n' → K s' w):RunT P (.sc .sl) (Instr.sliceAt st s.v none (some (.int .i64 n)) none) w K:=by
 obtain ⟨i,z,h1,h2,h3,h4,h5,h6⟩:=slOk_spec ok
 have hel:P.underlying st = some (.slice (P.elem st)):=by unfold Program.elem; rw [h1]
 have hele:P.elem st = e:=by unfold Program.elem; rw [h1]
 have hcap:n' ≤ s.c:=by
  rcases h.block with ⟨_,hx⟩ | ⟨g,cur,ha,hcur,hnc,_⟩
  ·subst hx; simp only [List.length_nil] at hle; omega
  ·have:=h.len; omega
 have hrun:(Instr.sliceAt st s.v none (some (.int .i64 n)) none).run P w = .ok (sliced s.a 0 n' s.c i.size) w:=by
  rw [run_sliceAt_slice w st _ _ _ _ hel]
  rw [show s.v = .slice s.a s.n s.c from rfl,run_slice_h w st s.a s.n s.c hel .i64 n (by omega) (by omega),hele]
  simp [sizeOf,typeInfo,h2,hn]
 have hsl:sliced s.a 0 n' s.c i.size = .slice s.a n' s.c:=by
  unfold sliced
  rw [Nat.zero_mul]
  cases ha:s.a with
  | none=>simp
  | some a=>simp [add0]
 rw [hsl] at hrun
 refine ⟨⟨s.a,n',s.c⟩,w,hrun,k ⟨s.a,n',s.c⟩ ⟨⟨?_,?_⟩,?_⟩ (fun i hi=>hi) rfl⟩
 ·rw [flat_length]; simp [Nat.min_eq_left hle]
 ·rcases h.row.2 with ⟨hv,hn0⟩ | ⟨g,cap,cur,hv,hb,hc,hnc,hcm,hcs,htake⟩
  ·simp only [Value.slice.injEq] at hv
   have h0:n' = 0:=by have:=h.len; omega
   refine .inl ⟨?_,h0⟩
   simp only [Sl.v,Value.slice.injEq]
   exact ⟨hv.1,h0,hv.2.2⟩
  ·refine .inr ⟨g,cap,cur,?_,hb,hc,?_,hcm,hcs,?_⟩
   ·simp only [Sl.v,Value.slice.injEq] at hv ⊢
    exact ⟨hv.1,trivial,hv.2.2⟩
   ·have:=h.len
    simp only [Sl.v,Value.slice.injEq] at hv
    show n' ≤ cap
    omega
   ·show List.take (n' * t.sz) cur.toList = _
    rw [take_flat,← htake,List.take_take]
    congr 1
    have:=h.len
    rw [Nat.min_eq_left]
    exact Nat.mul_le_mul_right _ (by omega)
 ·simp [Nat.min_eq_left hle]
theorem bytes_string {P:Program} {w:World} {src dst e:TypeId} (hs:P.underlying src = some (.slice e)) (he:P.underlying e = some (.int .u8)) (hd:P.underlying dst = some .string) {s:Sl} {l:List UInt8}
  (h:RdT w (.sc (.int .u8)) s (l.map fun b=>(b.toNat:Int))) {K:ByteArray → World → Prop} (k:K ⟨l.toArray⟩ w):RunT P (.sc .str) (convert src dst s.v) w K:=by
 have hn:s.n = l.length:=by rw [h.len,List.length_map]
 cases ha:s.a with
 | none=>
  have hl:l = []:=by
   cases l with
   | nil=>rfl
   | cons b l=>
    obtain ⟨a,h1,_⟩:=h.at' 0 (b.toNat:Int) (by simp)
    rw [ha] at h1; cases h1
  subst hl
  refine ⟨_,w,?_,k⟩
  rw [show s.v = .slice none s.n s.c by simp only [Sl.v]; rw [ha]]
  exact run_convert_bytes_nil w src e hs he _ _ dst hd
 | some a=>
  refine ⟨_,w,?_,k⟩
  rw [show s.v = .slice (some a) l.length s.c by simp only [Sl.v]; rw [ha,hn]]
  refine run_convert_bytes_back w src dst e a s.c l hs he hd fun j hj=>?_
  obtain ⟨a',h1,h2⟩:=h.at' j (l[j].toNat:Int) (by simp [List.getElem?_eq_getElem hj])
  rw [ha] at h1; cases h1
  have:=h2 0 _ rfl
  simpa [add0,Ty.sz] using this
end Go.Proofs.YtffdjfkekdoeaaaDoor.Fw
end
section
namespace Go.Proofs.YtffdjfkekdoeaaaDoor.Fo
structure St where
 m:Nat
 par:List Nat
 next:List (List (Option Nat))
 todo:List (Nat × Nat)
def big:Nat:=4294967296
def findF:Nat → List Nat → Nat → Option (List Nat × Nat)
 | 0,_,_=>none
 | k + 1,par,s=>
  match par[s]? with
  | none=>none
  | some p=>
   if p = s then some (par,s)
   else match par[p]? with
    | none=>none
    | some g=>findF k (par.set s g) g
def leadF (K:Nat) (st:St) (s x t:Nat):Option St:=
 match findF K st.par s with
 | none=>none
 | some (par,r)=>
  match st.next[r]? with
  | none=>none
  | some row=>
   match row[x]? with
   | none=>none
   | some none=>some { st with par:=par,next:=st.next.set r (row.set x (some t)) }
   | some (some u)=>if st.todo.length < big then some { st with par:=par,todo:=st.todo ++ [(u,t)] } else none
def spillF (K:Nat):Nat → St → Nat → Nat → Nat → Option St
 | 0,st,_,_,_=>some st
 | n + 1,st,a,b,y=>
  match (st.next[b]?).bind (·[y]?) with
  | none=>none
  | some none=>spillF K n st a b (y + 1)
  | some (some t)=>
   match leadF K st a y t with
   | none=>none
   | some st'=>spillF K n st' a b (y + 1)
def foldF (K:Nat):Nat → St → Option St
 | 0,_=>none
 | k + 1,st=>
  match st.todo.getLast? with
  | none=>some st
  | some (u,v)=>
   match findF K st.par u with
   | none=>none
   | some (par1,a)=>
    match findF K par1 v with
    | none=>none
    | some (par2,b)=>
     if a = b then foldF K k { st with par:=par2,todo:=st.todo.dropLast }
     else match par2[b]?,st.next[b]? with
      | none,_=>none
      | _,none=>none
      | some _,some _=>
       match spillF K st.m { st with par:=par2.set b a,todo:=st.todo.dropLast } a b 0 with
       | none=>none
       | some st'=>foldF K k st'
def linkF (K:Nat) (st:St) (s x t:Nat):Option St:=
 match leadF K st s x t with
 | none=>none
 | some st1=>
  match leadF K st1 t (x ^^^ 1) s with
  | none=>none
  | some st2=>foldF K K st2
def stateF (st:St):Option St:=if st.par.length < big ∧ st.next.length < big then some { st with par:=st.par ++ [st.par.length],next:=st.next ++ [List.replicate st.m none] } else none
def pathF (K:Nat):St → Nat → List Nat → Nat → Option St
 | st,_,[],_=>some st
 | st,s,[x],t=>linkF K st s x t
 | st,s,x :: y :: l,t=>
  match stateF st with
  | none=>none
  | some st1=>
   match linkF K st1 s x st.par.length with
   | none=>none
   | some st2=>pathF K st2 st.par.length (y :: l) t
abbrev Row:=List (Option Nat)
def degF (r:Row):Nat:=(r.filter Option.isSome).length
def leafAt (start s:Nat) (r:Option Row):Bool:=
 match r with
 | some r=>s != start && degF r == 1
 | none=>false
def leavesF (start:Nat):Nat → List (Option Row) → List Nat
 | _,[]=>[]
 | s,r :: l=>if leafAt start s r then s :: leavesF start (s + 1) l else leavesF start (s + 1) l
def pruneRow (start s:Nat):Nat → List (Option Row) → List Nat → Nat → Option (List (Option Row) × List Nat)
 | 0,rows,leaves,_=>some (rows,leaves)
 | n + 1,rows,leaves,y=>
  match rows[s]? with
  | some (some row)=>
   match row[y]? with
   | none=>none
   | some none=>pruneRow start s n rows leaves (y + 1)
   | some (some t)=>
    match (rows.set s (some (row.set y none)))[t]? with
    | some (some rt)=>
     if (y ^^^ 1) < rt.length ∧ leaves.length < big then
      pruneRow start s n ((rows.set s (some (row.set y none))).set t (some (rt.set (y ^^^ 1) none)))
       (if t != start && degF (rt.set (y ^^^ 1) none) == 1 then leaves ++ [t] else leaves) (y + 1)
     else none
    | _=>none
  | _=>none
def pruneF (start:Nat):Nat → List (Option Row) → List Nat → Option (List (Option Row))
 | 0,_,_=>none
 | k + 1,rows,leaves=>
  match leaves.getLast? with
  | none=>some rows
  | some s=>
   match rows[s]? with
   | some (some row)=>
    match pruneRow start s row.length rows leaves.dropLast 0 with
    | none=>none
    | some (rows',leaves')=>pruneF start k rows' leaves'
   | _=>none
def bfsRow:Row → List Nat → List Nat × Row
 | [],q=>(q,[])
 | none :: l,q=>((bfsRow l q).1,none :: (bfsRow l q).2)
 | some t :: l,q=>
  if t ∈ q then ((bfsRow l q).1,some (q.idxOf t) :: (bfsRow l q).2)
  else ((bfsRow l (q ++ [t])).1,some q.length :: (bfsRow l (q ++ [t])).2)
def bfsF (m:Nat) (rows:List (Option Row)):Nat → Nat → List Nat → List Row → Option (Option (List Row))
 | 0,_,_,_=>none
 | k + 1,i,q,out=>
  match q[i]? with
  | none=>some (some out)
  | some t=>
   match rows[t]? with
   | some (some row)=>
    if row.length = m then
     (if 2000 < (bfsRow row q).1.length then some none else bfsF m rows k (i + 1) (bfsRow row q).1 (out ++ [(bfsRow row q).2]))
    else none
   | _=>none
def numberedF (K m:Nat) (rows:List (Option Row)) (start:Nat):Option (Option (List Row)):=
 match pruneF start K rows (leavesF start 0 rows) with
 | none=>none
 | some rows'=>bfsF m rows' K 0 [start] []
def repsF (K:Nat):List Nat → Row → Option (List Nat × Row)
 | par,[]=>some (par,[])
 | par,none :: l=>
  match repsF K par l with
  | none=>none
  | some (par',r)=>some (par',none :: r)
 | par,some t :: l=>
  match findF K par t with
  | none=>none
  | some (par1,r)=>
   match repsF K par1 l with
   | none=>none
   | some (par',rs)=>some (par',some r :: rs)
def rowsF (K:Nat):List Nat → List Row → Nat → Option (List Nat × List (Option Row))
 | par,[],_=>some (par,[])
 | par,row :: l,s=>
  match findF K par s with
  | none=>none
  | some (par1,r)=>
   if r = s then
    match repsF K par1 row with
    | none=>none
    | some (par2,row')=>
     match rowsF K par2 l (s + 1) with
     | none=>none
     | some (par3,rows)=>some (par3,some row' :: rows)
   else
    match rowsF K par1 l (s + 1) with
    | none=>none
    | some (par3,rows)=>some (par3,none :: rows)
def madeF (K:Nat) (st:St) (start:Nat):Option (Option (List Row)):=
 match rowsF K st.par st.next 0 with
 | none=>none
 | some (par1,rows)=>
  match findF K par1 start with
  | none=>none
  | some (_,r)=>numberedF K st.m rows r
def allF (K:Nat):St → List (List Nat) → Option St
 | st,[]=>some st
 | st,w :: l=>
  match pathF K st 0 w 0 with
  | none=>none
  | some st'=>allF K st' l
end Go.Proofs.YtffdjfkekdoeaaaDoor.Fo
end
section
set_option maxRecDepth 10000
namespace Go.Proofs.YtffdjfkekdoeaaaDoor
open Fw
theorem mixed:Tryd.prog.follows .mixedOrders = true:=by kernel_rfl
noncomputable def word_Index.ann:Ann where
 loops:=fun | 2=>[(0,.sc (.int .u8)),(5,.agg [.int .u8,.int .u8,.int .u8,.int .u8,.int .u8,.int .u8,.int .u8,.int .u8,.int .u8,.int .u8,.int .u8,.int .u8,.int .u8,.int .u8,.int .u8,.int .u8]),(6,.sc (.int .i64))] | _=>[]
 joins:=fun | _=>none
noncomputable def word_Index.body:Code:=match Tryd.f59.body with | some c=>c | none=>.skip
def word_Index.sh (p0:Int) (R:Ending → World → Prop) (w:World):Prop:=
 LoadT (.agg [.int .u8,.int .u8,.int .u8,.int .u8,.int .u8,.int .u8,.int .u8,.int .u8,.int .u8,.int .u8,.int .u8,.int .u8,.int .u8,.int .u8,.int .u8,.int .u8]) w (Addr.mk 0 0 none) fun x1=>
 LoopT (σ:=Int × (Int × Int × Int × Int × Int × Int × Int × Int × Int × Int × Int × Int × Int × Int × Int × Int × Unit) × Int × Unit) (p0,(x1.1,x1.2.1,x1.2.2.1,x1.2.2.2.1,x1.2.2.2.2.1,x1.2.2.2.2.2.1,x1.2.2.2.2.2.2.1,x1.2.2.2.2.2.2.2.1,x1.2.2.2.2.2.2.2.2.1,x1.2.2.2.2.2.2.2.2.2.1,x1.2.2.2.2.2.2.2.2.2.2.1,x1.2.2.2.2.2.2.2.2.2.2.2.1,x1.2.2.2.2.2.2.2.2.2.2.2.2.1,x1.2.2.2.2.2.2.2.2.2.2.2.2.2.1,x1.2.2.2.2.2.2.2.2.2.2.2.2.2.2.1,x1.2.2.2.2.2.2.2.2.2.2.2.2.2.2.2.1,()),0,()) w fun l2 g3 w4 I5=>
  Br (decide ((l2.2.2.1:Int) < 16))
   (RunT Tryd.prog (.sc (.int .u8)) (Instr.index 135 (.agg #[(.int .u8 l2.2.1.1),(.int .u8 l2.2.1.2.1),(.int .u8 l2.2.1.2.2.1),(.int .u8 l2.2.1.2.2.2.1),(.int .u8 l2.2.1.2.2.2.2.1),(.int .u8 l2.2.1.2.2.2.2.2.1),(.int .u8 l2.2.1.2.2.2.2.2.2.1),(.int .u8 l2.2.1.2.2.2.2.2.2.2.1),(.int .u8 l2.2.1.2.2.2.2.2.2.2.2.1),(.int .u8 l2.2.1.2.2.2.2.2.2.2.2.2.1),(.int .u8 l2.2.1.2.2.2.2.2.2.2.2.2.2.1),(.int .u8 l2.2.1.2.2.2.2.2.2.2.2.2.2.2.1),(.int .u8 l2.2.1.2.2.2.2.2.2.2.2.2.2.2.2.1),(.int .u8 l2.2.1.2.2.2.2.2.2.2.2.2.2.2.2.2.1),(.int .u8 l2.2.1.2.2.2.2.2.2.2.2.2.2.2.2.2.2.1),(.int .u8 l2.2.1.2.2.2.2.2.2.2.2.2.2.2.2.2.2.2.1)]) (.int .i64 l2.2.2.1)) w4 fun r6 w7=>
   Br ((r6:Int) == l2.1)
    (R (.returned (.int .i64 l2.2.2.1)) w7)
    (I5 (l2.1,(l2.2.1.1,l2.2.1.2.1,l2.2.1.2.2.1,l2.2.1.2.2.2.1,l2.2.1.2.2.2.2.1,l2.2.1.2.2.2.2.2.1,l2.2.1.2.2.2.2.2.2.1,l2.2.1.2.2.2.2.2.2.2.1,l2.2.1.2.2.2.2.2.2.2.2.1,l2.2.1.2.2.2.2.2.2.2.2.2.1,l2.2.1.2.2.2.2.2.2.2.2.2.2.1,l2.2.1.2.2.2.2.2.2.2.2.2.2.2.1,l2.2.1.2.2.2.2.2.2.2.2.2.2.2.2.1,l2.2.1.2.2.2.2.2.2.2.2.2.2.2.2.2.1,l2.2.1.2.2.2.2.2.2.2.2.2.2.2.2.2.2.1,l2.2.1.2.2.2.2.2.2.2.2.2.2.2.2.2.2.2.1,()),(IntKind.wrap .i64 (l2.2.2.1 + 1)),()) w7))
   (R (.returned (.int .i64 (-1))) w4)
theorem word_Index.calls (p0:Int) {R:Ending → World → Prop} {w:World} (h:word_Index.sh p0 R w):Calls Tryd.prog 59 #[(.int .u8 p0)] w R:=calls_of_wpc mixed Tryd.func59 (by kernel_rfl) (by kernel_rfl) ((show _ = wpc Tryd.prog word_Index.ann word_Index.body (fnKs Tryd.prog Tryd.f59 R) [] (env0 #[(.int .u8 p0)]) w by kernel_rfl).mp h)
noncomputable def word_Letter.ann:Ann where
 loops:=fun | _=>[]
 joins:=fun | 3=>some [(0,.sc (.int .i64))] | _=>none
noncomputable def word_Letter.body:Code:=match Tryd.f86.body with | some c=>c | none=>.skip
def word_Letter.sh (p0:Int) (R:Ending → World → Prop) (w:World):Prop:=
 Join (σ:=Int × Unit) (fun j3 g2 w4=>
  Idx (some (Addr.mk 0 0 none)) 16 1 j3.1 fun a5=>
  LoadT (.sc (.int .u8)) w4 a5 fun x6=>
  R (.returned (.int .u8 x6)) w4) fun J1=>
  Br (decide ((p0:Int) < 0))
   (Br true
    (R (.returned (.int .u8 0)) w)
    (J1 (p0,()) w))
   (Br (decide ((p0:Int) ≥ 16))
    (R (.returned (.int .u8 0)) w)
    (J1 (p0,()) w))
theorem word_Letter.calls (p0:Int) {R:Ending → World → Prop} {w:World} (h:word_Letter.sh p0 R w):Calls Tryd.prog 86 #[(.int .i64 p0)] w R:=calls_of_wpc mixed Tryd.func86 (by kernel_rfl) (by kernel_rfl) ((show _ = wpc Tryd.prog word_Letter.ann word_Letter.body (fnKs Tryd.prog Tryd.f86 R) [] (env0 #[(.int .i64 p0)]) w by kernel_rfl).mp h)
noncomputable def word_other.ann:Ann where
 loops:=fun | _=>[]
 joins:=fun | _=>none
noncomputable def word_other.body:Code:=match Tryd.f95.body with | some c=>c | none=>.skip
def word_other.sh (p0:Int) (R:Ending → World → Prop) (w:World):Prop:=
 R (.returned (.int .u8 (Go.bits .xor .u8 p0 32))) w
theorem word_other.calls (p0:Int) {R:Ending → World → Prop} {w:World} (h:word_other.sh p0 R w):Calls Tryd.prog 95 #[(.int .u8 p0)] w R:=calls_of_wpc mixed Tryd.func95 (by kernel_rfl) (by kernel_rfl) ((show _ = wpc Tryd.prog word_other.ann word_other.body (fnKs Tryd.prog Tryd.f95 R) [] (env0 #[(.int .u8 p0)]) w by kernel_rfl).mp h)
noncomputable def word_inverse.ann:Ann where
 loops:=fun | 3=>[(0,.sc .str),(3,.sc .sl),(9,.sc (.int .i64)),(10,.sc (.int .i64))] | _=>[]
 joins:=fun | _=>none
noncomputable def word_inverse.body:Code:=match Tryd.f93.body with | some c=>c | none=>.skip
def word_inverse.sh (p0:ByteArray) (R:Ending → World → Prop) (w:World):Prop:=
 RunT Tryd.prog (.sc .sl) (Instr.makeSlice 87 (.int .i64 ((p0.size:Nat):Int)) (.int .i64 ((p0.size:Nat):Int))) w fun r1 w2=>
 LoopT (σ:=ByteArray × Sl × Int × Int × Unit) (p0,r1,((p0.size:Nat):Int),0,()) w2 fun l3 g4 w5 I6=>
  Br (decide ((l3.2.2.2.1:Int) < l3.2.2.1))
   (StrIdx l3.1 l3.2.2.2.1 fun c7=>
   CallT Tryd.prog 95 #[(.int .u8 c7)] (.sc (.int .u8)) w5 (fun r8 w9=>
    Idx l3.2.1.a l3.2.1.n 1 (IntKind.wrap .i64 ((IntKind.wrap .i64 (((l3.1.size:Nat):Int) - 1)) - l3.2.2.2.1)) fun a11=>
    Store1 w9 a11 (.int .u8 r8) fun w12=>
    I6 (l3.1,l3.2.1,l3.2.2.1,(IntKind.wrap .i64 (l3.2.2.2.1 + 1)),()) w12) (fun h10 w9=>R (.panicked h10) w9))
   (RunT Tryd.prog (.sc .str) (convert 87 9 (.slice l3.2.1.a l3.2.1.n l3.2.1.c)) w5 fun r13 w14=>
   R (.returned (.string r13)) w14)
theorem word_inverse.calls (p0:ByteArray) {R:Ending → World → Prop} {w:World} (h:word_inverse.sh p0 R w):Calls Tryd.prog 93 #[(.string p0)] w R:=calls_of_wpc mixed Tryd.func93 (by kernel_rfl) (by kernel_rfl) ((show _ = wpc Tryd.prog word_inverse.ann word_inverse.body (fnKs Tryd.prog Tryd.f93 R) [] (env0 #[(.string p0)]) w by kernel_rfl).mp h)
noncomputable def word_reduce.ann:Ann where
 loops:=fun | 3=>[(3,.sc .sl),(8,.sc .sl),(9,.sc (.int .i64)),(10,.sc (.int .i64))] | 6=>[(3,.sc .sl),(5,.sc .str),(8,.sc .sl),(9,.sc (.int .i64)),(10,.sc (.int .i64)),(15,.sc (.int .i64)),(16,.sc (.int .i64))] | _=>[]
 joins:=fun | 10=>some [(3,.sc .sl),(5,.sc .str),(6,.sc (.int .i64)),(7,.sc (.int .i64)),(8,.sc .sl),(9,.sc (.int .i64)),(10,.sc (.int .i64)),(15,.sc (.int .i64)),(16,.sc (.int .i64)),(34,.sc .bool)] | _=>none
noncomputable def word_reduce.body:Code:=match Tryd.f80.body with | some c=>c | none=>.skip
def word_reduce.sh (p0:Sl) (R:Ending → World → Prop) (w:World):Prop:=
 LoopT (σ:=Sl × Sl × Int × Int × Unit) (⟨none,0,0⟩,p0,((p0.n:Nat):Int),0,()) w fun l1 g2 w3 I4=>
  Br (decide ((l1.2.2.2.1:Int) < l1.2.2.1))
   (Idx l1.2.1.a l1.2.1.n 1 l1.2.2.2.1 fun a5=>
   LoadT (.sc .str) w3 a5 fun x6=>
   LoopT (σ:=Sl × ByteArray × Sl × Int × Int × Int × Int × Unit) (l1.1,x6,l1.2.1,l1.2.2.1,l1.2.2.2.1,((x6.size:Nat):Int),0,()) w3 fun l7 g8 w9 I10=>
    Br (decide ((l7.2.2.2.2.2.2.1:Int) < l7.2.2.2.2.2.1))
     (Join (σ:=Sl × ByteArray × Int × Int × Sl × Int × Int × Int × Int × Bool × Unit) (fun j13 g12 w21=>
      Br j13.2.2.2.2.2.2.2.2.2.1
       (RunT Tryd.prog (.sc .sl) (Instr.sliceAt 87 (.slice j13.1.a j13.1.n j13.1.c) none (some (.int .i64 (IntKind.wrap .i64 (j13.2.2.2.1 - 1)))) none) w21 fun r22 w23=>
       I10 (r22,j13.2.1,j13.2.2.2.2.1,j13.2.2.2.2.2.1,j13.2.2.2.2.2.2.1,j13.2.2.2.2.2.2.2.1,(IntKind.wrap .i64 (j13.2.2.2.2.2.2.2.2.1 + 1)),()) w23)
       (StrIdx j13.2.1 j13.2.2.1 fun c24=>
       New w21 (.cells #[(.int .u8 c24)] 5) fun b25 w26=>
       RunT Tryd.prog (.sc .sl) (Builtin.append_ #[87,87] 87 #[(.slice j13.1.a j13.1.n j13.1.c),(.slice (some (Addr.mk b25 0 none)) 1 1)]) w26 fun r27 w28=>
       I10 (r27,j13.2.1,j13.2.2.2.2.1,j13.2.2.2.2.2.1,j13.2.2.2.2.2.2.1,j13.2.2.2.2.2.2.2.1,(IntKind.wrap .i64 (j13.2.2.2.2.2.2.2.2.1 + 1)),()) w28)) fun J11=>
      ∃ S14:World → Prop,S14 w9.drew ∧
      (Br (decide ((((l7.1.n:Nat):Int):Int) > 0))
       (Idx l7.1.a l7.1.n 1 (IntKind.wrap .i64 (((l7.1.n:Nat):Int) - 1)) fun a15=>
       LoadS S14 (.sc (.int .u8)) a15 fun x16=>
       StrIdx l7.2.1 l7.2.2.2.2.2.2.1 fun c17=>
       CallT Tryd.prog 95 #[(.int .u8 c17)] (.sc (.int .u8)) w9.drew (fun r18 w19=>
         S14 w19 ∧
         (J11 (l7.1,l7.2.1,l7.2.2.2.2.2.2.1,((l7.1.n:Nat):Int),l7.2.2.1,l7.2.2.2.1,l7.2.2.2.2.1,l7.2.2.2.2.2.1,l7.2.2.2.2.2.2.1,((x16:Int) == r18),()) w19)) (fun h20 w19=>R (.panicked h20) w19))
       (J11 (l7.1,l7.2.1,l7.2.2.2.2.2.2.1,((l7.1.n:Nat):Int),l7.2.2.1,l7.2.2.2.1,l7.2.2.2.2.1,l7.2.2.2.2.2.1,l7.2.2.2.2.2.2.1,false,()) w9.drew)))
     (I4 (l7.1,l7.2.2.1,l7.2.2.2.1,(IntKind.wrap .i64 (l7.2.2.2.2.1 + 1)),()) w9))
   (RunT Tryd.prog (.sc .str) (convert 87 9 (.slice l1.1.a l1.1.n l1.1.c)) w3 fun r29 w30=>
   R (.returned (.string r29)) w30)
theorem word_reduce.calls (p0:Sl) {R:Ending → World → Prop} {w:World} (h:word_reduce.sh p0 R w):Calls Tryd.prog 80 #[(.slice p0.a p0.n p0.c)] w R:=calls_of_wpc mixed Tryd.func80 (by kernel_rfl) (by kernel_rfl) ((show _ = wpc Tryd.prog word_reduce.ann word_reduce.body (fnKs Tryd.prog Tryd.f80 R) [] (env0 #[(.slice p0.a p0.n p0.c)]) w by kernel_rfl).mp h)
noncomputable def word_Check.ann:Ann where
 loops:=fun | _=>[]
 joins:=fun | 2=>some [(1,.sc .str),(2,.sc .adr),(5,.sc .bool)] | _=>none
noncomputable def word_Check.body:Code:=match Tryd.f45.body with | some c=>c | none=>.skip
def word_Check.sh (p0:Int) (p1:ByteArray) (R:Ending → World → Prop) (w:World):Prop:=
 New w (.cells #[(.int .i64 p0)] 3) fun b1 w2=>
 Join (σ:=ByteArray × Addr × Bool × Unit) (fun j5 g4 w8=>
  Br j5.2.2.1
   (R (.returned (.int .i64 1)) w8)
   (Br (decide ((((j5.1.size:Nat):Int):Int) > 100000))
    (R (.returned (.int .i64 2)) w8)
    (CallT Tryd.prog 77 #[(.string j5.1),(.func (.func 78) #[] #[(.pointer (some j5.2.1))])] (.sc .bool) w8 (fun r9 w10=>
     Br r9
      (R (.returned (.int .i64 4)) w10)
      (R (.returned (.int .i64 0)) w10)) (fun h11 w10=>R (.panicked h11) w10)))) fun J3=>
  LoadT (.sc (.int .i64)) w2 (Addr.mk b1 0 none) fun x6=>
  Br (decide ((x6:Int) < 1))
   (J3 (p1,(Addr.mk b1 0 none),true,()) w2)
   (LoadT (.sc (.int .i64)) w2 (Addr.mk b1 0 none) fun x7=>
   J3 (p1,(Addr.mk b1 0 none),(decide ((x7:Int) > 8)),()) w2)
theorem word_Check.calls (p0:Int) (p1:ByteArray) {R:Ending → World → Prop} {w:World} (h:word_Check.sh p0 p1 R w):Calls Tryd.prog 45 #[(.int .i64 p0),(.string p1)] w R:=calls_of_wpc mixed Tryd.func45 (by kernel_rfl) (by kernel_rfl) ((show _ = wpc Tryd.prog word_Check.ann word_Check.body (fnKs Tryd.prog Tryd.f45 R) [] (env0 #[(.int .i64 p0),(.string p1)]) w by kernel_rfl).mp h)
noncomputable def word_Check_c1.ann:Ann where
 loops:=fun | _=>[]
 joins:=fun | _=>none
noncomputable def word_Check_c1.body:Code:=match Tryd.f78.body with | some c=>c | none=>.skip
def word_Check_c1.sh (p0:Int) (q0:Addr) (R:Ending → World → Prop) (w:World):Prop:=
 ∃ S1:World → Prop,S1 w.drew ∧
 (Br (decide ((p0:Int) > 127))
  (R (.returned (.bool true)) w.drew)
  (∃ r2:Ty.den (.sc (.int .u8)),(∀ w3,S1 w3 → (convert 21 5 (.int .i32 p0)).run Tryd.prog w3 = .ok (Ty.val (.sc (.int .u8)) r2) w3) ∧
  CallT Tryd.prog 59 #[(.int .u8 r2)] (.sc (.int .i64)) w.drew (fun r4 w5=>
    S1 w5 ∧
    (Br (decide ((r4:Int) < 0))
     (R (.returned (.bool true)) w5)
     (∃ r7:Ty.den (.sc (.int .u8)),(∀ w8,S1 w8 → (convert 21 5 (.int .i32 p0)).run Tryd.prog w8 = .ok (Ty.val (.sc (.int .u8)) r7) w8) ∧
     LoadS S1 (.sc (.int .i64)) q0 fun x9=>
     CallT Tryd.prog 59 #[(.int .u8 r7)] (.sc (.int .i64)) w5 (fun r10 w11=>
       S1 w11 ∧
       (R (.returned (.bool (decide ((r10:Int) ≥ (IntKind.wrap .i64 (2 * x9)))))) w11)) (fun h12 w11=>R (.panicked h12) w11)))) (fun h6 w5=>R (.panicked h6) w5)))
theorem word_Check_c1.calls (p0:Int) (q0:Addr) {R:Ending → World → Prop} {w:World} (h:word_Check_c1.sh p0 q0 R w):Calls Tryd.prog 78 #[(.int .i32 p0),(.pointer (some q0))] w R:=calls_of_wpc mixed Tryd.func78 (by kernel_rfl) (by kernel_rfl) ((show _ = wpc Tryd.prog word_Check_c1.ann word_Check_c1.body (fnKs Tryd.prog Tryd.f78 R) [] (env0 #[(.int .i32 p0),(.pointer (some q0))]) w by kernel_rfl).mp h)
noncomputable def strings_ContainsFunc.ann:Ann where
 loops:=fun | _=>[]
 joins:=fun | _=>none
noncomputable def strings_ContainsFunc.body:Code:=match Tryd.f77.body with | some c=>c | none=>.skip
def strings_ContainsFunc.sh (p0:ByteArray) (p1_0:Addr) (R:Ending → World → Prop) (w:World):Prop:=
 CallT Tryd.prog 94 #[(.string p0),(.func (.func 78) #[] #[(.pointer (some p1_0))])] (.sc (.int .i64)) w (fun r1 w2=>
  R (.returned (.bool (decide ((r1:Int) ≥ 0)))) w2) (fun h3 w2=>R (.panicked h3) w2)
theorem strings_ContainsFunc.calls (p0:ByteArray) (p1_0:Addr) {R:Ending → World → Prop} {w:World} (h:strings_ContainsFunc.sh p0 p1_0 R w):Calls Tryd.prog 77 #[(.string p0),(.func (.func 78) #[] #[(.pointer (some p1_0))])] w R:=calls_of_wpc mixed Tryd.func77 (by kernel_rfl) (by kernel_rfl) ((show _ = wpc Tryd.prog strings_ContainsFunc.ann strings_ContainsFunc.body (fnKs Tryd.prog Tryd.f77 R) [] (env0 #[(.string p0),(.func (.func 78) #[] #[(.pointer (some p1_0))])]) w by kernel_rfl).mp h)
noncomputable def strings_IndexFunc.ann:Ann where
 loops:=fun | _=>[]
 joins:=fun | _=>none
noncomputable def strings_IndexFunc.body:Code:=match Tryd.f94.body with | some c=>c | none=>.skip
def strings_IndexFunc.sh (p0:ByteArray) (p1_0:Addr) (R:Ending → World → Prop) (w:World):Prop:=
 CallT Tryd.prog 98 #[(.string p0),(.func (.func 78) #[] #[(.pointer (some p1_0))]),(.bool true)] (.sc (.int .i64)) w (fun r1 w2=>
  R (.returned (.int .i64 r1)) w2) (fun h3 w2=>R (.panicked h3) w2)
theorem strings_IndexFunc.calls (p0:ByteArray) (p1_0:Addr) {R:Ending → World → Prop} {w:World} (h:strings_IndexFunc.sh p0 p1_0 R w):Calls Tryd.prog 94 #[(.string p0),(.func (.func 78) #[] #[(.pointer (some p1_0))])] w R:=calls_of_wpc mixed Tryd.func94 (by kernel_rfl) (by kernel_rfl) ((show _ = wpc Tryd.prog strings_IndexFunc.ann strings_IndexFunc.body (fnKs Tryd.prog Tryd.f94 R) [] (env0 #[(.string p0),(.func (.func 78) #[] #[(.pointer (some p1_0))])]) w by kernel_rfl).mp h)
noncomputable def strings_indexFunc.ann:Ann where
 loops:=fun | 2=>[(1,.sc (.clo 78 1)),(2,.sc .bool),(10,.sc .adr)] | _=>[]
 joins:=fun | _=>none
noncomputable def strings_indexFunc.body:Code:=match Tryd.f98.body with | some c=>c | none=>.skip
def strings_indexFunc.sh (p0:ByteArray) (p1_0:Addr) (p2:Bool) (R:Ending → World → Prop) (w:World):Prop:=
 RunT Tryd.prog (.sc .adr) (Instr.range 9 (.string p0)) w fun r1 w2=>
 LoopT (σ:=(Addr × Unit) × Bool × Addr × Unit) ((p1_0,()),p2,r1,()) w2 fun l3 g4 w5 I6=>
  NextT Tryd.prog (Instr.next (.pointer (some l3.2.2.1)) true 0) w5 (fun w7=>
   Br false
    (False)
    (R (.returned (.int .i64 (-1))) w7))
   (RunN Tryd.prog [.sc .bool,.sc (.int .i64),.sc (.int .i32)] (Instr.next (.pointer (some l3.2.2.1)) true 0) w5 fun r8 w9=>
   Br r8.1
    (CallT Tryd.prog 78 #[(.int .i32 r8.2.2.1),(.pointer (some l3.1.1))] (.sc .bool) w9 (fun r10 w11=>
     Br (r10 == l3.2.1)
      (R (.returned (.int .i64 r8.2.1)) w11)
      (I6 ((l3.1.1,()),l3.2.1,l3.2.2.1,()) w11)) (fun h12 w11=>R (.panicked h12) w11))
    (R (.returned (.int .i64 (-1))) w9))
theorem strings_indexFunc.calls (p0:ByteArray) (p1_0:Addr) (p2:Bool) {R:Ending → World → Prop} {w:World} (h:strings_indexFunc.sh p0 p1_0 p2 R w):Calls Tryd.prog 98 #[(.string p0),(.func (.func 78) #[] #[(.pointer (some p1_0))]),(.bool p2)] w R:=calls_of_wpc mixed Tryd.func98 (by kernel_rfl) (by kernel_rfl) ((show _ = wpc Tryd.prog strings_indexFunc.ann strings_indexFunc.body (fnKs Tryd.prog Tryd.f98 R) [] (env0 #[(.string p0),(.func (.func 78) #[] #[(.pointer (some p1_0))]),(.bool p2)]) w by kernel_rfl).mp h)
noncomputable def word_is.ann:Ann where
 loops:=fun | _=>[]
 joins:=fun | _=>none
noncomputable def word_is.body:Code:=match Tryd.f79.body with | some c=>c | none=>.skip
def word_is.sh (p0:ByteArray) (R:Ending → World → Prop) (w:World):Prop:=
 CallT Tryd.prog 45 #[(.int .i64 8),(.string p0)] (.sc (.int .i64)) w (fun r1 w2=>
  R (.returned (.bool ((r1:Int) == 0))) w2) (fun h3 w2=>R (.panicked h3) w2)
theorem word_is.calls (p0:ByteArray) {R:Ending → World → Prop} {w:World} (h:word_is.sh p0 R w):Calls Tryd.prog 79 #[(.string p0)] w R:=calls_of_wpc mixed Tryd.func79 (by kernel_rfl) (by kernel_rfl) ((show _ = wpc Tryd.prog word_is.ann word_is.body (fnKs Tryd.prog Tryd.f79 R) [] (env0 #[(.string p0)]) w by kernel_rfl).mp h)
noncomputable def word_Inverse.ann:Ann where
 loops:=fun | _=>[]
 joins:=fun | _=>none
noncomputable def word_Inverse.body:Code:=match Tryd.f75.body with | some c=>c | none=>.skip
def word_Inverse.sh (p0:ByteArray) (R:Ending → World → Prop) (w:World):Prop:=
 CallT Tryd.prog 79 #[(.string p0)] (.sc .bool) w (fun r1 w2=>
  Br (!r1)
   (R (.returned (.string (ByteArray.mk #[]))) w2)
   (CallT Tryd.prog 93 #[(.string p0)] (.sc .str) w2 (fun r4 w5=>
    R (.returned (.string r4)) w5) (fun h6 w5=>R (.panicked h6) w5))) (fun h3 w2=>R (.panicked h3) w2)
theorem word_Inverse.calls (p0:ByteArray) {R:Ending → World → Prop} {w:World} (h:word_Inverse.sh p0 R w):Calls Tryd.prog 75 #[(.string p0)] w R:=calls_of_wpc mixed Tryd.func75 (by kernel_rfl) (by kernel_rfl) ((show _ = wpc Tryd.prog word_Inverse.ann word_Inverse.body (fnKs Tryd.prog Tryd.f75 R) [] (env0 #[(.string p0)]) w by kernel_rfl).mp h)
noncomputable def word_Reduce.ann:Ann where
 loops:=fun | _=>[]
 joins:=fun | _=>none
noncomputable def word_Reduce.body:Code:=match Tryd.f48.body with | some c=>c | none=>.skip
def word_Reduce.sh (p0:ByteArray) (R:Ending → World → Prop) (w:World):Prop:=
 CallT Tryd.prog 79 #[(.string p0)] (.sc .bool) w (fun r1 w2=>
  Br (!r1)
   (R (.returned (.string (ByteArray.mk #[]))) w2)
   (New w2 (.cells #[(.string p0)] 9) fun b4 w5=>
   CallT Tryd.prog 80 #[(.slice (some (Addr.mk b4 0 none)) 1 1)] (.sc .str) w5 (fun r6 w7=>
    R (.returned (.string r6)) w7) (fun h8 w7=>R (.panicked h8) w7))) (fun h3 w2=>R (.panicked h3) w2)
theorem word_Reduce.calls (p0:ByteArray) {R:Ending → World → Prop} {w:World} (h:word_Reduce.sh p0 R w):Calls Tryd.prog 48 #[(.string p0)] w R:=calls_of_wpc mixed Tryd.func48 (by kernel_rfl) (by kernel_rfl) ((show _ = wpc Tryd.prog word_Reduce.ann word_Reduce.body (fnKs Tryd.prog Tryd.f48 R) [] (env0 #[(.string p0)]) w by kernel_rfl).mp h)
end Go.Proofs.YtffdjfkekdoeaaaDoor
end
