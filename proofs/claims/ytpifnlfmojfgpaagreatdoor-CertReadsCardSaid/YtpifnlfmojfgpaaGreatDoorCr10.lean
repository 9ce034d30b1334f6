/- Parts of a proof, laid one behind the other by our own merge.py: RkNum RkRead RkWord RkPrint PkPrint PkIter2 PkIter3 PkIter4 PkIter5. -/
import Derived.Test.YtpifnlfmojfgpaaGreatDoorCr6
import Derived.Test.YtpifnlfmojfgpaaGreatDoorCr7
import Derived.Test.YtpifnlfmojfgpaaGreatDoorCr8
import Derived.Test.YtpifnlfmojfgpaaGreatDoorCr9
set_option linter.unusedVariables false
set_option linter.unusedSimpArgs false
section
set_option maxRecDepth 10000
namespace Go.Proofs.YtpifnlfmojfgpaaGreatDoor.Rk
open Fw Pw Ct Pk
theorem CatL.mk' {α:Type} {xs ys:List α} {A:Prop} (h:xs.length + ys.length ≤ 4611686018427387904) (k:A):CatL xs ys A:=⟨h,k⟩
noncomputable def a144:FAnn:={}
noncomputable def a103:FAnn:={}
def sg144:Sig:=⟨[iA],[.any],[sA]⟩
def sg103:Sig:=⟨[iA],[.any],[sA]⟩
theorem dec_len (k u:Nat) (h:u < 10 ^ (k + 1)):(Go.Lib.decDigits u).length ≤ k + 1:=by
 induction k generalizing u with
 | zero=>rw [Go.Lib.decDigits,dif_pos (by simpa using h)]; simp
 | succ k ih=>
  by_cases hu:u < 10
  ·rw [Go.Lib.decDigits,dif_pos hu]; simp
  ·rw [Go.Lib.decDigits,dif_neg hu,List.length_append]
   have:=ih (u / 10) (by rw [Nat.pow_succ] at h; omega)
   simp only [List.length_cons,List.length_nil]; omega
theorem dec_len20 {u:Nat} (h:u ≤ 9223372036854775808):(Go.Lib.decDigits u).length ≤ 19:=dec_len 18 u (by omega)
theorem tmod_neg (u:Nat):(-(u:Int)).tmod 10 = -((u % 10:Nat):Int):=by rw [Int.neg_tmod]; rfl
theorem tdiv_neg (u:Nat):(-(u:Int)).tdiv 10 = -((u / 10:Nat):Int):=by rw [Int.neg_tdiv]; rfl
theorem digits_pc:∀ (u:Nat),u ≤ 9223372036854775808 → PC Tryz.prog 144 sg144 (-(u:Int),()) (fun y _=>y.1 = Go.Lib.decDigits u) (fun _=>False):=by
 intro u
 induction u using Nat.strongRecOn with
 | _ u ih=>
 intro hu
 refine PC.of a144 [(144,sg144)] (by kernel_rfl) ?_
 refine QuoP.mk (by decide) ?_
 have hb:([IntKind.wrap .u8 (IntKind.wrap .i64 (48 - (-(u:Int)).tmod 10))]:List Int) = [UInt8.ofNat (48 + u % 10)].map fun c=>(c.toNat:Int):=by
  have h1:IntKind.wrap .i64 (48 - (-(u:Int)).tmod 10) = ((48 + u % 10:Nat):Int):=by rw [tmod_neg]; rw [Fw.wrap64 (by omega) (by omega)]; omega
  have h2:IntKind.wrap .u8 ((48 + u % 10:Nat):Int) = ((48 + u % 10:Nat):Int):=by simp [IntKind.wrap,IntKind.bits,IntKind.signed]; omega
  rw [h1,h2,List.map_cons,List.map_nil,digit_toNat _ (by omega)]
 refine BytL.mk [UInt8.ofNat (48 + u % 10)] hb (show 1 ≤ 4611686018427387904 by decide) ?_
 refine BrP.mk' (fun h=>?_) (fun h=>?_)
 ·have h:u < 10:=by have:-(10:Int) < -(u:Int):=by simpa using h
                    omega
  show [UInt8.ofNat (48 + u % 10)] = _
  rw [Go.Lib.decDigits,dif_pos h,Nat.mod_eq_of_lt h]
 ·have h:¬ u < 10:=by have:¬ -(10:Int) < -(u:Int):=by simpa using h
                      omega
  refine QuoP.mk (by decide) ?_
  have hw:IntKind.wrap .i64 ((-(u:Int)).tdiv 10) = -((u / 10:Nat):Int):=by rw [tdiv_neg]; exact Fw.wrap64 (by omega) (by omega)
  have hc:=ih (u / 10) (by omega) (by omega)
  rw [← hw] at hc
  refine CallP.mk _ _ hc ?_ (fun p h=>h.elim)
  rintro ⟨y,_⟩ z hy
  have hy:y = Go.Lib.decDigits (u / 10):=hy
  refine CatL.mk' (by show y.length + 1 ≤ _; rw [hy]; have:=dec_len20 (u:=u / 10) (by omega); omega) ?_
  show y ++ [UInt8.ofNat (48 + u % 10)] = _
  rw [Go.Lib.decDigits,dif_neg h,hy]
theorem decimal_pc (n:Int) (hn:In64 n):PC Tryz.prog 103 sg103 (n,()) (fun y _=>y.1 = Go.Lib.itoa n) (fun _=>False):=by
 obtain ⟨h0,h1⟩:=hn
 refine PC.of a103 [(144,sg144)] (by kernel_rfl) ?_
 refine BrP.mk' (fun h=>?_) (fun h=>?_)
 ·have h:0 ≤ n:=by simpa using h
  have hc:=digits_pc n.toNat (by omega)
  have hw:IntKind.wrap .i64 (-n) = -((n.toNat:Nat):Int):=by rw [Fw.wrap64 (by omega) (by omega)]; omega
  rw [← hw] at hc
  refine CallP.mk _ _ hc ?_ (fun p h=>h.elim)
  rintro ⟨y,_⟩ z hy
  have hy:y = Go.Lib.decDigits n.toNat:=hy
  show y = _
  rw [hy]; unfold Go.Lib.itoa; rw [if_neg (by omega)]
 ·have h:n < 0:=by have:¬ 0 ≤ n:=by simpa using h
                   omega
  have hc:=digits_pc n.natAbs (by omega)
  have hw:n = -((n.natAbs:Nat):Int):=by omega
  rw [← hw] at hc
  refine CallP.mk _ _ hc ?_ (fun p h=>h.elim)
  rintro ⟨y,_⟩ z hy
  have hy:y = Go.Lib.decDigits n.natAbs:=hy
  refine CatL.mk' (by show 1 + y.length ≤ _; rw [hy]; have:=dec_len20 (u:=n.natAbs) (by omega); omega) ?_
  show [45] ++ y = _
  rw [hy]; unfold Go.Lib.itoa; rw [if_pos h]; rfl
end Go.Proofs.YtpifnlfmojfgpaaGreatDoor.Rk
end
section
set_option maxRecDepth 10000
set_option maxHeartbeats 400000
namespace Go.Proofs.YtpifnlfmojfgpaaGreatDoor.Rk
open Fw Pw Ct Pk
abbrev lineT:PT:=.cons tW .nil
abbrev rdA:AT:=.cons (.pv (.lst lineT)) (.cons iA (.cons bA .nil))
def wrapL (L:Lns):List lineT.den:=L.map fun l=>(l,())
def rd (L:Lns) (a:Nat) (ok:Bool):rdA.den:=(wrapL L,(a:Int),ok,())
noncomputable def a88:FAnn where
 joins:=fun | 3=>some [.kv 0,.mem 0 0 rdA] | _=>none
 sched:=fun | 1=>runS [(0,false),(1,false),(2,false),(3,false),(4,false),(5,false),(6,false),(7,false),(8,false),(9,false),(10,false),(11,false),(12,false),(13,false),(14,false),(15,false),(16,false),(17,false),(18,false),(19,false),(20,false),(21,false),(22,false),(23,false),(24,false),(25,false),(26,false),(27,false),(28,false),(29,false),(30,false),(31,false),(32,false),(33,false)] .fin | 4=>runS [(0,false),(1,false),(2,false),(3,false),(4,false),(5,false),(6,false),(7,false),(8,false),(9,false),(10,false),(11,false),(12,false),(13,false),(14,false)] .fin | _=>.fin
noncomputable def a89:FAnn:={}
def sg89:Sig:=⟨[.box rdA,bA],[.box rdA,.any],[]⟩
def sg88:Sig:=⟨[.box rdA,sA],[.box rdA,.any],[.pv tW,bA]⟩
theorem rmust_pc (L:Lns) (a:Nat) (ok b:Bool):PC Tryz.prog 89 sg89 (rd L a ok,b,()) (fun _ z=>z.1 = rd L a (ok && b)) (fun _=>False):=by
 refine PC.of a89 [] (by kernel_rfl) ?_
 refine BrP.mk' (fun h=>?_) (fun h=>?_)
 ·have h:ok = true:=h
  show rd L a b = _
  rw [h]; rfl
 ·have h:ok = false:=h
  show rd L a false = _
  rw [h]; rfl
structure NextOk (h:Str) (L:Lns) (a:Nat) (ok:Bool) (ps:List Str) (b:Bool) (a':Nat):Prop where
 le:a' ≤ L.length
 yes:ok = true → takeF h (L.drop a) = (ps,b,L.drop a')
 no:ok = false → b = false ∧ a' = a
 lt:b = true → a < a'
 parts:ps.length ≤ NN ∧ ∀ p ∈ ps,p.length ≤ NN
theorem wrap_get {L:Lns} {a:Nat} (h:a < L.length):(wrapL L)[a]? = some (L[a],()):=by simp [wrapL,h]
theorem next_pc (h0:Str) (L:Lns) (hL:LimL L) (a:Nat) (ha:a ≤ L.length) (ok:Bool):PC Tryz.prog 88 sg88 (rd L a ok,h0,()) (fun y z=>∃ ps b a',y = (ps,b,()) ∧ z.1 = rd L a' ok ∧ NextOk h0 L a ok ps b a') (fun _=>False):=by
 refine PC.of a88 [] (by kernel_rfl) ?_
 have hlen:(wrapL L).length = L.length:=by simp [wrapL]
 have hNN:=hL.len
 unfold NN at hNN
 refine JoinP.mk (fun x=>x = (rd L a ok,()) ∧ ok = true ∧ ∃ h:a < L.length,L[a].headD [] = h0) ?_ ?_
 ·rintro x ⟨rfl,hok,hlt,hh⟩
  have hne:=hL.full L[a] (List.getElem_mem hlt)
  have hw:IntKind.wrap .i64 ((a:Int) + 1) = ((a + 1:Nat):Int):=Fw.wrap64 (by omega) (by omega)
  have hw2:IntKind.wrap .i64 (IntKind.wrap .i64 ((a:Int) + 1) - 1) = (a:Int):=by rw [hw,Fw.wrap64 (by omega) (by omega)]; omega
  have hpos:1 ≤ L[a].length:=List.length_pos_iff.2 hne
  refine GetL.is a (x:=(L[a],())) hw2 (wrap_get hlt) ?_
  refine SubL.from 1 rfl rfl hpos ?_
  refine ⟨L[a].drop 1,true,a + 1,rfl,?_,⟨hlt,fun _=>?_,fun h=>(by rw [hok] at h; cases h),fun _=>Nat.lt_succ_self a,?_⟩⟩
  ·show (wrapL L,IntKind.wrap .i64 ((a:Int) + 1),ok,()) = _
   rw [hw]; rfl
  ·rw [List.drop_eq_getElem_cons hlt]
   simp only [takeF]; rw [if_pos hh]
  ·refine ⟨?_,fun p hp=>hL.part L[a] (List.getElem_mem hlt) p (List.mem_of_mem_drop hp)⟩
   have:=hL.parts L[a] (List.getElem_mem hlt)
   rw [List.length_drop]; omega
 ·refine BrP.mk' (fun hb=>?_) (fun hb=>?_)
  ·have hb:ok = false:=by have:(!ok) = true:=hb
                          simpa using this
   exact ⟨[],false,a,rfl,rfl,⟨ha,fun h=>(by rw [hb] at h; cases h),fun _=>⟨rfl,rfl⟩,fun h=>(by cases h),⟨Nat.zero_le _,by simp⟩⟩⟩
  ·have hb:ok = true:=by have:(!ok) = false:=hb
                         simpa using this
   refine LenL.mk fun _=>?_
   refine BrP.mk' (fun hc=>?_) (fun hc=>?_)
   ·have hc:a = L.length:=by
     have hc:(a:Int) ≥ ((wrapL L).length:Int):=of_decide_eq_true hc
     omega
    exact ⟨[],false,a,rfl,rfl,⟨ha,fun _=>by rw [hc,List.drop_length]; rfl,fun h=>(by rw [hb] at h; cases h),fun h=>(by cases h),⟨Nat.zero_le _,by simp⟩⟩⟩
   ·have hlt:a < L.length:=by
     have hc:¬ (a:Int) ≥ ((wrapL L).length:Int):=of_decide_eq_false hc
     omega
    have hne:=hL.full L[a] (List.getElem_mem hlt)
    have hg:∃ q l,L[a] = q :: l:=List.exists_cons_of_ne_nil hne
    obtain ⟨q,l,hql⟩:=hg
    have g0:L[a][0]? = some q:=by rw [hql]; rfl
    refine GetL.is a (x:=(L[a],())) rfl (wrap_get hlt) (GetL.is 0 (x:=q) rfl g0 ?_)
    refine BrP.mk' (fun hd=>?_) (fun hd=>?_)
    ·have hd:q ≠ h0:=by simpa using hd
     refine ⟨[],false,a,rfl,rfl,⟨ha,fun _=>?_,fun h=>(by rw [hb] at h; cases h),fun h=>(by cases h),⟨Nat.zero_le _,by simp⟩⟩⟩
     rw [List.drop_eq_getElem_cons hlt]
     simp only [takeF]; rw [if_neg (by rw [hql]; exact hd)]
    ·have hd:q = h0:=by simpa using hd
     repeat refine SameV.mk rfl ?_
     exact show _ ∧ _ from ⟨rfl,hb,hlt,by rw [hql]; exact hd⟩
end Go.Proofs.YtpifnlfmojfgpaaGreatDoor.Rk
end
section
set_option maxRecDepth 10000
set_option maxHeartbeats 400000
namespace Go.Proofs.YtpifnlfmojfgpaaGreatDoor.Rk
open Fw Pw Ct Pk
noncomputable def a143:FAnn:={}
noncomputable def a101:FAnn where
 loops:=fun | 6=>[.kv 0,.kv 1,.sl 5 (.pv (.int .i64))] | _=>[]
noncomputable def a52:FAnn:={}
noncomputable def a53:FAnn where
 loops:=fun | 2=>[.kv 0,.sl 3 (.pv (.int .i64))] | _=>[]
noncomputable def a102:FAnn:={}
noncomputable def a54:FAnn:={}
noncomputable def a55:FAnn:={}
noncomputable def a30:FAnn where
 loops:=fun | 4=>[.kv 2,.kv 3,.sl 5 (.pv (.int .i64)),.mem 0 0 (.pv presT),.mem 1 0 (.pv presT)] | _=>[]
 joins:=fun | 3=>some [.kv 2,.kv 3,.mem 0 0 (.pv presT),.mem 1 0 (.pv presT)] | _=>none
 sched:=fun | 6=>runS [(0,false),(1,false),(2,false),(3,false),(4,false),(5,false),(6,false),(7,false),(8,false),(9,false),(10,false)] .fin | _=>.fin
noncomputable def a104:FAnn:={}
def sg143:Sig:=⟨[.pv (.int .u8)],[.any],[iA]⟩
def sg101:Sig:=⟨[iA,sA],[.any,.any],[iA]⟩
def sg52:Sig:=⟨[sA],[.any],[bA]⟩
def sg53:Sig:=⟨[.pv tCs],[.any],[bA]⟩
def sg102:Sig:=⟨[.pv presT],[.any],[bA]⟩
def sg54:Sig:=⟨[.pv mapT],[.any],[bA]⟩
def sg55:Sig:=⟨[.pv strT],[.any],[bA]⟩
def sg30:Sig:=⟨[.pv presT,.pv presT],[.any,.any],[bA]⟩
def sg104:Sig:=⟨[sA],[.any],[sA]⟩
theorem let_is (c:UInt8):isLet c = decide ((97 ≤ c.toNat ∧ c.toNat ≤ 104) ∨ (65 ≤ c.toNat ∧ c.toNat ≤ 72)):=by
 unfold isLet
 rw [Bool.eq_iff_iff]
 simp only [Bool.or_eq_true,Bool.and_eq_true,decide_eq_true_eq,UInt8.le_iff_toNat_le]
 rfl
theorem wrapu {x:Int} (h0:0 ≤ x) (h1:x ≤ 255):IntKind.wrap .u8 x = x:=by simp [IntKind.wrap,IntKind.bits,IntKind.signed]; omega
theorem rindex_pc (c:UInt8):PC Tryz.prog 143 sg143 ((c.toNat:Int),()) (fun y _=>(0 ≤ y.1 ∧ y.1 < 16) ↔ isLet c = true) (fun _=>False):=by
 refine PC.of a143 [] (by kernel_rfl) ?_
 have hl:=let_is c
 have hc:=c.toNat_lt
 have second:bodyP Tryz.prog (callC Tryz.prog (sigOf [])) a143 143 sg143 ((c.toNat:Int),()) (fun y _=>(0 ≤ y.1 ∧ y.1 < 16) ↔ isLet c = true) (fun _=>False) → True:=fun _=>trivial
 refine BrP.mk' (fun h1=>?_) (fun h1=>?_)
 ·have h1:(c.toNat:Int) ≥ 97:=of_decide_eq_true h1
  refine BrP.mk' (fun h2=>?_) (fun h2=>?_)
  ·have h2:(c.toNat:Int) < 105:=of_decide_eq_true h2
   show (0 ≤ IntKind.wrap .i64 (2 * IntKind.wrap .i64 (IntKind.wrap .u8 ((c.toNat:Int) - 97))) ∧ IntKind.wrap .i64 (2 * IntKind.wrap .i64 (IntKind.wrap .u8 ((c.toNat:Int) - 97))) < 16) ↔ _
   rw [wrapu (by omega) (by omega),Fw.wrap64 (x:=(c.toNat:Int) - 97) (by omega) (by omega),Fw.wrap64 (by omega) (by omega),hl]
   simp only [decide_eq_true_eq]; omega
  ·have h2:¬ (c.toNat:Int) < 105:=of_decide_eq_false h2
   refine BrP.mk' (fun h3=>?_) (fun h3=>?_)
   ·refine BrP.mk' (fun h4=>?_) (fun h4=>?_)
    ·have h4:(c.toNat:Int) < 73:=of_decide_eq_true h4
     omega
    ·show (0 ≤ (-1:Int) ∧ (-1:Int) < 16) ↔ _
     rw [hl]; simp only [decide_eq_true_eq]; omega
   ·have h3:¬ (c.toNat:Int) ≥ 65:=of_decide_eq_false h3
    omega
 ·have h1:¬ (c.toNat:Int) ≥ 97:=of_decide_eq_false h1
  refine BrP.mk' (fun h3=>?_) (fun h3=>?_)
  ·have h3:(c.toNat:Int) ≥ 65:=of_decide_eq_true h3
   refine BrP.mk' (fun h4=>?_) (fun h4=>?_)
   ·have h4:(c.toNat:Int) < 73:=of_decide_eq_true h4
    show (0 ≤ IntKind.wrap .i64 (IntKind.wrap .i64 (2 * IntKind.wrap .i64 (IntKind.wrap .u8 ((c.toNat:Int) - 65))) + 1) ∧ IntKind.wrap .i64 (IntKind.wrap .i64 (2 * IntKind.wrap .i64 (IntKind.wrap .u8 ((c.toNat:Int) - 65))) + 1) < 16) ↔ _
    rw [wrapu (by omega) (by omega),Fw.wrap64 (x:=(c.toNat:Int) - 65) (by omega) (by omega),Fw.wrap64 (x:=2 * ((c.toNat:Int) - 65)) (by omega) (by omega),Fw.wrap64 (by omega) (by omega),hl]
    simp only [decide_eq_true_eq]; omega
   ·have h4:¬ (c.toNat:Int) < 73:=of_decide_eq_false h4
    show (0 ≤ (-1:Int) ∧ (-1:Int) < 16) ↔ _
    rw [hl]; simp only [decide_eq_true_eq]; omega
  ·have h3:¬ (c.toNat:Int) ≥ 65:=of_decide_eq_false h3
   show (0 ≤ (-1:Int) ∧ (-1:Int) < 16) ↔ _
   rw [hl]; simp only [decide_eq_true_eq]; omega
theorem let_lo {n:Int} {b:Bool} (h:(0 ≤ n ∧ n < 16) ↔ b = true) (h2:n < 0):b = false:=by rw [Bool.eq_false_iff]; intro hb; have:=h.2 hb; omega
theorem let_hi {n:Int} {b:Bool} (h:(0 ≤ n ∧ n < 16) ↔ b = true) (h2:n ≥ 16):b = false:=by rw [Bool.eq_false_iff]; intro hb; have:=h.2 hb; omega
theorem let_ok {n:Int} {b:Bool} (h:(0 ≤ n ∧ n < 16) ↔ b = true) (h1:¬ n < 0) (h2:¬ n ≥ 16):b = true:=h.1 ⟨by omega,by omega⟩
theorem rcheck_pc (w:Str):PC Tryz.prog 101 sg101 (8,w,()) (fun y _=>(y.1 == 0) = isW w) (fun _=>False):=by
 refine PC.of a101 [(143,sg143)] (by kernel_rfl) ?_
 refine BrP.mk' (fun h1=>?_) (fun h1=>?_)
 ·cases h1
 refine BrP.mk' (fun h2=>?_) (fun h2=>?_)
 ·cases h2
 refine LenL.mk fun _=>?_
 refine BrP.mk' (fun h3=>?_) (fun h3=>?_)
 ·have h3:(w.length:Int) > 100000:=of_decide_eq_true h3
  show ((2:Int) == 0) = isW w
  have:¬ w.length ≤ 100000:=by omega
  simp [isW,this]
 have h3:¬ (w.length:Int) > 100000:=of_decide_eq_false h3
 have hlen:w.length ≤ 100000:=by omega
 repeat refine SameV.mk rfl ?_
 refine LoopP.mk (fun x=>∃ i:Nat,x = ((i:Int),()) ∧ i ≤ w.length ∧ (w.take i).all isLet = true) (fun x=>w.length - x.1.toNat) ⟨0,rfl,Nat.zero_le _,rfl⟩ ?_
 rintro x ⟨i,rfl,hi,ha⟩
 refine LenL.mk fun _=>?_
 refine BrP.mk' (fun h=>?_) (fun h=>?_)
 ·have h:(i:Int) < (w.length:Int):=of_decide_eq_true h
  have h:i < w.length:=by omega
  have hg:w[i]? = some w[i]:=List.getElem?_eq_getElem h
  refine GetL.is i (x:=w[i]) rfl hg ?_
  refine CallP.mk _ _ (rindex_pc w[i]) ?_ (fun p h=>h.elim)
  rintro ⟨n,_⟩ z hn
  have hn:(0 ≤ n ∧ n < 16) ↔ isLet w[i] = true:=hn
  have bad:isLet w[i] = false → isW w = false:=fun hb=>by
   unfold isW
   have:w.all isLet = false:=by
    rw [Bool.eq_false_iff]
    intro hall
    rw [List.all_eq_true] at hall
    rw [hall w[i] (List.getElem_mem h)] at hb; cases hb
   rw [this,Bool.and_false]
  have step:isLet w[i] = true → (w.take (i + 1)).all isLet = true:=fun hb=>by rw [List.take_add_one,hg,List.all_append,ha]; simp [hb]
  have hw:IntKind.wrap .i64 ((i:Int) + 1) = ((i + 1:Nat):Int):=Fw.wrap64 (by omega) (by omega)
  have h16:IntKind.wrap .i64 (2 * 8) = 16:=by decide
  refine BrP.mk' (fun h5=>?_) (fun h5=>?_)
  ·have h5:n < 0:=of_decide_eq_true h5
   show ((4:Int) == 0) = isW w
   rw [bad (let_lo hn h5)]; rfl
  ·have h5:¬ n < 0:=of_decide_eq_false h5
   refine BrP.mk' (fun h6=>?_) (fun h6=>?_)
   ·have h6:n ≥ IntKind.wrap .i64 (2 * 8):=of_decide_eq_true h6
    rw [h16] at h6
    show ((4:Int) == 0) = isW w
    rw [bad (let_hi hn h6)]; rfl
   ·have h6:¬ n ≥ IntKind.wrap .i64 (2 * 8):=of_decide_eq_false h6
    rw [h16] at h6
    repeat refine SameV.mk rfl ?_
    refine And.intro (Exists.intro (i + 1) (And.intro ?_ ⟨h,step (let_ok hn h5 h6)⟩)) ?_
    ·rw [← hw]; rfl
    ·show w.length - (IntKind.wrap .i64 ((i:Int) + 1)).toNat < w.length - (i:Int).toNat
     rw [hw]; omega
 ·have h:¬ (i:Int) < (w.length:Int):=of_decide_eq_false h
  have h:i = w.length:=by omega
  rw [h,List.take_length] at ha
  show ((0:Int) == 0) = isW w
  simp [isW,hlen,ha]
theorem risword_pc (w:Str):PC Tryz.prog 52 sg52 (w,()) (fun y _=>y.1 = isW w) (fun _=>False):=by
 refine PC.of a52 [(101,sg101)] (by kernel_rfl) ?_
 refine CallP.mk _ _ (rcheck_pc w) ?_ (fun p h=>h.elim)
 rintro ⟨y,_⟩ z hy
 exact hy
theorem rarecells_pc (d:List Cell) (hd:d.length ≤ NN):PC Tryz.prog 53 sg53 (d,()) (fun y _=>y.1 = cellsW d) (fun _=>False):=by
 refine PC.of a53 [(52,sg52)] (by kernel_rfl) ?_
 have hNN:d.length ≤ 20001:=hd
 repeat refine SameV.mk rfl ?_
 refine LoopP.mk (fun x=>∃ i:Nat,x = ((i:Int),()) ∧ i ≤ d.length ∧ (d.take i).all (fun c=>isW c.1) = true) (fun x=>d.length - x.1.toNat) ⟨0,rfl,Nat.zero_le _,rfl⟩ ?_
 rintro x ⟨i,rfl,hi,ha⟩
 refine LenL.mk fun _=>?_
 refine BrP.mk' (fun h=>?_) (fun h=>?_)
 ·have h:(i:Int) < (d.length:Int):=of_decide_eq_true h
  have h:i < d.length:=by omega
  have hg:d[i]? = some d[i]:=List.getElem?_eq_getElem h
  refine GetL.is i (x:=d[i]) rfl hg ?_
  refine CallP.mk _ _ (risword_pc d[i].1) ?_ (fun p h=>h.elim)
  rintro ⟨b,_⟩ z hb
  have hb:b = isW d[i].1:=hb
  have hw:IntKind.wrap .i64 ((i:Int) + 1) = ((i + 1:Nat):Int):=Fw.wrap64 (by omega) (by omega)
  refine BrP.mk' (fun h5=>?_) (fun h5=>?_)
  ·have h5:(!b) = true:=h5
   have h5:isW d[i].1 = false:=by rw [← hb]; cases b <;> first | rfl | cases h5
   show false = cellsW d
   symm
   rw [Bool.eq_false_iff]
   intro hall
   unfold cellsW at hall
   rw [List.all_eq_true] at hall
   rw [hall d[i] (List.getElem_mem h)] at h5; cases h5
  ·have h5:(!b) = false:=h5
   have h5:isW d[i].1 = true:=by rw [← hb]; cases b <;> first | rfl | cases h5
   have step:(d.take (i + 1)).all (fun c=>isW c.1) = true:=by rw [List.take_add_one,hg,List.all_append,ha]; simp [h5]
   repeat refine SameV.mk rfl ?_
   refine And.intro (Exists.intro (i + 1) (And.intro ?_ ⟨h,step⟩)) ?_
   ·rw [← hw]; rfl
   ·show d.length - (IntKind.wrap .i64 ((i:Int) + 1)).toNat < d.length - (i:Int).toNat
    rw [hw]; omega
 ·have h:¬ (i:Int) < (d.length:Int):=of_decide_eq_false h
  have h:i = d.length:=by omega
  rw [h,List.take_length] at ha
  show true = cellsW d
  unfold cellsW; rw [ha]
theorem rspelled_pc (w:Str):PC Tryz.prog 104 sg104 (w,()) (fun y _=>y.1 = wordS w) (fun _=>False):=by
 refine PC.of a104 [] (by kernel_rfl) ?_
 refine BrP.mk' (fun h=>?_) (fun h=>?_)
 ·have h:w = []:=by simpa using h
  show [49] = wordS w
  rw [h]; rfl
 ·have h:w ≠ []:=by simpa using h
  show w = wordS w
  unfold wordS; rw [if_neg h]
theorem len0 {α:Type} (l:List α):((l.length:Int) == 0) = l.isEmpty:=by
 cases l with
 | nil=>rfl
 | cons a l=>rw [List.length_cons,List.isEmpty_cons,beq_eq_false_iff_ne]; omega
theorem rnopres_pc (p:Pres):PC Tryz.prog 102 sg102 (p,()) (fun y _=>y.1 = noPres p) (fun _=>False):=by
 refine PC.of a102 [] (by kernel_rfl) ?_
 refine BrP.mk' (fun h=>?_) (fun h=>?_)
 ·have h:(p.1 == 0) = true:=h
  refine LenL.mk fun _=>?_
  show ((p.2.1.length:Int) == 0) = noPres p
  unfold noPres; rw [h,len0]; rfl
 ·have h:(p.1 == 0) = false:=h
  show false = noPres p
  unfold noPres; rw [h]; rfl
theorem rnomap_pc (m:Map):PC Tryz.prog 54 sg54 (m,()) (fun y _=>y.1 = noMap m) (fun _=>False):=by
 refine PC.of a54 [(102,sg102)] (by kernel_rfl) ?_
 refine CallP.mk _ _ (rnopres_pc m.1) ?_ (fun p h=>h.elim)
 rintro ⟨b,_⟩ z hb
 have hb:b = noPres m.1:=hb
 refine BrP.mk' (fun h=>?_) (fun h=>?_)
 ·have h:noPres m.1 = true:=by rw [← hb]; exact h
  refine BrP.mk' (fun h2=>?_) (fun h2=>?_)
  ·have h2:(m.2.1 == 0) = true:=h2
   refine LenL.mk fun _=>?_
   show ((m.2.2.1.length:Int) == 0) = noMap m
   unfold noMap; rw [h,h2,len0]; rfl
  ·have h2:(m.2.1 == 0) = false:=h2
   show false = noMap m
   unfold noMap; rw [h,h2]; rfl
 ·have h:noPres m.1 = false:=by rw [← hb]; exact h
  show false = noMap m
  unfold noMap; rw [h]; rfl
theorem rnostr_pc (s:Strc):PC Tryz.prog 55 sg55 (s,()) (fun y _=>y.1 = noStr s) (fun _=>False):=by
 refine PC.of a55 [(102,sg102)] (by kernel_rfl) ?_
 refine CallP.mk _ _ (rnopres_pc s.1) ?_ (fun p h=>h.elim)
 rintro ⟨b,_⟩ z hb
 have hb:b = noPres s.1:=hb
 refine BrP.mk' (fun h=>?_) (fun h=>?_)
 rotate_left
 ·have h:noPres s.1 = false:=by rw [← hb]; exact h
  show false = noStr s
  unfold noStr; rw [h]; rfl
 have h:noPres s.1 = true:=by rw [← hb]; exact h
 refine BrP.mk' (fun h1=>?_) (fun h1=>?_)
 rotate_left
 ·have h1:(s.2.1.1 == 0) = false:=h1
  show false = noStr s
  unfold noStr; rw [h,h1]; rfl
 have h1:(s.2.1.1 == 0) = true:=h1
 refine BrP.mk' (fun h2=>?_) (fun h2=>?_)
 rotate_left
 ·have h2:(s.2.1.2.1 == 0) = false:=h2
  show false = noStr s
  unfold noStr; rw [h,h1,h2]; rfl
 have h2:(s.2.1.2.1 == 0) = true:=h2
 refine LenL.mk fun _=>BrP.mk' (fun h3=>?_) (fun h3=>?_)
 rotate_left
 ·have h3:((s.2.1.2.2.1.length:Int) == 0) = false:=h3
  show false = noStr s
  rw [len0] at h3
  unfold noStr; rw [h,h1,h2,h3]; rfl
 have h3:((s.2.1.2.2.1.length:Int) == 0) = true:=h3
 rw [len0] at h3
 refine LenL.mk fun _=>BrP.mk' (fun h4=>?_) (fun h4=>?_)
 rotate_left
 ·have h4:((s.2.1.2.2.2.1.length:Int) == 0) = false:=h4
  show false = noStr s
  rw [len0] at h4
  unfold noStr; rw [h,h1,h2,h3,h4]; rfl
 have h4:((s.2.1.2.2.2.1.length:Int) == 0) = true:=h4
 rw [len0] at h4
 refine LenL.mk fun _=>BrP.mk' (fun h5=>?_) (fun h5=>?_)
 rotate_left
 ·have h5:((s.2.2.1.length:Int) == 0) = false:=h5
  show false = noStr s
  rw [len0] at h5
  unfold noStr; rw [h,h1,h2,h3,h4,h5]; rfl
 have h5:((s.2.2.1.length:Int) == 0) = true:=h5
 rw [len0] at h5
 refine LenL.mk fun _=>BrP.mk' (fun h6=>?_) (fun h6=>?_)
 rotate_left
 ·have h6:((s.2.2.2.1.length:Int) == 0) = false:=h6
  show false = noStr s
  rw [len0] at h6
  unfold noStr; rw [h,h1,h2,h3,h4,h5,h6]; rfl
 have h6:((s.2.2.2.1.length:Int) == 0) = true:=h6
 rw [len0] at h6
 refine LenL.mk fun _=>BrP.mk' (fun h7=>?_) (fun h7=>?_)
 rotate_left
 ·have h7:((s.2.2.2.2.1.length:Int) == 0) = false:=h7
  show false = noStr s
  rw [len0] at h7
  unfold noStr; rw [h,h1,h2,h3,h4,h5,h6,h7]; rfl
 have h7:((s.2.2.2.2.1.length:Int) == 0) = true:=h7
 rw [len0] at h7
 refine LenL.mk fun _=>?_
 show ((s.2.2.2.2.2.1.length:Int) == 0) = noStr s
 unfold noStr; rw [h,h1,h2,h3,h4,h5,h6,h7,len0]; rfl
theorem rsamepres_pc (p q:Pres) (hp:p.2.1.length ≤ NN):PC Tryz.prog 30 sg30 (p,q,()) (fun y _=>y.1 = decide (p = q)) (fun _=>False):=by
 refine PC.of a30 [] (by kernel_rfl) ?_
 have hNN:p.2.1.length ≤ 20001:=hp
 have ne1:p.1 ≠ q.1 → decide (p = q) = false:=fun h=>decide_eq_false fun he=>h (by rw [he])
 have ne2:p.2.1 ≠ q.2.1 → decide (p = q) = false:=fun h=>decide_eq_false fun he=>h (by rw [he])
 refine JoinP.mk (fun x=>x = (p,q,()) ∧ p.1 = q.1 ∧ p.2.1.length = q.2.1.length) ?_ ?_
 rotate_left
 ·refine BrP.mk' (fun h=>?_) (fun h=>?_)
  ·have h:p.1 ≠ q.1:=by have h:(p.1 != q.1) = true:=h
                        exact bne_iff_ne.1 h
   show false = _
   rw [ne1 h]
  ·have h:p.1 = q.1:=by have h:(p.1 != q.1) = false:=h
                        simpa using h
   refine LenL.mk fun _=>LenL.mk fun _=>?_
   refine BrP.mk' (fun h2=>?_) (fun h2=>?_)
   ·have h2:((p.2.1.length:Int) != (q.2.1.length:Int)) = true:=h2
    have h2:=bne_iff_ne.1 h2
    show false = _
    rw [ne2 fun he=>h2 (by rw [he])]
   ·have h2:((p.2.1.length:Int) != (q.2.1.length:Int)) = false:=h2
    have h2:(p.2.1.length:Int) = (q.2.1.length:Int):=by simpa using h2
    repeat refine SameV.mk rfl ?_
    exact show _ ∧ _ from ⟨rfl,h,by omega⟩
 rintro x ⟨rfl,hg,hlen⟩
 repeat refine SameV.mk rfl ?_
 refine LoopP.mk (fun x=>∃ i:Nat,x = ((i:Int),p,q,()) ∧ i ≤ p.2.1.length ∧ p.2.1.take i = q.2.1.take i) (fun x=>p.2.1.length - x.1.toNat) ⟨0,rfl,Nat.zero_le _,rfl⟩ ?_
 rintro x ⟨i,rfl,hi,ha⟩
 refine LenL.mk fun _=>?_
 refine BrP.mk' (fun h=>?_) (fun h=>?_)
 ·have h:(i:Int) < (p.2.1.length:Int):=of_decide_eq_true h
  have h:i < p.2.1.length:=by omega
  have hg1:p.2.1[i]? = some p.2.1[i]:=List.getElem?_eq_getElem h
  have hq:i < q.2.1.length:=by omega
  have hg2:q.2.1[i]? = some q.2.1[i]:=List.getElem?_eq_getElem hq
  refine GetL.is i (x:=p.2.1[i]) rfl hg1 (GetL.is i (x:=q.2.1[i]) rfl hg2 ?_)
  have hw:IntKind.wrap .i64 ((i:Int) + 1) = ((i + 1:Nat):Int):=Fw.wrap64 (by omega) (by omega)
  refine BrP.mk' (fun h5=>?_) (fun h5=>?_)
  ·have h5:(p.2.1[i] != q.2.1[i]) = true:=h5
   have h5:=bne_iff_ne.1 h5
   show false = _
   rw [ne2 fun he=>h5 ?_]
   have h6:q.2.1[i]? = some p.2.1[i]:=by rw [← he]; exact hg1
   rw [hg2] at h6
   simpa using h6.symm
  ·have h5:(p.2.1[i] != q.2.1[i]) = false:=h5
   have h5:p.2.1[i] = q.2.1[i]:=by simpa using h5
   have step:p.2.1.take (i + 1) = q.2.1.take (i + 1):=by rw [List.take_add_one,List.take_add_one,hg1,hg2,ha,h5]
   repeat refine SameV.mk rfl ?_
   refine And.intro (Exists.intro (i + 1) (And.intro ?_ ⟨h,step⟩)) ?_
   ·rw [← hw]; rfl
   ·show p.2.1.length - (IntKind.wrap .i64 ((i:Int) + 1)).toNat < p.2.1.length - (i:Int).toNat
    rw [hw]; omega
 ·have h:¬ (i:Int) < (p.2.1.length:Int):=of_decide_eq_false h
  have h:i = p.2.1.length:=by omega
  have e2:p.2.1 = q.2.1:=by
   rw [h,List.take_length] at ha
   rw [ha,hlen,List.take_length]
  show true = _
  symm
  apply decide_eq_true
  obtain ⟨a,b,_⟩:=p
  obtain ⟨c,d,_⟩:=q
  dsimp only at hg e2
  rw [hg,e2]
end Go.Proofs.YtpifnlfmojfgpaaGreatDoor.Rk
end
section
set_option maxRecDepth 10000
set_option maxHeartbeats 400000
namespace Go.Proofs.YtpifnlfmojfgpaaGreatDoor.Rk
open Fw Pw Ct Pk
noncomputable def a56:FAnn where
 loops:=fun | 2=>[.sl 0 (.pv (.str)),.kv 1,.sl 5 (.pv (.int .i64))] | _=>[]
noncomputable def a58:FAnn where
 loops:=fun | 3=>[.kv 0,.kv 1,.sl 5 (.pv (.str)),.sl 6 (.pv (.int .i64))] | _=>[]
 joins:=fun | 8=>some [.kv 0,.kv 1,.kv 5,.kv 6,.sl 7 (.pv (.str))] | _=>none
 sched:=fun | 8=>runS [(0,false),(1,false),(2,false),(3,false),(4,false),(5,false),(6,false),(7,false),(8,false),(12,false),(13,false),(14,false),(15,false),(16,false),(9,false),(10,false),(11,false),(17,false),(18,false),(19,false),(20,false),(21,false)] .fin | _=>.fin
def sg56:Sig:=⟨[sA,.pv tIs],[.any,.any],[sA]⟩
def sg58:Sig:=⟨[sA,.pv tCs],[.any,.any],[sA]⟩
def tailS (l:List Int):Str:=(itoas l).flatMap (32 :: ·)
theorem tail_snoc (l:List Int) (n:Int):tailS (l ++ [n]) = tailS l ++ (32 :: Go.Lib.itoa n):=by simp [tailS,itoas]
theorem tail_len:∀ (l:List Int),(∀ n ∈ l,In64 n) → (tailS l).length ≤ 22 * l.length
 | [],_=>by simp [tailS,itoas]
 | n :: l,h=>by
  have h1:=tail_len l fun m hm=>h m (by simp [hm])
  have h2:=Go.Lib.itoa_length_le n (h n (by simp)).1 (h n (by simp)).2
  have h3:tailS (n :: l) = (32 :: Go.Lib.itoa n) ++ tailS l:=rfl
  rw [h3,List.length_append,List.length_cons,List.length_cons]
  omega
theorem rnumbers_pc (h:Str) (l:List Int) (hh:h.length ≤ 100) (hl:RowOk l):PC Tryz.prog 56 sg56 (h,l,()) (fun y _=>y.1 = h ++ tailS l ++ [10]) (fun _=>False):=by
 refine PC.of a56 [(103,sg103)] (by kernel_rfl) ?_
 have hNN:l.length ≤ 20001:=hl.1
 have hb:∀ i,(tailS (l.take i)).length ≤ 22 * 20001:=fun i=>by
  have h1:=tail_len (l.take i) fun n hn=>hl.2 n (List.mem_of_mem_take hn)
  rw [List.length_take] at h1
  omega
 repeat refine SameV.mk rfl ?_
 refine LoopP.mk (fun x=>∃ i:Nat,x = (h ++ tailS (l.take i),(i:Int),()) ∧ i ≤ l.length) (fun x=>l.length - x.2.1.toNat) ⟨0,by simp [tailS,itoas]; rfl,Nat.zero_le _⟩ ?_
 rintro x ⟨i,rfl,hi⟩
 have hbi:=hb i
 refine LenL.mk fun _=>?_
 refine BrP.mk' (fun hc=>?_) (fun hc=>?_)
 ·have hc:(i:Int) < (l.length:Int):=of_decide_eq_true hc
  have hc:i < l.length:=by omega
  have hg:l[i]? = some l[i]:=List.getElem?_eq_getElem hc
  have hin:=hl.2 l[i] (List.getElem_mem hc)
  refine GetL.is i (x:=l[i]) rfl hg ?_
  refine CallP.mk _ _ (decimal_pc l[i] hin) ?_ (fun p h=>h.elim)
  rintro ⟨y,_⟩ z hy
  have hy:y = Go.Lib.itoa l[i]:=hy
  have hyl:y.length ≤ 21:=by rw [hy]; exact Go.Lib.itoa_length_le _ hin.1 hin.2
  refine CatL.mk' (by show 1 + y.length ≤ _; omega) ?_
  refine CatL.mk' (by show (h ++ tailS (l.take i)).length + ([32] ++ y).length ≤ _; rw [List.length_append,List.length_append]; simp only [List.length_cons,List.length_nil]; omega) ?_
  repeat refine SameV.mk rfl ?_
  have hw:IntKind.wrap .i64 ((i:Int) + 1) = ((i + 1:Nat):Int):=Fw.wrap64 (by omega) (by omega)
  have hs:h ++ tailS (l.take (i + 1)) = (h ++ tailS (l.take i)) ++ ([32] ++ y):=by
   rw [List.take_add_one,hg]
   show h ++ tailS (l.take i ++ [l[i]]) = _
   rw [tail_snoc,hy]; simp
  refine And.intro (Exists.intro (i + 1) (And.intro ?_ hc)) ?_
  ·rw [← hw,hs]; rfl
  ·show l.length - (IntKind.wrap .i64 ((i:Int) + 1)).toNat < l.length - (i:Int).toNat
   rw [hw]; omega
 ·have hc:¬ (i:Int) < (l.length:Int):=of_decide_eq_false hc
  have hc:i = l.length:=by omega
  refine CatL.mk' (by show (h ++ tailS (l.take i)).length + 1 ≤ _; rw [List.length_append]; omega) ?_
  show h ++ tailS (l.take i) ++ [10] = _
  rw [hc,List.take_length]
theorem cell_line (h:Str) (c:Cell):lineS (cellL h c) ++ [10] = h ++ (if c.2.2.1 then [32,45,32] else [32,43,32]) ++ Go.Lib.itoa c.2.1 ++ [32] ++ wordS c.1 ++ [10]:=by
 unfold cellL lineS
 cases c.2.2.1 <;> simp
theorem wordS_len {w:Str} {n:Nat} (h:w.length ≤ n):(wordS w).length ≤ n + 1:=by
 unfold wordS
 split
 ·simp
 ·omega
theorem cells_len (h:Str) (hh:h.length ≤ 100):∀ (d:List Cell),(∀ c ∈ d,CellOk c) → (textL (cellsL h d)).length ≤ 20200 * d.length
 | [],_=>by simp [textL,cellsL]
 | c :: d,hd=>by
  have h1:=cells_len h hh d fun x hx=>hd x (by simp [hx])
  have hc:=hd c (by simp)
  have h2:=Go.Lib.itoa_length_le c.2.1 hc.2.1 hc.2.2
  have hcl:c.1.length ≤ 20001:=hc.1
  have h3:=wordS_len hcl
  have h4:textL (cellsL h (c :: d)) = (lineS (cellL h c) ++ [10]) ++ textL (cellsL h d):=rfl
  rw [h4,cell_line,List.length_append]
  simp only [List.length_append,List.length_cons,List.length_nil]
  have h5:(if c.2.2.1 then ([32,45,32]:Str) else [32,43,32]).length = 3:=by split <;> rfl
  omega
theorem cells_snoc (h:Str) (d:List Cell) (c:Cell):textL (cellsL h (d ++ [c])) = textL (cellsL h d) ++ (lineS (cellL h c) ++ [10]):=by simp [textL,cellsL]
theorem rcellsT_pc (h:Str) (d:List Cell) (hh:h.length ≤ 100) (hl:Lim NN tCs d):PC Tryz.prog 58 sg58 (h,d,()) (fun y _=>y.1 = textL (cellsL h d)) (fun _=>False):=by
 refine PC.of a58 [(103,sg103),(104,sg104)] (by kernel_rfl) ?_
 have hNN:d.length ≤ 20001:=hl.1
 have hok:∀ c ∈ d,CellOk c:=fun c hc=>⟨(hl.2 c hc).1,(hl.2 c hc).2.1⟩
 have hb:∀ i,(textL (cellsL h (d.take i))).length ≤ 20200 * 20001:=fun i=>by
  have h1:=cells_len h hh (d.take i) fun c hc=>hok c (List.mem_of_mem_take hc)
  rw [List.length_take] at h1
  omega
 repeat refine SameV.mk rfl ?_
 refine LoopP.mk (fun x=>∃ i:Nat,x = (textL (cellsL h (d.take i)),(i:Int),()) ∧ i ≤ d.length) (fun x=>d.length - x.2.1.toNat) ⟨0,rfl,Nat.zero_le _⟩ ?_
 rintro x ⟨i,rfl,hi⟩
 have hbi:=hb i
 refine LenL.mk fun _=>?_
 refine BrP.mk' (fun hc=>?_) (fun hc=>?_)
 ·have hc:(i:Int) < (d.length:Int):=of_decide_eq_true hc
  have hc:i < d.length:=by omega
  have hg:d[i]? = some d[i]:=List.getElem?_eq_getElem hc
  have hcell:=hok d[i] (List.getElem_mem hc)
  have hcl:d[i].1.length ≤ 20001:=hcell.1
  have hin:=hcell.2
  refine JoinP.mk (fun x=>x = ((if d[i].2.2.1 then [32,45,32] else [32,43,32]),())) ?_ ?_
  rotate_left
  ·refine GetL.is i (x:=d[i]) rfl hg ?_
   refine BrP.mk' (fun hb=>?_) (fun hb=>?_)
   ·have hb:d[i].2.2.1 = true:=hb
    repeat refine SameV.mk rfl ?_
    show _ = _
    rw [hb]; rfl
   ·have hb:d[i].2.2.1 = false:=hb
    repeat refine SameV.mk rfl ?_
    show _ = _
    rw [hb]; rfl
  rintro x rfl
  have hE:∃ sg:Str,sg = (if d[i].2.2.1 then [32,45,32] else [32,43,32]) ∧ sg.length = 3:=⟨_,rfl,by split <;> rfl⟩
  obtain ⟨sg,hsg,hsl⟩:=hE
  rw [← hsg]
  refine CatL.mk' (by show h.length + sg.length ≤ _; omega) ?_
  refine GetL.is i (x:=d[i]) rfl hg (GetL.is i (x:=d[i]) rfl hg ?_)
  refine CallP.mk _ _ (decimal_pc d[i].2.1 hin) ?_ (fun p h=>h.elim)
  rintro ⟨y,_⟩ z hy
  have hy:y = Go.Lib.itoa d[i].2.1:=hy
  have hyl:y.length ≤ 21:=by rw [hy]; exact Go.Lib.itoa_length_le _ hin.1 hin.2
  refine CatL.mk' (by show (h ++ sg).length + y.length ≤ _; rw [List.length_append]; omega) ?_
  refine CatL.mk' (by show (h ++ sg ++ y).length + 1 ≤ _; rw [List.length_append,List.length_append]; omega) ?_
  refine CallP.mk _ _ (rspelled_pc d[i].1) ?_ (fun p h=>h.elim)
  rintro ⟨v,_⟩ z hv
  have hv:v = wordS d[i].1:=hv
  have hvl:v.length ≤ 20002:=by rw [hv]; exact wordS_len hcl
  refine CatL.mk' (by show (h ++ sg ++ y ++ [32]).length + v.length ≤ _; simp only [List.length_append,List.length_cons,List.length_nil]; omega) ?_
  refine CatL.mk' (by show (h ++ sg ++ y ++ [32] ++ v).length + 1 ≤ _; simp only [List.length_append,List.length_cons,List.length_nil]; omega) ?_
  refine CatL.mk' (by show (textL (cellsL h (d.take i))).length + (h ++ sg ++ y ++ [32] ++ v ++ [10]).length ≤ _; simp only [List.length_append,List.length_cons,List.length_nil]; omega) ?_
  repeat refine SameV.mk rfl ?_
  have hw:IntKind.wrap .i64 ((i:Int) + 1) = ((i + 1:Nat):Int):=Fw.wrap64 (by omega) (by omega)
  have hs:textL (cellsL h (d.take (i + 1))) = textL (cellsL h (d.take i)) ++ (h ++ sg ++ y ++ [32] ++ v ++ [10]):=by
   rw [List.take_add_one,hg]
   show textL (cellsL h (d.take i ++ [d[i]])) = _
   rw [cells_snoc,cell_line,hsg,hy,hv]
  refine And.intro (Exists.intro (i + 1) (And.intro ?_ hc)) ?_
  ·rw [← hw,hs]; rfl
  ·show d.length - (IntKind.wrap .i64 ((i:Int) + 1)).toNat < d.length - (i:Int).toNat
   rw [hw]; omega
 ·have hc:¬ (i:Int) < (d.length:Int):=of_decide_eq_false hc
  have hc:i = d.length:=by omega
  show textL (cellsL h (d.take i)) = _
  rw [hc,List.take_length]
end Go.Proofs.YtpifnlfmojfgpaaGreatDoor.Rk
end
section
set_option maxRecDepth 10000
set_option maxHeartbeats 400000
namespace Go.Proofs.YtpifnlfmojfgpaaGreatDoor.Pk
open Fw Pw Ct Rk
noncomputable def a47:FAnn where
 loops:=fun | 2=>[.sl 0 (.pv (.str)),.kv 7,.kv 8,.sl 9 (.pv (.int .i64))] | _=>[]
noncomputable def a97:FAnn where
 sched:=fun | 4=>runS [(0,false),(1,false),(2,false),(6,false),(7,false),(3,false),(4,false),(5,false),(8,false),(9,false),(10,false)] .fin | _=>.fin
noncomputable def a99:FAnn:={}
def sg96:Sig:=⟨[iA],[.any],[sA]⟩
def sg47:Sig:=⟨[sA,.pv tIs],[.any,.any],[sA]⟩
def sg97:Sig:=⟨[.pv cellT],[.any],[sA]⟩
def sg99:Sig:=⟨[sA],[.any],[sA]⟩
def ItoaPC:Prop:=∀ n:Int,In64 n → PC Tryz.prog 96 sg96 (n,()) (fun y _=>y.1 = Go.Lib.itoa n) (fun _=>False)
theorem spelt_pc (w:Str):PC Tryz.prog 99 sg99 (w,()) (fun y _=>y.1 = wordS w) (fun _=>False):=by
 refine PC.of a99 [] (by kernel_rfl) ?_
 refine BrP.mk' (fun h=>?_) (fun h=>?_)
 ·have h:w = []:=by simpa using h
  show [49] = wordS w
  rw [h]; rfl
 ·have h:w ≠ []:=by simpa using h
  show w = wordS w
  unfold wordS; rw [if_neg h]
theorem numbers_pc (hit:ItoaPC) (h:Str) (l:List Int) (hh:h.length ≤ 100) (hl:RowOk l):PC Tryz.prog 47 sg47 (h,l,()) (fun y _=>y.1 = h ++ tailS l) (fun _=>False):=by
 refine PC.of a47 [(96,sg96)] (by kernel_rfl) ?_
 have hNN:l.length ≤ 20001:=hl.1
 have hb:∀ i,(tailS (l.take i)).length ≤ 22 * 20001:=fun i=>by
  have h1:=tail_len (l.take i) fun n hn=>hl.2 n (List.mem_of_mem_take hn)
  rw [List.length_take] at h1
  omega
 refine LenL.mk fun _=>SameV.mk rfl (SameV.mk rfl ?_)
 refine LoopP.mk (fun x=>∃ i:Nat,x = (h ++ tailS (l.take i),(i:Int),()) ∧ i ≤ l.length) (fun x=>l.length - x.2.1.toNat) ⟨0,by rw [show h ++ tailS (l.take 0) = h by simp [tailS,itoas]]; rfl,Nat.zero_le _⟩ ?_
 rintro x ⟨i,rfl,hi⟩
 have hbi:=hb i
 refine BrP.mk' (fun hc=>?_) (fun hc=>?_)
 ·have hc:(i:Int) < (l.length:Int):=of_decide_eq_true hc
  have hc:i < l.length:=by omega
  have hg:l[i]? = some l[i]:=List.getElem?_eq_getElem hc
  have hin:=hl.2 l[i] (List.getElem_mem hc)
  refine GetL.is i (x:=l[i]) rfl hg ?_
  refine CallP.mk _ _ (hit l[i] hin) ?_ (fun p h=>h.elim)
  rintro ⟨y,_⟩ z hy
  have hy:y = Go.Lib.itoa l[i]:=hy
  have hyl:y.length ≤ 21:=by rw [hy]; exact Go.Lib.itoa_length_le _ hin.1 hin.2
  refine CatL.mk' (by show 1 + y.length ≤ _; omega) ?_
  refine CatL.mk' (by show (h ++ tailS (l.take i)).length + ([32] ++ y).length ≤ _; rw [List.length_append,List.length_append]; simp only [List.length_cons,List.length_nil]; omega) ?_
  refine SameV.mk rfl (SameV.mk rfl ?_)
  have hw:IntKind.wrap .i64 ((i:Int) + 1) = ((i + 1:Nat):Int):=Fw.wrap64 (by omega) (by omega)
  have hs:h ++ tailS (l.take (i + 1)) = (h ++ tailS (l.take i)) ++ ([32] ++ y):=by
   rw [List.take_add_one,hg]
   show h ++ tailS (l.take i ++ [l[i]]) = _
   rw [tail_snoc,hy]; simp
  refine And.intro (Exists.intro (i + 1) (And.intro ?_ hc)) ?_
  ·rw [← hw,hs]; rfl
  ·show l.length - (IntKind.wrap .i64 ((i:Int) + 1)).toNat < l.length - (i:Int).toNat
   rw [hw]; omega
 ·have hc:¬ (i:Int) < (l.length:Int):=of_decide_eq_false hc
  have hc:i = l.length:=by omega
  show h ++ tailS (l.take i) = _
  rw [hc,List.take_length]
def signS (b:Bool):Str:=if b then [45,32] else [43,32]
theorem cell_pc (hit:ItoaPC) (c:Cell) (hc:CellOk c):PC Tryz.prog 97 sg97 (c,()) (fun y _=>y.1 = signS c.2.2.1 ++ Go.Lib.itoa c.2.1 ++ [32] ++ wordS c.1) (fun _=>False):=by
 refine PC.of a97 [(96,sg96),(99,sg99)] (by kernel_rfl) ?_
 have hl:=Go.Lib.itoa_length_le c.2.1 hc.2.1 hc.2.2
 have hcl:c.1.length ≤ 20001:=hc.1
 have hwl:=wordS_len hcl
 refine BrP.mk' (fun hb=>?_) (fun hb=>?_)
 ·have hb:c.2.2.1 = true:=hb
  refine CallP.mk _ _ (hit c.2.1 hc.2) ?_ (fun p h=>h.elim)
  rintro ⟨y,_⟩ z hy
  have hy:y = Go.Lib.itoa c.2.1:=hy
  rw [← hy] at hl
  refine CatL.mk' (by show 2 + y.length ≤ _; omega) ?_
  refine CatL.mk' (by show ([45,32] ++ y).length + 1 ≤ _; rw [List.length_append]; simp only [List.length_cons,List.length_nil]; omega) ?_
  refine CallP.mk _ _ (spelt_pc c.1) ?_ (fun p h=>h.elim)
  rintro ⟨v,_⟩ z hv
  have hv:v = wordS c.1:=hv
  rw [← hv] at hwl
  refine CatL.mk' (by show ([45,32] ++ y ++ [32]).length + v.length ≤ _; simp only [List.length_append,List.length_cons,List.length_nil]; omega) ?_
  show [45,32] ++ y ++ [32] ++ v = _
  rw [hy,hv,hb]; rfl
 ·have hb:c.2.2.1 = false:=hb
  refine CallP.mk _ _ (hit c.2.1 hc.2) ?_ (fun p h=>h.elim)
  rintro ⟨y,_⟩ z hy
  have hy:y = Go.Lib.itoa c.2.1:=hy
  rw [← hy] at hl
  refine CatL.mk' (by show 2 + y.length ≤ _; omega) ?_
  refine CatL.mk' (by show ([43,32] ++ y).length + 1 ≤ _; rw [List.length_append]; simp only [List.length_cons,List.length_nil]; omega) ?_
  refine CallP.mk _ _ (spelt_pc c.1) ?_ (fun p h=>h.elim)
  rintro ⟨v,_⟩ z hv
  have hv:v = wordS c.1:=hv
  rw [← hv] at hwl
  refine CatL.mk' (by show ([43,32] ++ y ++ [32]).length + v.length ≤ _; simp only [List.length_append,List.length_cons,List.length_nil]; omega) ?_
  show [43,32] ++ y ++ [32] ++ v = _
  rw [hy,hv,hb]; rfl
end Go.Proofs.YtpifnlfmojfgpaaGreatDoor.Pk
end
section
set_option maxRecDepth 10000
set_option maxHeartbeats 400000
namespace Go.Proofs.YtpifnlfmojfgpaaGreatDoor.Pk
open Fw Pw Ct Rk
theorem rl_len {A:Pos} {W:World} {e:PT} {xs:List e.den} {s:Sl} (h:Rp A W (.lst e) xs [s.v]):s.n = xs.length:=by
 obtain ⟨a,n,c,h1,h2,_⟩:=h
 simp only [Sl.v,List.cons.injEq,Value.slice.injEq,and_true] at h1
 omega
theorem rl_get {A:Pos} {W:World} {e:PT} {xs:List e.den} {s:Sl} (h:Rp A W (.lst e) xs [s.v]) {i:Nat} {x:e.den} (hx:xs[i]? = some x) :
  ∃ g o us,s.a = some ⟨g,o,none⟩ ∧ Rp A W e x us ∧ ∀ (j:Nat) v,us[j]? = some v → W.cell? (((Addr.mk g o none).add (i * e.sz)).add j) = some v:=by
 obtain ⟨a,n,c,h1,h2,h3,h4,h5⟩:=h
 simp only [Sl.v,List.cons.injEq,Value.slice.injEq,and_true] at h1
 obtain ⟨g,o,us,h6,h7,h8⟩:=h5 i x hx
 exact ⟨g,o,us,by rw [h1.1,h6],h7,fun j v hv=>by rw [mk_add,mk_add]; exact (h8 j v hv).2⟩
theorem app_data (a b:ByteArray):(a ++ b).data.toList = a.data.toList ++ b.data.toList:=by simp
theorem rp_all {A:Pos} {W:World} (hlow:∀ g o,A g o → g < W.heap.size) {t:PT} {x:t.den} {vs:List Value} (h:Rp A W t x vs):Rp (allP W) W t x vs:=h.ext fun g o hg=>⟨hlow g o hg,rfl⟩
structure Base (A:Pos) (W:World):Prop where
 low:∀ g o,A g o → g < W.heap.size
 g:GOk W
theorem rp_str {A:Pos} {W:World} {b:ByteArray} {s:Str} (h:b.data.toList = s) (hl:s.length ≤ big):Rp A W .str s [.string b]:=⟨b,rfl,h,hl⟩
theorem rp_new {W:World} {b:Nat} {arr:Array Value} {t:TypeId} {l:List Int} (h:W.heap[b]? = some (.cells arr t (0,0))) (ha:arr.toList = l.map (Value.int .i64)) (hl:l.length ≤ 20001):Rp (allP W) W tIs l [.slice (some ⟨b,0,none⟩) l.length l.length]:=by
 refine ⟨_,_,_,rfl,rfl,Nat.le_refl _,by unfold maxLen; omega,fun i x hx=>⟨b,0,[.int .i64 x],rfl,rfl,fun j v hv=>?_⟩⟩
 cases j with
 | zero=>
  simp only [List.getElem?_cons_zero,Option.some.injEq] at hv
  subst hv
  refine ⟨lt_of_heap h,?_⟩
  have:arr[i]? = some (.int .i64 x):=by rw [← Array.getElem?_toList,ha,List.getElem?_map,hx]; rfl
  simp [World.cell?,h,PT.sz,this]
 | succ j=>simp at hv
theorem numbers_call {W:World} (hg:GOk W) {hb:ByteArray} {h:Str} (hh:hb.data.toList = h) (hl:h.length ≤ 100) {l:List Int} {v:Value} (hr:Rp (allP W) W tIs l [v]) (hrow:RowOk l) {K:ByteArray → World → Prop} {Kp:List PanicEntry → World → Prop}
  (k:∀ b W',b.data.toList = h ++ tailS l → Chg Nil W W' → K b W'):CallT Tryz.prog 47 #[.string hb,v] (.sc .str) W K Kp:=by
 refine Calls.mono (pc_str (ps:=[.str,tIs]) (out:=[.any,.any]) (numbers_pc itoa_pc h l hl hrow) (fun a b hq=>hq) (vs:=[.string hb,v]) ⟨[.string hb],_,_,rfl,rp_str hh (by show h.length ≤ 4611686018427387904; omega),rfl,[v],_,_,rfl,hr,rfl,rfl⟩ hg) fun e W' he=>?_
 obtain ⟨b,rfl,h1,_,h3,_⟩:=he
 exact ⟨b,rfl,k b W' h1 h3⟩
theorem cell_call {W:World} (hg:GOk W) {cb:ByteArray} {c:Cell} (hcb:cb.data.toList = c.1) (hc:CellOk c) {K:ByteArray → World → Prop} {Kp:List PanicEntry → World → Prop}
  (k:∀ b W',b.data.toList = signS c.2.2.1 ++ Go.Lib.itoa c.2.1 ++ [32] ++ wordS c.1 → b.size ≤ 30000 → Chg Nil W W' → K b W'):CallT Tryz.prog 97 #[.agg #[.string cb,.int .i64 c.2.1,.bool c.2.2.1]] (.sc .str) W K Kp:=by
 have hcl:c.1.length ≤ 20001:=hc.1
 refine Calls.mono (pc_str (ps:=[cellT]) (out:=[.any]) (cell_pc itoa_pc c hc) (fun a b hq=>hq) (vs:=[.agg #[.string cb,.int .i64 c.2.1,.bool c.2.2.1]])
  ⟨[.string cb,.int .i64 c.2.1,.bool c.2.2.1],_,_,rfl,⟨[.string cb],_,rfl,rp_str hcb (by show c.1.length ≤ 4611686018427387904; omega),[.int .i64 c.2.1],_,rfl,rfl,[.bool c.2.2.1],[],rfl,rfl,rfl⟩,rfl,rfl⟩ hg) fun e W' he=>?_
 obtain ⟨b,rfl,h1,_,h3,_⟩:=he
 refine ⟨b,rfl,k b W' h1 ?_ h3⟩
 have hwl:=wordS_len hcl
 have hil:=Go.Lib.itoa_length_le c.2.1 hc.2.1 hc.2.2
 have hsl:(signS c.2.2.1).length = 2:=by unfold signS; split <;> rfl
 rw [size_of h1]
 simp only [List.length_append,List.length_cons,List.length_nil]
 omega
def Seg (xs:List Str) (i:Nat) (L:Lns):Prop:=∀ (j:Nat) s,(L.map lineS)[j]? = some s → xs[i + j]? = some s
theorem Seg.app {xs:List Str} {i:Nat} {A B:Lns} (h:Seg xs i (A ++ B)):Seg xs i A ∧ Seg xs (i + A.length) B:=by
 refine ⟨fun j s hs=>h j s ?_,fun j s hs=>?_⟩
 ·rw [List.map_append,List.getElem?_append_left (by have:=(List.getElem?_eq_some_iff.1 hs).1; exact this)]; exact hs
 ·have:=h (A.length + j) s (by rw [List.map_append,List.getElem?_append_right (by simp)]; simpa using hs)
  rwa [← Nat.add_assoc] at this
theorem Seg.at {xs:List Str} {i:Nat} {L:Lns} (h:Seg xs i L) {j:Nat} {l:List Str} (hl:L[j]? = some l):xs[i + j]? = some (lineS l):=h j _ (by rw [List.getElem?_map,hl]; rfl)
theorem putCells_ok {l base b1 b3:Nat} {C:World → Prop} {xs:List Str} {J:Nat → World → Prop} {Jx:World → Prop} (I:It l base C xs J Jx) (hb:base ≤ b3) (hne:b1 ≠ b3) {A:Pos} {d:List Cell} {sl:Sl} (hC:∀ W,C W → Rp A W tCs d [sl.v] ∧ Base A W)
  {hd:ByteArray} {h:Str} (hh:hd.data.toList = h) (hl:h.length ≤ 100) (hc:∀ c ∈ d,CellOk c) (hdl:d.length ≤ NN) {i:Nat} {W:World} (hps:PS l b1 b3 J Jx i W) (hseg:Seg xs i (cellsL h d)) :
  Calls Tryz.prog 48 #[.func (.func 45) #[] #[ptr b3,ptr b1],.string hd,sl.v] W fun e W'=>e = .returned (.tuple #[]) ∧ PS l b1 b3 J Jx (i + d.length) W' ∧ KeepN b3 W W':=by
 refine cert_putCells.calls ⟨b3,0,none⟩ ⟨b1,0,none⟩ hd sl ?_
 unfold cert_putCells.sh
 have hNN:d.length ≤ 20001:=hdl
 have hsz:hd.size = h.length:=size_of hh
 have hn:sl.n = d.length:=rl_len (hC W (hps.c I)).1
 refine LoopT.mk (fun x W'=>∃ j:Nat,x = (((⟨b3,0,none⟩:Addr),(⟨b1,0,none⟩:Addr),()),hd,sl,((sl.n:Nat):Int),(j:Int),()) ∧ j ≤ d.length ∧ PS l b1 b3 J Jx (i + j) W' ∧ KeepN b3 W W') (fun x _=>d.length - x.2.2.2.2.1.toNat) ⟨0,rfl,Nat.zero_le _,hps,fun _ _ _ _ h=>h⟩ ?_
 rintro x g W1 ⟨j,rfl,hj,hp,hkp⟩
 dsimp only
 refine Br.dec (fun hlt=>?_) (fun hge=>?_)
 ·have hlt:j < d.length:=by omega
  have hg:d[j]? = some d[j]:=List.getElem?_eq_getElem hlt
  have hm:d[j] ∈ d:=List.getElem_mem hlt
  obtain ⟨c,hcd⟩:∃ c,c = d[j]:=⟨_,rfl⟩
  rw [← hcd] at hg hm
  obtain ⟨hr,hB⟩:=hC W1 (hp.c I)
  obtain ⟨g0,o,us,ha,hrc,hcell⟩:=rl_get hr hg
  obtain ⟨u1,r1,rfl,⟨cb,rfl,hcb,_⟩,u2,r2,rfl,h2,u3,r3,rfl,h3,h4⟩:=hrc
  have h2:u2 = [.int .i64 c.2.1]:=h2
  have h3:u3 = [.bool c.2.2.1]:=h3
  have h4:r3 = []:=h4
  subst h2; subst h3; subst h4
  have hcb:cb.data.toList = c.1:=hcb
  have hw:IntKind.wrap .i64 ((j:Int) + 1) = ((j + 1:Nat):Int):=by rw [Fw.wrap64 (by omega) (by omega)]; rfl
  rw [ha]
  refine Idx.mk j rfl (by omega) ?_
  refine LoadT.mk (.agg [.str,.int .i64,.bool]) (x:=(cb,c.2.1,c.2.2.1,())) (fun k v hv=>hcell k v hv) ?_
  refine New.mk fun b7 W2 hb7 hn7 hs7 hc7=>?_
  refine StoreN.whole (vs:=[.string cb,.int .i64 c.2.1,.bool c.2.2.1]) hn7 rfl fun W3 h7 hc8 hs8=>?_
  have hcN:Chg Nil W1 W3:=hc7.trans hc8 (fun _ _ h=>h) fun k hk hkb=>by
   have hkb:k = b7:=hkb
   omega
  have hp3:=hp.nil I hcN
  have hg3:=(hC W3 (hp3.c I)).2.g
  refine ⟨by rw [hsz]; show ((h.length + 1:Nat):Int) ≤ _; omega,?_⟩
  refine LoadT.mk (.agg [.str,.int .i64,.bool]) (x:=(cb,c.2.1,c.2.2.1,())) (fun k v hv=>by rw [cellOf h7]; simpa [Ty.cells] using hv) ?_
  refine cell_call hg3 hcb (hc c hm) fun b W4 hbt hbs hc4=>?_
  have hp4:=hp3.nil I hc4
  have hsz2:(hd ++ ByteArray.mk #[32]).size = h.length + 1:=by rw [size_of (app_data _ _),List.length_append,hh]; rfl
  refine ⟨by rw [hsz2]; omega,?_⟩
  have hline:((hd ++ ByteArray.mk #[32]) ++ b).data.toList = lineS (cellL h c):=by
   rw [app_data,app_data,hh,hbt]
   unfold cellL lineS signS
   cases c.2.2.1 <;> simp
  refine Calls.mono (put_ok I hb hne hp4 _ (by rw [hline]; exact hseg.at (by unfold cellsL; rw [List.getElem?_map,hg]; rfl))) fun e W5 he=>?_
  obtain ⟨rfl,hp5,hk5⟩:=he
  refine ⟨(),rfl,⟨j + 1,by rw [hw],hlt,hp5,hkp.trans ((KeepN.nil hcN).trans ((KeepN.nil hc4).trans hk5))⟩,?_⟩
  show d.length - (IntKind.wrap .i64 ((j:Int) + 1)).toNat < d.length - (j:Int).toNat
  rw [hw]; omega
 ·have:j = d.length:=by omega
  subst this
  exact ⟨rfl,hp,hkp⟩
end Go.Proofs.YtpifnlfmojfgpaaGreatDoor.Pk
end
section
set_option maxRecDepth 10000
set_option maxHeartbeats 400000
namespace Go.Proofs.YtpifnlfmojfgpaaGreatDoor.Pk
open Fw Pw Ct Rk
structure Ctx where
 l:Nat
 base:Nat
 b1:Nat
 b3:Nat
 C:World → Prop
 xs:List Str
 J:Nat → World → Prop
 Jx:World → Prop
 I:It l base C xs J Jx
 hb:base ≤ b3
 hne:b1 ≠ b3
def Ctx.P (S:Ctx) (i:Nat) (W:World):Prop:=PS S.l S.b1 S.b3 S.J S.Jx i W
def Ctx.K (S:Ctx) (W W':World):Prop:=KeepN S.b3 W W'
theorem Ctx.P.nil {S:Ctx} {i:Nat} {W W':World} (h:S.P i W) (hc:Chg Nil W W'):S.P i W':=PS.nil S.I h hc
theorem Ctx.P.c {S:Ctx} {i:Nat} {W:World} (h:S.P i W):S.C W:=PS.c S.I h
theorem Ctx.K.trans {S:Ctx} {W W1 W2:World} (h:S.K W W1) (k:S.K W1 W2):S.K W W2:=KeepN.trans h k
theorem Ctx.K.nil {S:Ctx} {W W1:World} (h:Chg Nil W W1):S.K W W1:=KeepN.nil h
structure Ctx.Box (S:Ctx) (W:World) (b:Nat) (cs:Array Value) (t:TypeId):Prop where
 h:W.heap[b]? = some (.cells cs t (0,0))
 kp:KpB (.cells cs t (0,0))
 ne:b ≠ S.b3
theorem Ctx.Box.keep {S:Ctx} {W W':World} {b:Nat} {cs:Array Value} {t:TypeId} (h:S.Box W b cs t) (k:S.K W W'):S.Box W' b cs t:=⟨k b _ h.ne h.kp h.h,h.kp,h.ne⟩
theorem Ctx.Box.new {S:Ctx} {i:Nat} {W0 W:World} {b:Nat} {cs:Array Value} {t:TypeId} (hp:S.P i W0) (hb:b = W0.heap.size) (h:W.heap[b]? = some (.cells cs t (0,0))) (ht:(Nat.beq t 63 || Nat.beq t 5 || Nat.beq t 9 || Nat.beq t 45) = false):S.Box W b cs t:=by
 refine ⟨h,kp_of ht,fun he=>?_⟩
 obtain ⟨on,h1,_⟩:=hp
 have:=lt_of_heap h1
 omega
theorem Ctx.Box.at {S:Ctx} {W:World} {b:Nat} {cs:Array Value} {t:TypeId} (h:S.Box W b cs t) {k:Nat} {v:Value} (hv:cs[k]? = some v):W.cell? ((Addr.mk b 0 none).add k) = some v:=by rw [cellOf h.h]; exact hv
theorem Ctx.put (S:Ctx) {i:Nat} {W:World} (hp:S.P i W) {s:ByteArray} (hs:S.xs[i]? = some s.data.toList) {K:World → Prop} {Kp:List PanicEntry → World → Prop} (k:∀ W',S.P (i + 1) W' → S.K W W' → K W') :
  CallN Tryz.prog 45 #[.string s,ptr S.b3,ptr S.b1] [] W (fun _ W'=>K W') Kp:=
 Calls.mono (put_ok S.I S.hb S.hne hp s hs) fun e W' he=>by
  obtain ⟨rfl,h1,h2⟩:=he
  exact ⟨(),rfl,k W' h1 h2⟩
theorem Ctx.num (S:Ctx) {i:Nat} {W:World} (hp:S.P i W) (hg:GOk W) {hb:ByteArray} {h:Str} (hh:hb.data.toList = h) (hl:h.length ≤ 100) {l:List Int} {v:Value} (hr:Rp (allP W) W tIs l [v]) (hrow:RowOk l) (hx:S.xs[i]? = some (lineS (h :: itoas l)))
  {K:World → Prop} {Kp Kq:List PanicEntry → World → Prop} (k:∀ W',S.P (i + 1) W' → S.K W W' → K W') :
  CallT Tryz.prog 47 #[.string hb,v] (.sc .str) W (fun r W1=>CallN Tryz.prog 45 #[.string r,ptr S.b3,ptr S.b1] [] W1 (fun _ W2=>K W2) Kq) Kp:=
 numbers_call hg hh hl hr hrow fun b W1 hb hc=>S.put (hp.nil hc) (by rw [hb]; exact hx) fun W2 h2 k2=>k W2 h2 ((Ctx.K.nil hc).trans k2)
theorem Ctx.cells (S:Ctx) {A:Pos} {d:List Cell} {sl:Sl} (hC:∀ W,S.C W → Rp A W tCs d [sl.v] ∧ Base A W) {hd:ByteArray} {h:Str} (hh:hd.data.toList = h) (hl:h.length ≤ 100) (hc:∀ c ∈ d,CellOk c) (hdl:d.length ≤ NN) {i:Nat} {W:World} (hp:S.P i W) (hseg:Seg S.xs i (cellsL h d))
  {K:World → Prop} {Kp:List PanicEntry → World → Prop} (k:∀ W',S.P (i + d.length) W' → S.K W W' → K W') :
  CallN Tryz.prog 48 #[.func (.func 45) #[] #[ptr S.b3,ptr S.b1],.string hd,sl.v] [] W (fun _ W'=>K W') Kp:=
 Calls.mono (putCells_ok S.I S.hb S.hne hC hh hl hc hdl hp hseg) fun e W' he=>by
  obtain ⟨rfl,h1,h2⟩:=he
  exact ⟨(),rfl,k W' h1 h2⟩
theorem wrap1 {j n:Nat} (h:j < n) (hn:n ≤ 100000):IntKind.wrap .i64 ((j:Int) + 1) = ((j + 1:Nat):Int):=by rw [Fw.wrap64 (by omega) (by omega)]; rfl
theorem Seg.flat {α:Type} {xs:List Str} {i:Nat} {D:List α} {f:α → Lns} (h:Seg xs i (D.flatMap f)) {j:Nat} {x:α} (hx:D[j]? = some x):Seg xs (i + ((D.take j).flatMap f).length) (f x):=by
 have hd:D = D.take j ++ (x :: D.drop (j + 1)):=by
  have hlt:=(List.getElem?_eq_some_iff.1 hx).1
  rw [← (List.getElem?_eq_some_iff.1 hx).2,← List.drop_eq_getElem_cons hlt,List.take_append_drop]
 rw [hd,List.flatMap_append,List.flatMap_cons] at h
 exact (h.app.2).app.1
theorem flat_succ {α:Type} {D:List α} {f:α → Lns} {j:Nat} {x:α} (hx:D[j]? = some x):((D.take (j + 1)).flatMap f).length = ((D.take j).flatMap f).length + (f x).length:=by
 rw [List.take_add_one,hx,List.flatMap_append,List.length_append]
 simp
def autV (a:Aut) (s1 s2:Sl):Array Value:=#[.int .i64 a.1,.int .i64 a.2.1,s1.v,s2.v]
structure AutR (A:Pos) (W:World) (a:Aut) (s1 s2:Sl):Prop where
 acc:Rp A W (.lst .bool) a.2.2.1 [s1.v]
 nx:Rp A W tIss a.2.2.2.1 [s2.v]
 b:Base A W
theorem putAut_ok (S:Ctx) {A:Pos} {a:Aut} {s1 s2:Sl} (hC:∀ W,S.C W → AutR A W a s1 s2) (hl:Lim NN autT a) (hw:autW a = true) {hd:ByteArray} {h:Str} (hh:hd.data.toList = h) (hhl:h.length ≤ 100) {i:Nat} {W:World} (hp:S.P i W) (hseg:Seg S.xs i (autL h a)) :
  Calls Tryz.prog 98 #[.func (.func 45) #[] #[ptr S.b3,ptr S.b1],.string hd,.agg (autV a s1 s2)] W fun e W'=>e = .returned (.tuple #[]) ∧ S.P (i + (autL h a).length) W' ∧ S.K W W':=by
 obtain ⟨l1,l2,l3,l4,_⟩:=hl
 have hlen:a.2.2.1.length = a.2.2.2.1.length:=by simpa [autW] using hw
 have nNN:a.2.2.2.1.length ≤ 20001:=l4.1
 have hz:(a.2.2.1.zip a.2.2.2.1).length = a.2.2.2.1.length:=by rw [List.length_zip]; omega
 have hal:(autL h a).length = a.2.2.2.1.length + 1:=by unfold autL; rw [List.length_cons,List.length_map,hz]
 have hrow2:RowOk [a.1,a.2.1]:=⟨by show 2 ≤ 20001; decide,fun n hn=>by
  simp only [List.mem_cons,List.not_mem_nil,or_false] at hn
  rcases hn with rfl | rfl <;> assumption⟩
 have seg1:S.xs[i]? = some (lineS (h :: itoas [a.1,a.2.1])):=hseg.at (j:=0) rfl
 refine cert_putAutomaton.calls ⟨S.b3,0,none⟩ ⟨S.b1,0,none⟩ hd a.1 a.2.1 s1 s2 ?_
 unfold cert_putAutomaton.sh
 refine New.mk fun bx W1 hb1 hn1 hs1' hc1=>?_
 have hp1:=hp.nil hc1
 have hx1:S.Box W1 bx (autV a s1 s2) 36:=Ctx.Box.new hp hb1 hn1 rfl
 refine LoadT.sc (s:=.int .i64) (x:=a.1) (hx1.at (k:=0) rfl) (LoadT.sc (s:=.int .i64) (x:=a.2.1) (hx1.at (k:=1) rfl) ?_)
 refine New.mk fun b5 W2 hb5 hn5 hs5 hc5=>?_
 have hp2:=hp1.nil hc5
 have hx2:=hx1.keep (Ctx.K.nil hc5)
 refine S.num hp2 (hC W2 hp2.c).b.g hh hhl (rp_new (l:=[a.1,a.2.1]) hn5 rfl (by show 2 ≤ 20001; decide)) hrow2 seg1 fun W3 hp3 hk3=>?_
 have hx3:=hx2.keep hk3
 have hK3:S.K W W3:=(Ctx.K.nil hc1).trans ((Ctx.K.nil hc5).trans hk3)
 refine LoadT.sc (s:=.sl) (x:=s2) (hx3.at (k:=3) rfl) ?_
 have hn2:s2.n = a.2.2.2.1.length:=rl_len (hC W3 hp3.c).nx
 refine LoopT.mk (fun x W'=>∃ j:Nat,x = (((⟨S.b3,0,none⟩:Addr),(⟨S.b1,0,none⟩:Addr),()),(Addr.mk bx 0 none),s2,((s2.n:Nat):Int),(j:Int),()) ∧ j ≤ a.2.2.2.1.length ∧ S.P (i + 1 + j) W' ∧ S.K W W' ∧ S.Box W' bx (autV a s1 s2) 36) (fun x _=>a.2.2.2.1.length - x.2.2.2.2.1.toNat) ⟨0,rfl,Nat.zero_le _,hp3,hK3,hx3⟩ ?_
 rintro x g W4 ⟨j,rfl,hj,hp4,hK4,hx4⟩
 dsimp only
 refine Br.dec (fun hlt=>?_) (fun hge=>?_)
 ·have hlt:j < a.2.2.2.1.length:=by omega
  have hD:=hC W4 hp4.c
  obtain ⟨row,hrd⟩:∃ r,r = a.2.2.2.1[j]:=⟨_,rfl⟩
  have hg:a.2.2.2.1[j]? = some row:=by rw [hrd]; exact List.getElem?_eq_getElem hlt
  have hm:row ∈ a.2.2.2.1:=by rw [hrd]; exact List.getElem_mem hlt
  obtain ⟨ac,had⟩:∃ r,r = a.2.2.1[j]'(by omega):=⟨_,rfl⟩
  have hga:a.2.2.1[j]? = some ac:=by rw [had]; exact List.getElem?_eq_getElem _
  have hzip:(a.2.2.1.zip a.2.2.2.1)[j]? = some (ac,row):=by rw [List.getElem?_zip_eq_some]; exact ⟨hga,hg⟩
  have hseg2:S.xs[i + 1 + j]? = some (lineS (stateL (ac,row))):=by
   have:=hseg.at (j:=j + 1) (l:=stateL (ac,row)) (by unfold autL; rw [List.getElem?_cons_succ,List.getElem?_map,hzip]; rfl)
   rwa [show i + 1 + j = i + (j + 1) by omega]
  obtain ⟨g0,o,us,ha,hrr,hcell⟩:=rl_get hD.nx hg
  obtain ⟨ra,rn,rc,hus,hrr'⟩:=hrr
  have hrsl:Rp A W4 tIs row [(⟨ra,rn,rc⟩:Sl).v]:=⟨ra,rn,rc,rfl,hrr'⟩
  obtain ⟨g1,o1,us1,ha1,hr1,hcell1⟩:=rl_get hD.acc hga
  have hr1:us1 = [.bool ac]:=hr1
  subst hus; subst hr1
  have hn1':s1.n = a.2.2.1.length:=rl_len hD.acc
  have hw':=wrap1 hlt (by omega)
  rw [ha]
  refine Idx.mk j rfl (by omega) ?_
  refine LoadT.sc (s:=.sl) (x:=⟨ra,rn,rc⟩) (hcell 0 _ rfl) ?_
  refine Join.by' (fun y W'=>y = (((⟨S.b3,0,none⟩:Addr),(⟨S.b1,0,none⟩:Addr),()),(Addr.mk bx 0 none),(⟨ra,rn,rc⟩:Sl),(⟨(if ac then [115,116,97,116,101,32,97] else [115,116,97,116,101,32,114]).toArray⟩:ByteArray),s2,((s2.n:Nat):Int),(j:Int),()) ∧ W' = W4) (fun y W' g hy=>?_) (fun J hJ=>?_)
  ·obtain ⟨rfl,rfl⟩:=hy
   dsimp only
   refine S.num hp4 hD.b.g (h:=if ac then [115,116,97,116,101,32,97] else [115,116,97,116,101,32,114]) rfl (by cases ac <;> decide) (rp_all hD.b.low hrsl) ⟨(l4.2 row hm).1,(l4.2 row hm).2⟩ (by rw [hseg2]; cases ac <;> simp [stateL,lineS]) fun W5 hp5 hk5=>?_
   refine ⟨⟨j + 1,by rw [hw'],hlt,by rw [← Nat.add_assoc]; exact hp5,hK4.trans hk5,hx4.keep hk5⟩,?_⟩
   show a.2.2.2.1.length - (IntKind.wrap .i64 ((j:Int) + 1)).toNat < a.2.2.2.1.length - (j:Int).toNat
   rw [hw']; omega
  ·refine LoadT.sc (s:=.sl) (x:=s1) (hx4.at (k:=2) rfl) ?_
   rw [ha1]
   refine Idx.mk j rfl (by omega) ?_
   refine LoadT.sc (s:=.bool) (x:=ac) (hcell1 0 _ rfl) ?_
   refine Br.mk (fun ht=>?_) (fun ht=>?_)
   ·refine hJ _ _ ⟨?_,rfl⟩
    rw [ht]; rfl
   ·refine hJ _ _ ⟨?_,rfl⟩
    rw [ht]; rfl
 ·have:j = a.2.2.2.1.length:=by omega
  subst this
  exact ⟨rfl,by rw [hal,show i + (a.2.2.2.1.length + 1) = i + 1 + a.2.2.2.1.length by omega]; exact hp4,hK4⟩
end Go.Proofs.YtpifnlfmojfgpaaGreatDoor.Pk
end
section
set_option maxRecDepth 10000
set_option maxHeartbeats 1000000
namespace Go.Proofs.YtpifnlfmojfgpaaGreatDoor.Pk
open Fw Pw Ct Rk
structure Mem (S:Ctx) (A:Pos) (W0:World):Prop where
 same:∀ W,S.C W → ∀ g o,A g o → W.cell? ⟨g,o,none⟩ = W0.cell? ⟨g,o,none⟩
 base:∀ W,S.C W → Base A W
theorem Mem.rp {S:Ctx} {A:Pos} {W0:World} (M:Mem S A W0) {t:PT} {x:t.den} {vs:List Value} (h:Rp A W0 t x vs) {W:World} (hW:S.C W):Rp A W t x vs:=h.ext fun g o hg=>⟨hg,M.same W hW g o hg⟩
theorem Mem.get {S:Ctx} {A:Pos} {W0:World} (M:Mem S A W0) {e:PT} {xs:List e.den} {s:Sl} (h:Rp A W0 (.lst e) xs [s.v]) {i:Nat} {x:e.den} (hx:xs[i]? = some x) :
  ∃ g o us,s.a = some ⟨g,o,none⟩ ∧ Rp A W0 e x us ∧ ∀ W,S.C W → ∀ (j:Nat) v,us[j]? = some v → W.cell? (((Addr.mk g o none).add (i * e.sz)).add j) = some v:=by
 obtain ⟨a,n,c,h1,h2,h3,h4,h5⟩:=h
 simp only [Sl.v,List.cons.injEq,Value.slice.injEq,and_true] at h1
 obtain ⟨g,o,us,h6,h7,h8⟩:=h5 i x hx
 exact ⟨g,o,us,by rw [h1.1,h6],h7,fun W hW j v hv=>by rw [mk_add,mk_add,M.same W hW _ _ (h8 j v hv).1]; exact (h8 j v hv).2⟩
theorem rp_list {A:Pos} {W:World} {e:PT} {xs:List e.den} {vs:List Value} (h:Rp A W (.lst e) xs vs):∃ s:Sl,vs = [s.v] ∧ Rp A W (.lst e) xs [s.v]:=by
 obtain ⟨a,n,c,rfl,h⟩:=h
 exact ⟨⟨a,n,c⟩,rfl,a,n,c,rfl,h⟩
theorem aut_open {A:Pos} {W:World} {a:Aut} {us:List Value} (h:Rp A W autT a us):∃ s1 s2:Sl,us = [.int .i64 a.1,.int .i64 a.2.1,s1.v,s2.v] ∧ Rp A W (.lst .bool) a.2.2.1 [s1.v] ∧ Rp A W tIss a.2.2.2.1 [s2.v]:=by
 obtain ⟨u1,r1,rfl,h1,u2,r2,rfl,h2,u3,r3,rfl,h3,u4,r4,rfl,h4,h5⟩:=h
 have h1:u1 = [.int .i64 a.1]:=h1
 have h2:u2 = [.int .i64 a.2.1]:=h2
 have h5:r4 = []:=h5
 obtain ⟨s1,rfl,h3⟩:=rp_list h3
 obtain ⟨s2,rfl,h4⟩:=rp_list h4
 subst h1; subst h2; subst h5
 exact ⟨s1,s2,rfl,h3,h4⟩
theorem step_open {A:Pos} {W:World} {t:Ct.Step} {us:List Value} (h:Rp A W Ct.stepT t us):∃ s1:Sl,us = [.int .i64 t.1,.int .i64 t.2.1,.int .i64 t.2.2.1,.int .i64 t.2.2.2.1,s1.v] ∧ Rp A W tCs t.2.2.2.2.1 [s1.v]:=by
 obtain ⟨u1,r1,rfl,h1,u2,r2,rfl,h2,u3,r3,rfl,h3,u4,r4,rfl,h4,u5,r5,rfl,h5,h6⟩:=h
 have h1:u1 = [.int .i64 t.1]:=h1
 have h2:u2 = [.int .i64 t.2.1]:=h2
 have h3:u3 = [.int .i64 t.2.2.1]:=h3
 have h4:u4 = [.int .i64 t.2.2.2.1]:=h4
 have h6:r5 = []:=h6
 obtain ⟨s1,rfl,h5⟩:=rp_list h5
 subst h1; subst h2; subst h3; subst h4; subst h6
 exact ⟨s1,rfl,h5⟩
theorem end_open {A:Pos} {W:World} {t:Ct.End} {us:List Value} (h:Rp A W Ct.endT t us):∃ s1:Sl,us = [.int .i64 t.1,.int .i64 t.2.1,s1.v] ∧ Rp A W tCs t.2.2.1 [s1.v]:=by
 obtain ⟨u1,r1,rfl,h1,u2,r2,rfl,h2,u5,r5,rfl,h5,h6⟩:=h
 have h1:u1 = [.int .i64 t.1]:=h1
 have h2:u2 = [.int .i64 t.2.1]:=h2
 have h6:r5 = []:=h6
 obtain ⟨s1,rfl,h5⟩:=rp_list h5
 subst h1; subst h2; subst h6
 exact ⟨s1,rfl,h5⟩
theorem spelt_call {W:World} (hg:GOk W) {b:ByteArray} {s:Str} (hb:b.data.toList = s) (hl:s.length ≤ 20001) {K:ByteArray → World → Prop} {Kp:List PanicEntry → World → Prop} (k:∀ r W',r.data.toList = wordS s → Chg Nil W W' → K r W') :
  CallT Tryz.prog 99 #[.string b] (.sc .str) W K Kp:=by
 refine Calls.mono (pc_str (ps:=[.str]) (out:=[.any]) (spelt_pc s) (fun a b hq=>hq) (vs:=[.string b]) ⟨[.string b],_,_,rfl,rp_str hb (by show s.length ≤ 4611686018427387904; omega),rfl,rfl⟩ hg) fun e W' he=>?_
 obtain ⟨r,rfl,h1,_,h3,_⟩:=he
 exact ⟨r,rfl,k r W' h1 h3⟩
theorem aut_put (S:Ctx) {A:Pos} {W0:World} (M:Mem S A W0) {a:Aut} {s1 s2:Sl} (h1:Rp A W0 (.lst .bool) a.2.2.1 [s1.v]) (h2:Rp A W0 tIss a.2.2.2.1 [s2.v]) (hl:Lim NN autT a) (hw:autW a = true) {hd:ByteArray} {h:Str} (hh:hd.data.toList = h) (hhl:h.length ≤ 100) {i:Nat} {W:World} (hp:S.P i W) (hseg:Seg S.xs i (autL h a))
  {K:World → Prop} {Kp:List PanicEntry → World → Prop} (k:∀ W',S.P (i + (autL h a).length) W' → S.K W W' → K W') :
  CallN Tryz.prog 98 #[.func (.func 45) #[] #[ptr S.b3,ptr S.b1],.string hd,.agg (autV a s1 s2)] [] W (fun _ W'=>K W') Kp:=
 Calls.mono (putAut_ok S (A:=A) (fun W hW=>⟨M.rp h1 hW,M.rp h2 hW,M.base W hW⟩) hl hw hh hhl hp hseg) fun e W' he=>by
  obtain ⟨rfl,h1,h2⟩:=he
  exact ⟨(),rfl,k W' h1 h2⟩
structure StrV where
 r:Sl
 acc:Sl
 nx:Sl
 mu:Sl
 df:Sl
 st:Sl
 en:Sl
def StrV.cs (v:StrV) (s:Strc):Array Value:=#[.int .i64 s.1.1,v.r.v,.int .i64 s.2.1.1,.int .i64 s.2.1.2.1,v.acc.v,v.nx.v,v.mu.v,v.df.v,v.st.v,v.en.v]
structure StrV.R (v:StrV) (A:Pos) (W:World) (s:Strc):Prop where
 r:Rp A W tW s.1.2.1 [v.r.v]
 acc:Rp A W (.lst .bool) s.2.1.2.2.1 [v.acc.v]
 nx:Rp A W tIss s.2.1.2.2.2.1 [v.nx.v]
 mu:Rp A W (.lst autT) s.2.2.1 [v.mu.v]
 df:Rp A W tW s.2.2.2.1 [v.df.v]
 st:Rp A W (.lst Ct.stepT) s.2.2.2.2.1 [v.st.v]
 en:Rp A W (.lst Ct.endT) s.2.2.2.2.2.1 [v.en.v]
theorem str_open {A:Pos} {W:World} {s:Strc} {us:List Value} (h:Rp A W strT s us):∃ v:StrV,us = (v.cs s).toList ∧ v.R A W s:=by
 obtain ⟨u1,r1,rfl,⟨v1,q1,rfl,g1,v2,q2,rfl,g2,g3⟩,u2,r2,rfl,h2,u3,r3,rfl,h3,u4,r4,rfl,h4,u5,r5,rfl,h5,u6,r6,rfl,h6,h7⟩:=h
 have g1:v1 = [.int .i64 s.1.1]:=g1
 have g3:q2 = []:=g3
 have h7:r6 = []:=h7
 obtain ⟨sr,rfl,g2⟩:=rp_list g2
 obtain ⟨sa,sn,rfl,k1,k2⟩:=aut_open h2
 obtain ⟨s3,rfl,h3⟩:=rp_list h3
 obtain ⟨s4,rfl,h4⟩:=rp_list h4
 obtain ⟨s5,rfl,h5⟩:=rp_list h5
 obtain ⟨s6,rfl,h6⟩:=rp_list h6
 subst g1; subst g3; subst h7
 exact ⟨⟨sr,sa,sn,s3,s4,s5,s6⟩,rfl,g2,k1,k2,h3,h4,h5,h6⟩
theorem cellsOk {d:List Cell} (h:Lim NN tCs d):∀ c ∈ d,CellOk c:=fun c hc=>⟨(h.2 c hc).1,(h.2 c hc).2.1⟩
theorem row4 {a b c d:Int} (h1:In64 a) (h2:In64 b) (h3:In64 c) (h4:In64 d):RowOk [a,b,c,d]:=⟨by show 4 ≤ 20001; decide,fun n hn=>by
 simp only [List.mem_cons,List.not_mem_nil,or_false] at hn
 rcases hn with rfl | rfl | rfl | rfl <;> assumption⟩
theorem row2 {a b:Int} (h1:In64 a) (h2:In64 b):RowOk [a,b]:=⟨by show 2 ≤ 20001; decide,fun n hn=>by
 simp only [List.mem_cons,List.not_mem_nil,or_false] at hn
 rcases hn with rfl | rfl <;> assumption⟩
theorem putStr_ok (S:Ctx) {A:Pos} {W0:World} (M:Mem S A W0) {s:Strc} {v:StrV} (hv:v.R A W0 s) (hl:Lim NN strT s) (hw:strW s = true) {i:Nat} {W:World} (hp:S.P i W) (hseg:Seg S.xs i (strL s)) :
  Calls Tryz.prog 50 #[.func (.func 45) #[] #[ptr S.b3,ptr S.b1],.agg (v.cs s)] W fun e W'=>e = .returned (.tuple #[]) ∧ S.P (i + (strL s).length) W' ∧ S.K W W':=by
 obtain ⟨l1,l2,l3,l4,l5,l6,_⟩:=hl
 simp only [strW,Bool.and_eq_true,List.all_eq_true] at hw
 obtain ⟨⟨⟨⟨w1,w2⟩,w3⟩,w4⟩,w5⟩:=hw
 have n3:s.2.2.1.length ≤ 20001:=l3.1
 have n4:s.2.2.2.1.length ≤ 20001:=l4.1
 have n5:s.2.2.2.2.1.length ≤ 20001:=l5.1
 have n6:s.2.2.2.2.2.1.length ≤ 20001:=l6.1
 obtain ⟨seg1,seg2⟩:=hseg.app
 obtain ⟨seg2,seg3⟩:=seg2.app
 obtain ⟨seg3,seg4⟩:=seg3.app
 obtain ⟨seg4,seg5⟩:=seg4.app
 rw [List.length_map] at seg4 seg5
 refine cert_putStructure.calls ⟨S.b3,0,none⟩ ⟨S.b1,0,none⟩ s.1.1 v.r s.2.1.1 s.2.1.2.1 v.acc v.nx v.mu v.df v.st v.en ?_
 unfold cert_putStructure.sh
 refine New.mk fun bx W1 hb1 hn1 hs1' hc1=>?_
 have hp1:=hp.nil hc1
 have hx1:S.Box W1 bx (v.cs s) 41:=Ctx.Box.new hp hb1 hn1 rfl
 refine LoadT.mk (.agg [.int .i64,.int .i64,.sl,.sl]) (x:=(s.2.1.1,s.2.1.2.1,v.acc,v.nx,())) (fun k u hu=>?_) ?_
 ·have:(v.cs s)[2 + k]? = some u:=by
   rcases k with _ | _ | _ | _ | k
   ·simpa [Ty.cells,vals,StrV.cs] using hu
   ·simpa [Ty.cells,vals,StrV.cs] using hu
   ·simpa [Ty.cells,vals,StrV.cs] using hu
   ·simpa [Ty.cells,vals,StrV.cs] using hu
   ·simp [Ty.cells,vals] at hu
  have h:=hx1.at this
  rw [mk_add,← Nat.add_assoc] at h
  rw [mk_add,mk_add]
  exact h
 refine aut_put S M hv.acc hv.nx l2 w1 (h:=sAccept) rfl (by decide) hp1 seg1 fun W2 hp2 hk2=>?_
 have hK2:S.K W W2:=(Ctx.K.nil hc1).trans hk2
 have hx2:=hx1.keep hk2
 refine LoadT.sc (s:=.sl) (x:=v.mu) (hx2.at (k:=6) rfl) ?_
 have hn:v.mu.n = s.2.2.1.length:=rl_len hv.mu
 refine LoopT.mk (fun x W'=>∃ j:Nat,x = (((⟨S.b3,0,none⟩:Addr),(⟨S.b1,0,none⟩:Addr),()),(Addr.mk bx 0 none),v.mu,((v.mu.n:Nat):Int),(j:Int),()) ∧ j ≤ s.2.2.1.length ∧ S.P (i + (autL sAccept s.2.1).length + ((s.2.2.1.take j).flatMap (autL sMult)).length) W' ∧ S.K W W' ∧ S.Box W' bx (v.cs s) 41) (fun x _=>s.2.2.1.length - x.2.2.2.2.1.toNat) ⟨0,rfl,Nat.zero_le _,hp2,hK2,hx2⟩ ?_
 rintro x g W3 ⟨j,rfl,hj,hp3,hK3,hx3⟩
 dsimp only
 refine Br.dec (fun hlt=>?_) (fun hge=>?_)
 ·have hlt:j < s.2.2.1.length:=by omega
  obtain ⟨q,hq⟩:∃ q,q = s.2.2.1[j]:=⟨_,rfl⟩
  have hg:s.2.2.1[j]? = some q:=by rw [hq]; exact List.getElem?_eq_getElem hlt
  have hm:q ∈ s.2.2.1:=by rw [hq]; exact List.getElem_mem hlt
  obtain ⟨g0,o,us,ha,hr,hcell⟩:=M.get hv.mu hg
  obtain ⟨s1,s2,rfl,r1,r2⟩:=aut_open hr
  have hw':=wrap1 hlt (by omega)
  rw [ha]
  refine Idx.mk j rfl (by omega) ?_
  refine LoadT.mk (.agg [.int .i64,.int .i64,.sl,.sl]) (x:=(q.1,q.2.1,s1,s2,())) (fun k u hu=>hcell W3 hp3.c k u hu) ?_
  refine New.mk fun b7 W4 hb7 hn7 hs7 hc7=>?_
  refine StoreN.whole (vs:=[.int .i64 q.1,.int .i64 q.2.1,s1.v,s2.v]) hn7 rfl fun W5 h7 hc8 hs8=>?_
  have hcN:Chg Nil W3 W5:=hc7.trans hc8 (fun _ _ h=>h) fun k hk hkb=>by
   have hkb:k = b7:=hkb
   omega
  refine LoadT.mk (.agg [.int .i64,.int .i64,.sl,.sl]) (x:=(q.1,q.2.1,s1,s2,())) (fun k u hu=>by rw [cellOf h7]; simpa [Ty.cells] using hu) ?_
  refine aut_put S M r1 r2 (l3.2 q hm) (w2 q hm) (h:=sMult) rfl (by decide) (hp3.nil hcN) (seg2.flat hg) fun W6 hp6 hk6=>?_
  have hk':=(Ctx.K.nil hcN).trans hk6
  refine ⟨⟨j + 1,by rw [hw'],hlt,by rw [flat_succ hg,← Nat.add_assoc]; exact hp6,hK3.trans hk',hx3.keep hk'⟩,?_⟩
  show s.2.2.1.length - (IntKind.wrap .i64 ((j:Int) + 1)).toNat < s.2.2.1.length - (j:Int).toNat
  rw [hw']; omega
 have hjl:j = s.2.2.1.length:=by omega
 subst hjl
 rw [List.take_length] at hp3
 clear hge hj
 refine LoadT.sc (s:=.sl) (x:=v.df) (hx3.at (k:=7) rfl) ?_
 have hn:v.df.n = s.2.2.2.1.length:=rl_len hv.df
 obtain ⟨i2,hi2⟩:∃ i2,i2 = i + (autL sAccept s.2.1).length + (s.2.2.1.flatMap (autL sMult)).length:=⟨_,rfl⟩
 rw [← hi2] at hp3 seg3 seg4 seg5
 refine LoopT.mk (fun x W'=>∃ j:Nat,x = (((⟨S.b3,0,none⟩:Addr),(⟨S.b1,0,none⟩:Addr),()),(Addr.mk bx 0 none),v.df,((v.df.n:Nat):Int),(j:Int),()) ∧ j ≤ s.2.2.2.1.length ∧ S.P (i2 + j) W' ∧ S.K W W' ∧ S.Box W' bx (v.cs s) 41) (fun x _=>s.2.2.2.1.length - x.2.2.2.2.1.toNat) ⟨0,rfl,Nat.zero_le _,hp3,hK3,hx3⟩ ?_
 rintro x g W4 ⟨j,rfl,hj,hp4,hK4,hx4⟩
 dsimp only
 refine Br.dec (fun hlt=>?_) (fun hge=>?_)
 ·have hlt:j < s.2.2.2.1.length:=by omega
  obtain ⟨q,hq⟩:∃ q,q = s.2.2.2.1[j]:=⟨_,rfl⟩
  have hg:s.2.2.2.1[j]? = some q:=by rw [hq]; exact List.getElem?_eq_getElem hlt
  have hm:q ∈ s.2.2.2.1:=by rw [hq]; exact List.getElem_mem hlt
  obtain ⟨g0,o,us,ha,⟨wb,rfl,hwb,_⟩,hcell⟩:=M.get hv.df hg
  have hwb:wb.data.toList = q:=hwb
  have hql:q.length ≤ 20001:=l4.2 q hm
  have hw':=wrap1 hlt (by omega)
  rw [ha]
  refine Idx.mk j rfl (by omega) ?_
  refine LoadT.sc (s:=.str) (x:=wb) (hcell W4 hp4.c 0 _ rfl) ?_
  refine spelt_call (M.base W4 hp4.c).g hwb hql fun r W5 hr hc5=>?_
  have hrl:=wordS_len hql
  refine ⟨by rw [size_of hr]; show ((5 + (wordS q).length:Nat):Int) ≤ _; omega,?_⟩
  refine S.put (hp4.nil hc5) (by rw [seg3.at (l:=[sDiff,wordS q]) (by rw [List.getElem?_map,hg]; rfl),app_data,hr]; simp [lineS]) fun W6 hp6 hk6=>?_
  have hk':=(Ctx.K.nil hc5).trans hk6
  refine ⟨⟨j + 1,by rw [hw'],hlt,by rw [← Nat.add_assoc]; exact hp6,hK4.trans hk',hx4.keep hk'⟩,?_⟩
  show s.2.2.2.1.length - (IntKind.wrap .i64 ((j:Int) + 1)).toNat < s.2.2.2.1.length - (j:Int).toNat
  rw [hw']; omega
 have hjl:j = s.2.2.2.1.length:=by omega
 subst hjl
 clear hge hj
 refine LoadT.sc (s:=.sl) (x:=v.st) (hx4.at (k:=8) rfl) ?_
 have hn:v.st.n = s.2.2.2.2.1.length:=rl_len hv.st
 obtain ⟨i3,hi3⟩:∃ i3,i3 = i2 + s.2.2.2.1.length:=⟨_,rfl⟩
 rw [← hi3] at hp4 seg4 seg5
 refine LoopT.mk (fun x W'=>∃ j:Nat,x = (((⟨S.b3,0,none⟩:Addr),(⟨S.b1,0,none⟩:Addr),()),(Addr.mk bx 0 none),v.st,((v.st.n:Nat):Int),(j:Int),()) ∧ j ≤ s.2.2.2.2.1.length ∧ S.P (i3 + ((s.2.2.2.2.1.take j).flatMap stepL).length) W' ∧ S.K W W' ∧ S.Box W' bx (v.cs s) 41) (fun x _=>s.2.2.2.2.1.length - x.2.2.2.2.1.toNat) ⟨0,rfl,Nat.zero_le _,hp4,hK4,hx4⟩ ?_
 rintro x g W5 ⟨j,rfl,hj,hp5,hK5,hx5⟩
 dsimp only
 refine Br.dec (fun hlt=>?_) (fun hge=>?_)
 ·have hlt:j < s.2.2.2.2.1.length:=by omega
  obtain ⟨q,hq⟩:∃ q,q = s.2.2.2.2.1[j]:=⟨_,rfl⟩
  have hg:s.2.2.2.2.1[j]? = some q:=by rw [hq]; exact List.getElem?_eq_getElem hlt
  have hm:q ∈ s.2.2.2.2.1:=by rw [hq]; exact List.getElem_mem hlt
  obtain ⟨g0,o,us,ha,hr,hcell⟩:=M.get hv.st hg
  obtain ⟨s1,rfl,r1⟩:=step_open hr
  obtain ⟨a1,a2,a3,a4,a5,_⟩:=l5.2 q hm
  have hw':=wrap1 hlt (by omega)
  have sg:=seg4.flat hg
  rw [ha]
  refine Idx.mk j rfl (by omega) ?_
  refine LoadT.mk (.agg [.int .i64,.int .i64,.int .i64,.int .i64,.sl]) (x:=(q.1,q.2.1,q.2.2.1,q.2.2.2.1,s1,())) (fun k u hu=>hcell W5 hp5.c k u hu) ?_
  refine New.mk fun b7 W6 hb7 hn7 hs7 hc7=>?_
  refine StoreN.whole (vs:=[.int .i64 q.1,.int .i64 q.2.1,.int .i64 q.2.2.1,.int .i64 q.2.2.2.1,s1.v]) hn7 rfl fun W7 h7 hc8 hs8=>?_
  have hcN:Chg Nil W5 W7:=hc7.trans hc8 (fun _ _ h=>h) fun k hk hkb=>by
   have hkb:k = b7:=hkb
   omega
  have hx7:S.Box W7 b7 #[.int .i64 q.1,.int .i64 q.2.1,.int .i64 q.2.2.1,.int .i64 q.2.2.2.1,s1.v] 56:=Ctx.Box.new hp5 hb7 h7 rfl
  refine LoadT.sc (s:=.int .i64) (x:=q.1) (hx7.at (k:=0) rfl) (LoadT.sc (s:=.int .i64) (x:=q.2.1) (hx7.at (k:=1) rfl) (LoadT.sc (s:=.int .i64) (x:=q.2.2.1) (hx7.at (k:=2) rfl) (LoadT.sc (s:=.int .i64) (x:=q.2.2.2.1) (hx7.at (k:=3) rfl) ?_)))
  refine New.mk fun b8 W8 hb8 hn8 hs8' hc9=>?_
  have hp8:=(hp5.nil hcN).nil hc9
  refine S.num hp8 (M.base W8 hp8.c).g (h:=sStep) rfl (by decide) (rp_new (l:=[q.1,q.2.1,q.2.2.1,q.2.2.2.1]) hn8 rfl (by show 4 ≤ 20001; decide)) (row4 a1 a2 a3 a4) (sg.at (j:=0) rfl) fun W9 hp9 hk9=>?_
  have hx9:=(hx7.keep (Ctx.K.nil hc9)).keep hk9
  refine LoadT.sc (s:=.sl) (x:=s1) (hx9.at (k:=4) rfl) ?_
  have sg2:Seg S.xs (i3 + ((s.2.2.2.2.1.take j).flatMap stepL).length + 1) (cellsL sProof q.2.2.2.2.1):=(Seg.app (A:=[sStep :: itoas [q.1,q.2.1,q.2.2.1,q.2.2.2.1]]) sg).2
  refine S.cells (A:=A) (d:=q.2.2.2.2.1) (sl:=s1) (fun W hW=>⟨M.rp r1 hW,M.base W hW⟩) (h:=sProof) rfl (by decide) (cellsOk a5) a5.1 hp9 sg2 fun W10 hp10 hk10=>?_
  have hk':=((Ctx.K.nil hcN).trans (Ctx.K.nil hc9)).trans (hk9.trans hk10)
  refine ⟨⟨j + 1,by rw [hw'],hlt,?_,hK5.trans hk',hx5.keep hk'⟩,?_⟩
  ·rw [flat_succ hg,show (stepL q).length = 1 + q.2.2.2.2.1.length by unfold stepL cellsL; rw [List.length_cons,List.length_map]; omega,← Nat.add_assoc,← Nat.add_assoc]; exact hp10
  ·show s.2.2.2.2.1.length - (IntKind.wrap .i64 ((j:Int) + 1)).toNat < s.2.2.2.2.1.length - (j:Int).toNat
   rw [hw']; omega
 have hjl:j = s.2.2.2.2.1.length:=by omega
 subst hjl
 rw [List.take_length] at hp5
 clear hge hj
 refine LoadT.sc (s:=.sl) (x:=v.en) (hx5.at (k:=9) rfl) ?_
 have hn:v.en.n = s.2.2.2.2.2.1.length:=rl_len hv.en
 obtain ⟨i4,hi4⟩:∃ i4,i4 = i3 + (s.2.2.2.2.1.flatMap stepL).length:=⟨_,rfl⟩
 rw [← hi4] at hp5 seg5
 refine LoopT.mk (fun x W'=>∃ j:Nat,x = (((⟨S.b3,0,none⟩:Addr),(⟨S.b1,0,none⟩:Addr),()),v.en,((v.en.n:Nat):Int),(j:Int),()) ∧ j ≤ s.2.2.2.2.2.1.length ∧ S.P (i4 + ((s.2.2.2.2.2.1.take j).flatMap endL).length) W' ∧ S.K W W') (fun x _=>s.2.2.2.2.2.1.length - x.2.2.2.1.toNat) ⟨0,rfl,Nat.zero_le _,hp5,hK5⟩ ?_
 rintro x g W6 ⟨j,rfl,hj,hp6,hK6⟩
 dsimp only
 refine Br.dec (fun hlt=>?_) (fun hge=>?_)
 ·have hlt:j < s.2.2.2.2.2.1.length:=by omega
  obtain ⟨q,hq⟩:∃ q,q = s.2.2.2.2.2.1[j]:=⟨_,rfl⟩
  have hg:s.2.2.2.2.2.1[j]? = some q:=by rw [hq]; exact List.getElem?_eq_getElem hlt
  have hm:q ∈ s.2.2.2.2.2.1:=by rw [hq]; exact List.getElem_mem hlt
  obtain ⟨g0,o,us,ha,hr,hcell⟩:=M.get hv.en hg
  obtain ⟨s1,rfl,r1⟩:=end_open hr
  obtain ⟨a1,a2,a5,_⟩:=l6.2 q hm
  have hw':=wrap1 hlt (by omega)
  have sg:=seg5.flat hg
  rw [ha]
  refine Idx.mk j rfl (by omega) ?_
  refine LoadT.mk (.agg [.int .i64,.int .i64,.sl]) (x:=(q.1,q.2.1,s1,())) (fun k u hu=>hcell W6 hp6.c k u hu) ?_
  refine New.mk fun b7 W7 hb7 hn7 hs7 hc7=>?_
  refine StoreN.whole (vs:=[.int .i64 q.1,.int .i64 q.2.1,s1.v]) hn7 rfl fun W8 h7 hc8 hs8=>?_
  have hcN:Chg Nil W6 W8:=hc7.trans hc8 (fun _ _ h=>h) fun k hk hkb=>by
   have hkb:k = b7:=hkb
   omega
  have hx7:S.Box W8 b7 #[.int .i64 q.1,.int .i64 q.2.1,s1.v] 58:=Ctx.Box.new hp6 hb7 h7 rfl
  refine LoadT.sc (s:=.int .i64) (x:=q.1) (hx7.at (k:=0) rfl) (LoadT.sc (s:=.int .i64) (x:=q.2.1) (hx7.at (k:=1) rfl) ?_)
  refine New.mk fun b8 W9 hb8 hn8 hs8' hc9=>?_
  have hp9:=(hp6.nil hcN).nil hc9
  refine S.num hp9 (M.base W9 hp9.c).g (h:=sEnd) rfl (by decide) (rp_new (l:=[q.1,q.2.1]) hn8 rfl (by show 2 ≤ 20001; decide)) (row2 a1 a2) (sg.at (j:=0) rfl) fun W10 hp10 hk10=>?_
  have hx10:=(hx7.keep (Ctx.K.nil hc9)).keep hk10
  refine LoadT.sc (s:=.sl) (x:=s1) (hx10.at (k:=2) rfl) ?_
  have sg2:Seg S.xs (i4 + ((s.2.2.2.2.2.1.take j).flatMap endL).length + 1) (cellsL sProof q.2.2.1):=(Seg.app (A:=[sEnd :: itoas [q.1,q.2.1]]) sg).2
  refine S.cells (A:=A) (d:=q.2.2.1) (sl:=s1) (fun W hW=>⟨M.rp r1 hW,M.base W hW⟩) (h:=sProof) rfl (by decide) (cellsOk a5) a5.1 hp10 sg2 fun W11 hp11 hk11=>?_
  have hk':=((Ctx.K.nil hcN).trans (Ctx.K.nil hc9)).trans (hk10.trans hk11)
  refine ⟨⟨j + 1,by rw [hw'],hlt,?_,hK6.trans hk'⟩,?_⟩
  ·rw [flat_succ hg,show (endL q).length = 1 + q.2.2.1.length by unfold endL cellsL; rw [List.length_cons,List.length_map]; omega,← Nat.add_assoc,← Nat.add_assoc]; exact hp11
  ·show s.2.2.2.2.2.1.length - (IntKind.wrap .i64 ((j:Int) + 1)).toNat < s.2.2.2.2.2.1.length - (j:Int).toNat
   rw [hw']; omega
 have hjl:j = s.2.2.2.2.2.1.length:=by omega
 subst hjl
 rw [List.take_length] at hp6
 refine ⟨rfl,?_,hK6⟩
 have hlen:i + (strL s).length = i4 + (s.2.2.2.2.2.1.flatMap endL).length:=by
  rw [hi4,hi3,hi2]; unfold strL
  simp only [List.length_append,List.length_map]; omega
 rw [hlen]; exact hp6
end Go.Proofs.YtpifnlfmojfgpaaGreatDoor.Pk
end
section
set_option maxRecDepth 10000
set_option maxHeartbeats 1000000
namespace Go.Proofs.YtpifnlfmojfgpaaGreatDoor.Pk
open Fw Pw Ct Rk
structure ClmV where
 r:Sl
 u:ByteArray
 v:ByteArray
 d:Sl
 cj:ByteArray
 ring:Sl
 si:Sl
 sp:Sl
 im:Sl
 mr:Sl
 mi:Sl
 s:StrV
def c2 (c:Clm):Pres:=c.2.1
def cDisk (c:Clm):List Cell:=c.2.2.2.2.2.1
def cAnn (c:Clm):annT.den:=c.2.2.2.2.2.2.1
def cSep (c:Clm):sepT.den:=c.2.2.2.2.2.2.2.1
def cIm (c:Clm):List Int:=c.2.2.2.2.2.2.2.2.1
def cMap (c:Clm):Map:=c.2.2.2.2.2.2.2.2.2.1
def cStr (c:Clm):Strc:=c.2.2.2.2.2.2.2.2.2.2.1
def ClmV.cs (x:ClmV) (c:Clm):Array Value:=#[.int .i64 c.1,.int .i64 c.2.1.1,x.r.v,.string x.u,.string x.v,.int .i64 c.2.2.2.2.1,x.d.v,.string x.cj,x.ring.v,.int .i64 (cSep c).1,.int .i64 (cSep c).2.1,x.si.v,x.sp.v,x.im.v,
 .int .i64 (cMap c).1.1,x.mr.v,.int .i64 (cMap c).2.1,x.mi.v,.int .i64 (cStr c).1.1,x.s.r.v,.int .i64 (cStr c).2.1.1,.int .i64 (cStr c).2.1.2.1,x.s.acc.v,x.s.nx.v,x.s.mu.v,x.s.df.v,x.s.st.v,x.s.en.v]
structure ClmV.R (x:ClmV) (A:Pos) (W:World) (c:Clm):Prop where
 r:Rp A W tW c.2.1.2.1 [x.r.v]
 u:x.u.data.toList = c.2.2.1
 v:x.v.data.toList = c.2.2.2.1
 d:Rp A W tCs (cDisk c) [x.d.v]
 cj:x.cj.data.toList = (cAnn c).1
 ring:Rp A W tCs (cAnn c).2.1 [x.ring.v]
 si:Rp A W tIs (cSep c).2.2.1 [x.si.v]
 sp:Rp A W tIss (cSep c).2.2.2.1 [x.sp.v]
 im:Rp A W tIs (cIm c) [x.im.v]
 mr:Rp A W tW (cMap c).1.2.1 [x.mr.v]
 mi:Rp A W tIss (cMap c).2.2.1 [x.mi.v]
 s:x.s.R A W (cStr c)
theorem clm_open {A:Pos} {W:World} {c:Clm} {us:List Value} (h:Rp A W claimT c us):∃ x:ClmV,us = (x.cs c).toList ∧ x.R A W c:=by
 obtain ⟨k,⟨g,r,pu⟩,u,v,n,d,⟨cj,ring,au⟩,⟨sk,sm,si,sp,su⟩,im,⟨⟨mg,mr,mpu⟩,md,mi,mu⟩,st,cu⟩:=c
 obtain ⟨u1,r1,rfl,h1,u2,r2,rfl,⟨p1,q1,rfl,g1,p2,q2,rfl,g2,g3⟩,u3,r3,rfl,⟨bu,rfl,hbu,_⟩,u4,r4,rfl,⟨bv,rfl,hbv,_⟩,u5,r5,rfl,h5,u6,r6,rfl,h6,u7,r7,rfl,⟨a1,b1,rfl,⟨bc,rfl,hbc,_⟩,a2,b2,rfl,e2,e3⟩,
  u8,r8,rfl,⟨s1,t1,rfl,f1,s2,t2,rfl,f2,s3,t3,rfl,f3,s4,t4,rfl,f4,f5⟩,u9,r9,rfl,h9,u10,r10,rfl,⟨m1,n1,rfl,⟨m2,n2,rfl,i1,m3,n3,rfl,i2,i3⟩,m4,n4,rfl,i4,m5,n5,rfl,i5,i6⟩,u11,r11,rfl,h11,h12⟩:=h
 have h1:u1 = [.int .i64 k]:=h1
 have g1:p1 = [.int .i64 g]:=g1
 have g3:q2 = []:=g3
 have h5:u5 = [.int .i64 n]:=h5
 have e3:b2 = []:=e3
 have f1:s1 = [.int .i64 sk]:=f1
 have f2:s2 = [.int .i64 sm]:=f2
 have f5:t4 = []:=f5
 have i1:m2 = [.int .i64 mg]:=i1
 have i3:n3 = []:=i3
 have i4:m4 = [.int .i64 md]:=i4
 have i6:n5 = []:=i6
 have h12:r11 = []:=h12
 obtain ⟨x1,rfl,g2⟩:=rp_list g2
 obtain ⟨x2,rfl,h6⟩:=rp_list h6
 obtain ⟨x3,rfl,e2⟩:=rp_list e2
 obtain ⟨x4,rfl,f3⟩:=rp_list f3
 obtain ⟨x5,rfl,f4⟩:=rp_list f4
 obtain ⟨x6,rfl,h9⟩:=rp_list h9
 obtain ⟨x7,rfl,i2⟩:=rp_list i2
 obtain ⟨x8,rfl,i5⟩:=rp_list i5
 obtain ⟨x9,hx9,h13⟩:=str_open h11
 subst hx9
 subst h1; subst g1; subst g3; subst h5; subst e3; subst f1; subst f2; subst f5; subst i1; subst i3; subst i4; subst i6; subst h12
 exact ⟨⟨x1,bu,bv,x2,bc,x3,x4,x5,x6,x7,x8,x9⟩,rfl,g2,hbu,hbv,h6,hbc,e2,f3,f4,h9,i2,i5,h13⟩
theorem bytes_nil {b:ByteArray} {s:Str} (h:b.data.toList = s):(b.toList == (ByteArray.mk #[]).toList) = decide (s = []):=by
 rw [ByteArray.toList_eq,ByteArray.toList_eq,h]
 cases s <;> rfl
theorem lineTwo (h w:Str):lineS [h,w] = h ++ 32 :: w:=by simp [lineS]
def pairsL (c:Clm):Lns:=(if (cAnn c).1 = [] then [] else [[sConj,(cAnn c).1]]) ++ (cellsL sRing (cAnn c).2.1 ++ (sepL (cSep c) ++ (if cIm c = [] then [] else [sValue :: itoas (cIm c)])))
theorem putPairs_ok (S:Ctx) {A:Pos} {W0:World} (M:Mem S A W0) {c:Clm} {x:ClmV} (hv:x.R A W0 c) (hl:Lim NN claimT c) {i:Nat} {W:World} (hp:S.P i W) (hseg:Seg S.xs i (pairsL c)) :
  Calls Tryz.prog 49 #[.func (.func 45) #[] #[ptr S.b3,ptr S.b1],.agg (x.cs c)] W fun e W'=>e = .returned (.tuple #[]) ∧ S.P (i + (pairsL c).length) W' ∧ S.K W W':=by
 have lring:Lim NN tCs (cAnn c).2.1:=hl.2.2.2.2.2.2.1.2.1
 have lcj:(cAnn c).1.length ≤ 20001:=hl.2.2.2.2.2.2.1.1
 have lsep:Lim NN sepT (cSep c):=hl.2.2.2.2.2.2.2.1
 have lim:RowOk (cIm c):=hl.2.2.2.2.2.2.2.2.1
 have lsk:In64 (cSep c).1:=lsep.1
 have lsm:In64 (cSep c).2.1:=lsep.2.1
 have lsi:RowOk (cSep c).2.2.1:=lsep.2.2.1
 have lsp:=lsep.2.2.2.1
 have nsp:(cSep c).2.2.2.1.length ≤ 20001:=lsp.1
 obtain ⟨L1,hL1⟩:∃ L:Lns,L = (if (cAnn c).1 = [] then [] else [[sConj,(cAnn c).1]]):=⟨_,rfl⟩
 obtain ⟨L2,hL2⟩:∃ L:Lns,L = (if (cSep c).1 = 0 ∧ (cSep c).2.1 = 0 then [] else [sSep :: itoas [(cSep c).1,(cSep c).2.1]]):=⟨_,rfl⟩
 obtain ⟨L3,hL3⟩:∃ L:Lns,L = (if (cSep c).2.2.1 = [] then [] else [sImage :: itoas (cSep c).2.2.1]):=⟨_,rfl⟩
 obtain ⟨L5,hL5⟩:∃ L:Lns,L = (if cIm c = [] then [] else [sValue :: itoas (cIm c)]):=⟨_,rfl⟩
 have hP:pairsL c = L1 ++ (cellsL sRing (cAnn c).2.1 ++ (L2 ++ (L3 ++ ((cSep c).2.2.2.1.map (fun l=>sPerm :: itoas l) ++ L5)))):=by
  unfold pairsL sepL
  rw [← hL1,← hL2,← hL3,← hL5]
  simp only [List.append_assoc]
 rw [hP] at hseg
 obtain ⟨seg1,seg2⟩:=hseg.app
 obtain ⟨seg2,seg3⟩:=seg2.app
 obtain ⟨seg3,seg4⟩:=seg3.app
 obtain ⟨seg4,seg5⟩:=seg4.app
 obtain ⟨seg5,seg6⟩:=seg5.app
 rw [List.length_map] at seg6
 have hrl:(cellsL sRing (cAnn c).2.1).length = (cAnn c).2.1.length:=by unfold cellsL; rw [List.length_map]
 rw [hrl] at seg3 seg4 seg5 seg6
 refine cert_putPairs.calls ⟨S.b3,0,none⟩ ⟨S.b1,0,none⟩ c.1 c.2.1.1 x.r x.u x.v c.2.2.2.2.1 x.d x.cj x.ring (cSep c).1 (cSep c).2.1 x.si x.sp x.im (cMap c).1.1 x.mr (cMap c).2.1 x.mi (cStr c).1.1 x.s.r (cStr c).2.1.1 (cStr c).2.1.2.1 x.s.acc x.s.nx x.s.mu x.s.df x.s.st x.s.en ?_
 unfold cert_putPairs.sh
 refine New.mk fun bx W1 hb1 hn1 hs1' hc1=>?_
 have hp1:=hp.nil hc1
 have hx1:S.Box W1 bx (x.cs c) 43:=Ctx.Box.new hp hb1 hn1 rfl
 refine Join.by' (fun y W'=>y = (((⟨S.b3,0,none⟩:Addr),(⟨S.b1,0,none⟩:Addr),()),(Addr.mk bx 0 none),()) ∧ S.P (i + L1.length) W' ∧ S.K W W' ∧ S.Box W' bx (x.cs c) 43) (fun y W2 g hy=>?_) (fun J hJ=>?_)
 rotate_left
 ·refine LoadT.sc (s:=.str) (x:=x.cj) (hx1.at (k:=7) rfl) ?_
  rw [bytes_nil hv.cj]
  refine Br.mk (fun hc=>?_) (fun hc=>?_)
  ·have hc:¬ (cAnn c).1 = []:=by simpa using hc
   rw [if_neg hc] at hL1
   refine LoadT.sc (s:=.str) (x:=x.cj) (hx1.at (k:=7) rfl) ?_
   refine ⟨by rw [size_of hv.cj]; show ((5 + (cAnn c).1.length:Nat):Int) ≤ _; omega,?_⟩
   have e1:=seg1.at (j:=0) (l:=[sConj,(cAnn c).1]) (by rw [hL1]; rfl)
   rw [Nat.add_zero] at e1
   refine S.put hp1 (by rw [e1,app_data,hv.cj,lineTwo]; simp) fun W2 hp2 hk2=>?_
   exact hJ _ _ ⟨rfl,by rw [hL1]; exact hp2,(Ctx.K.nil hc1).trans hk2,hx1.keep hk2⟩
  ·have hc:(cAnn c).1 = []:=by simpa using hc
   rw [if_pos hc] at hL1
   exact hJ _ _ ⟨rfl,by rw [hL1]; exact hp1,Ctx.K.nil hc1,hx1⟩
 obtain ⟨rfl,hp2,hK2,hx2⟩:=hy
 dsimp only
 refine LoadT.sc (s:=.sl) (x:=x.ring) (hx2.at (k:=8) rfl) ?_
 refine S.cells (A:=A) (d:=(cAnn c).2.1) (sl:=x.ring) (fun W hW=>⟨M.rp hv.ring hW,M.base W hW⟩) (h:=sRing) rfl (by decide) (cellsOk lring) lring.1 hp2 seg2 fun W3 hp3 hk3=>?_
 have hK3:=hK2.trans hk3
 have hx3:=hx2.keep hk3
 refine Join.by' (fun y W'=>y = (((⟨S.b3,0,none⟩:Addr),(⟨S.b1,0,none⟩:Addr),()),(Addr.mk bx 0 none),()) ∧ S.P (i + L1.length + (cAnn c).2.1.length + L2.length) W' ∧ S.K W W' ∧ S.Box W' bx (x.cs c) 43) (fun y W4 g hy=>?_) (fun J hJ=>?_)
 rotate_left
 ·refine Join.by' (fun y W'=>y = (((⟨S.b3,0,none⟩:Addr),(⟨S.b1,0,none⟩:Addr),()),(Addr.mk bx 0 none),(!(decide ((cSep c).1 = 0 ∧ (cSep c).2.1 = 0))),()) ∧ W' = W3) (fun y W4 g hy=>?_) (fun J2 hJ2=>?_)
  ·obtain ⟨rfl,rfl⟩:=hy
   dsimp only
   refine Br.mk (fun hc=>?_) (fun hc=>?_)
   ·have hc:¬ ((cSep c).1 = 0 ∧ (cSep c).2.1 = 0):=fun he=>by rw [decide_eq_true he] at hc; cases hc
    rw [if_neg hc] at hL2
    refine LoadT.sc (s:=.int .i64) (x:=(cSep c).1) (hx3.at (k:=9) rfl) (LoadT.sc (s:=.int .i64) (x:=(cSep c).2.1) (hx3.at (k:=10) rfl) ?_)
    refine New.mk fun b5 W5 hb5 hn5 hs5 hc5=>?_
    have hp5:=hp3.nil hc5
    refine S.num hp5 (M.base W5 hp5.c).g (h:=sSep) rfl (by decide) (rp_new (l:=[(cSep c).1,(cSep c).2.1]) hn5 rfl (by show 2 ≤ 20001; decide)) (row2 lsk lsm) (seg3.at (j:=0) (by rw [hL2]; rfl)) fun W6 hp6 hk6=>?_
    have hk':=(Ctx.K.nil hc5).trans hk6
    exact hJ _ _ ⟨rfl,by rw [hL2]; exact hp6,hK3.trans hk',hx3.keep hk'⟩
   ·have hc:(cSep c).1 = 0 ∧ (cSep c).2.1 = 0:=by simpa using hc
    rw [if_pos hc] at hL2
    exact hJ _ _ ⟨rfl,by rw [hL2]; exact hp3,hK3,hx3⟩
  ·refine LoadT.sc (s:=.int .i64) (x:=(cSep c).1) (hx3.at (k:=9) rfl) ?_
   refine Br.mk (fun hc=>?_) (fun hc=>?_)
   ·have hc:(cSep c).1 ≠ 0:=by simpa using hc
    refine hJ2 _ _ ⟨?_,rfl⟩
    have:(!(decide ((cSep c).1 = 0 ∧ (cSep c).2.1 = 0))) = true:=by simp [hc]
    rw [this]
   ·have hc:(cSep c).1 = 0:=by simpa using hc
    refine LoadT.sc (s:=.int .i64) (x:=(cSep c).2.1) (hx3.at (k:=10) rfl) ?_
    refine hJ2 _ _ ⟨?_,rfl⟩
    have:(!(decide ((cSep c).1 = 0 ∧ (cSep c).2.1 = 0))) = ((cSep c).2.1 != 0):=by
     by_cases h:(cSep c).2.1 = 0 <;> simp [h,hc]
    rw [this]
 obtain ⟨rfl,hp4,hK4,hx4⟩:=hy
 dsimp only
 refine Join.by' (fun y W'=>y = (((⟨S.b3,0,none⟩:Addr),(⟨S.b1,0,none⟩:Addr),()),(Addr.mk bx 0 none),()) ∧ S.P (i + L1.length + (cAnn c).2.1.length + L2.length + L3.length) W' ∧ S.K W W' ∧ S.Box W' bx (x.cs c) 43) (fun y W5 g hy=>?_) (fun J hJ=>?_)
 rotate_left
 ·refine LoadT.sc (s:=.sl) (x:=x.si) (hx4.at (k:=11) rfl) ?_
  have hn:x.si.n = (cSep c).2.2.1.length:=rl_len hv.si
  refine Br.dec (fun hc=>?_) (fun hc=>?_)
  ·have hc:¬ (cSep c).2.2.1 = []:=fun he=>by rw [he] at hn; simp only [List.length_nil] at hn; omega
   rw [if_neg hc] at hL3
   refine LoadT.sc (s:=.sl) (x:=x.si) (hx4.at (k:=11) rfl) ?_
   refine S.num hp4 (M.base W4 hp4.c).g (h:=sImage) rfl (by decide) (rp_all (M.base W4 hp4.c).low (M.rp hv.si hp4.c)) lsi (seg4.at (j:=0) (by rw [hL3]; rfl)) fun W6 hp6 hk6=>?_
   exact hJ _ _ ⟨rfl,by rw [hL3]; exact hp6,hK4.trans hk6,hx4.keep hk6⟩
  ·have hc:(cSep c).2.2.1 = []:=List.eq_nil_of_length_eq_zero (by omega)
   rw [if_pos hc] at hL3
   exact hJ _ _ ⟨rfl,by rw [hL3]; exact hp4,hK4,hx4⟩
 obtain ⟨rfl,hp5,hK5,hx5⟩:=hy
 dsimp only
 refine LoadT.sc (s:=.sl) (x:=x.sp) (hx5.at (k:=12) rfl) ?_
 have hn:x.sp.n = (cSep c).2.2.2.1.length:=rl_len hv.sp
 obtain ⟨i2,hi2⟩:∃ i2,i2 = i + L1.length + (cAnn c).2.1.length + L2.length + L3.length:=⟨_,rfl⟩
 rw [← hi2] at hp5 seg5 seg6
 refine LoopT.mk (fun y W'=>∃ j:Nat,y = (((⟨S.b3,0,none⟩:Addr),(⟨S.b1,0,none⟩:Addr),()),(Addr.mk bx 0 none),x.sp,((x.sp.n:Nat):Int),(j:Int),()) ∧ j ≤ (cSep c).2.2.2.1.length ∧ S.P (i2 + j) W' ∧ S.K W W' ∧ S.Box W' bx (x.cs c) 43) (fun y _=>(cSep c).2.2.2.1.length - y.2.2.2.2.1.toNat) ⟨0,rfl,Nat.zero_le _,hp5,hK5,hx5⟩ ?_
 rintro y g W6 ⟨j,rfl,hj,hp6,hK6,hx6⟩
 dsimp only
 refine Br.dec (fun hlt=>?_) (fun hge=>?_)
 ·have hlt:j < (cSep c).2.2.2.1.length:=by omega
  obtain ⟨q,hq⟩:∃ q,q = (cSep c).2.2.2.1[j]:=⟨_,rfl⟩
  have hg:(cSep c).2.2.2.1[j]? = some q:=by rw [hq]; exact List.getElem?_eq_getElem hlt
  have hm:q ∈ (cSep c).2.2.2.1:=by rw [hq]; exact List.getElem_mem hlt
  obtain ⟨g0,o,us,ha,hr,hcell⟩:=M.get hv.sp hg
  obtain ⟨s1,rfl,r1⟩:=rp_list hr
  have hw':=wrap1 hlt (by omega)
  rw [ha]
  refine Idx.mk j rfl (by omega) ?_
  refine LoadT.sc (s:=.sl) (x:=s1) (hcell W6 hp6.c 0 _ rfl) ?_
  refine S.num hp6 (M.base W6 hp6.c).g (h:=sPerm) rfl (by decide) (rp_all (M.base W6 hp6.c).low (M.rp r1 hp6.c)) ⟨(lsp.2 q hm).1,(lsp.2 q hm).2⟩ (seg5.at (by rw [List.getElem?_map,hg]; rfl)) fun W7 hp7 hk7=>?_
  refine ⟨⟨j + 1,by rw [hw'],hlt,by rw [← Nat.add_assoc]; exact hp7,hK6.trans hk7,hx6.keep hk7⟩,?_⟩
  show (cSep c).2.2.2.1.length - (IntKind.wrap .i64 ((j:Int) + 1)).toNat < (cSep c).2.2.2.1.length - (j:Int).toNat
  rw [hw']; omega
 have hjl:j = (cSep c).2.2.2.1.length:=by omega
 subst hjl
 have hlen:i + (pairsL c).length = i2 + (cSep c).2.2.2.1.length + L5.length:=by
  rw [hP,hi2]
  simp only [List.length_append,List.length_map,hrl]; omega
 rw [hlen]
 refine LoadT.sc (s:=.sl) (x:=x.im) (hx6.at (k:=13) rfl) ?_
 have hn:x.im.n = (cIm c).length:=rl_len hv.im
 refine Br.dec (fun hc=>?_) (fun hc=>?_)
 ·have hc:¬ cIm c = []:=fun he=>by rw [he] at hn; simp only [List.length_nil] at hn; omega
  rw [if_neg hc] at hL5
  refine LoadT.sc (s:=.sl) (x:=x.im) (hx6.at (k:=13) rfl) ?_
  refine S.num hp6 (M.base W6 hp6.c).g (h:=sValue) rfl (by decide) (rp_all (M.base W6 hp6.c).low (M.rp hv.im hp6.c)) lim (seg6.at (j:=0) (by rw [hL5]; rfl)) fun W7 hp7 hk7=>?_
  exact ⟨rfl,by rw [hL5]; exact hp7,hK6.trans hk7⟩
 ·have hc:cIm c = []:=List.eq_nil_of_length_eq_zero (by omega)
  rw [if_pos hc] at hL5
  exact ⟨rfl,by rw [hL5]; exact hp6,hK6⟩
end Go.Proofs.YtpifnlfmojfgpaaGreatDoor.Pk
end
