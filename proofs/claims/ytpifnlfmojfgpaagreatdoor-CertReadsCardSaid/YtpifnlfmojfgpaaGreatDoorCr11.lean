/- Parts of a proof, laid one behind the other by our own merge.py: PkSame PkSameS PwEqOk PkSame2 PkWordC PkWritable RkPAut. -/
import Derived.Test.YtpifnlfmojfgpaaGreatDoorCr6
import Derived.Laws.StructEq
import Derived.Test.YtpifnlfmojfgpaaGreatDoorCr3
import Derived.Test.YtpifnlfmojfgpaaGreatDoorCr7
import Derived.Test.YtpifnlfmojfgpaaGreatDoorCr8
import Derived.Laws.RangeAny
import Derived.Test.YtpifnlfmojfgpaaGreatDoorCr10
set_option linter.unusedVariables false
set_option linter.unusedSimpArgs false
section
set_option maxRecDepth 10000
set_option maxHeartbeats 400000
namespace Go.Proofs.YtpifnlfmojfgpaaGreatDoor.Pk
open Fw Pw Ct
theorem take_all {α:Type} {a b:List α} (h:a.length = b.length) {i:Nat} (hi:i = a.length) (ht:a.take i = b.take i):a = b:=by
 rw [hi,List.take_length,h,List.take_length] at ht; exact ht
theorem take_next {α:Type} {a b:List α} {i:Nat} (h1:i < a.length) (h2:i < b.length) (ht:a.take i = b.take i) (he:a[i] = b[i]):a.take (i + 1) = b.take (i + 1):=by
 rw [List.take_add_one,List.take_add_one,List.getElem?_eq_getElem h1,List.getElem?_eq_getElem h2,ht,he]
theorem ne_at {α:Type} {a b:List α} {i:Nat} (h1:i < a.length) (h2:i < b.length) (he:a[i] ≠ b[i]):a ≠ b:=fun h=>by
 subst h; exact he rfl
noncomputable def a65:FAnn where
 loops:=fun | 4=>[.kv 0,.kv 1,.kv 2,.kv 14,.sl 15 (.pv (.int .i64))] | _=>[]
 sched:=fun | 6=>runS [(0,false),(1,false),(2,false),(3,false),(4,false),(5,false),(6,false),(7,false),(8,false),(9,true),(10,false)] .fin | _=>.fin
noncomputable def a66:FAnn:={}
noncomputable def a60:FAnn where
 loops:=fun | 4=>[.kv 0,.kv 1,.kv 2,.kv 14,.sl 15 (.pv (.int .i64))] | _=>[]
 sched:=fun | 6=>runS [(0,false),(1,false),(2,false),(3,false),(4,false),(5,false),(6,false),(7,false),(8,false),(9,true),(10,false)] .fin | _=>.fin
noncomputable def a61:FAnn:={}
noncomputable def a106:FAnn where
 loops:=fun | 4=>[.kv 0,.kv 1,.kv 2,.kv 14,.sl 15 (.pv (.int .i64))] | _=>[]
 sched:=fun | 6=>runS [(0,false),(1,false),(2,false),(3,false),(4,false),(5,false),(6,false),(7,false),(8,false),(9,true),(10,false)] .fin | _=>.fin
noncomputable def a107:FAnn:={}
noncomputable def a27:FAnn:={}
noncomputable def a64:FAnn where
 loops:=fun | 4=>[.kv 0,.kv 1,.kv 2,.kv 14,.sl 15 (.pv (.int .i64))] | _=>[]
 sched:=fun | 6=>runS [(0,false),(1,false),(2,false),(3,false),(4,false),(5,false),(6,false),(7,false),(8,false),(9,true),(10,false)] .fin | _=>.fin
def sg27:Sig:=⟨[.pv tIs,.pv tIs],[.any,.any],[bA]⟩
def sg65:Sig:=⟨[.pv (.lst tI),.pv (.lst tI),.fn 66 .nil],[.any,.any,.any],[bA]⟩
def sg66:Sig:=⟨[.pv tI,.pv tI],[.any,.any],[bA]⟩
def sg60:Sig:=⟨[.pv (.lst .str),.pv (.lst .str),.fn 61 .nil],[.any,.any,.any],[bA]⟩
def sg61:Sig:=⟨[.pv .str,.pv .str],[.any,.any],[bA]⟩
def sg106:Sig:=⟨[.pv (.lst .bool),.pv (.lst .bool),.fn 107 .nil],[.any,.any,.any],[bA]⟩
def sg107:Sig:=⟨[.pv .bool,.pv .bool],[.any,.any],[bA]⟩
def sg64:Sig:=⟨[.pv (.lst tIs),.pv (.lst tIs),.fn 27 .nil],[.any,.any,.any],[bA]⟩
theorem eq66_pc (x y:Int):PC Tryz.prog 66 sg66 (x,y,()) (fun z _=>z.1 = decide (x = y)) (fun _=>False):=by
 refine PC.of a66 [] (by kernel_rfl) ?_
 show (x == y) = decide (x = y)
 rw [Bool.eq_iff_iff]; simp
theorem same65_pc (a b:List (Int)) (hl:a.length ≤ NN):PC Tryz.prog 65 sg65 (a,b,(),()) (fun y _=>y.1 = decide (a = b)) (fun _=>False):=by
 refine PC.of a65 [(66,sg66)] (by kernel_rfl) ?_
 have hNN:a.length ≤ 20001:=hl
 refine LenL.mk fun _=>LenL.mk fun _=>?_
 refine BrP.mk' (fun h=>?_) (fun h=>?_)
 ·have h:((a.length:Int) != (b.length:Int)) = true:=h
  have h:=bne_iff_ne.1 h
  show false = decide (a = b)
  exact (decide_eq_false fun he=>h (by rw [he])).symm
 have h:((a.length:Int) != (b.length:Int)) = false:=h
 have hlen:(a.length:Int) = (b.length:Int):=by simpa using h
 have hlen:a.length = b.length:=by omega
 refine LenL.mk fun _=>?_
 refine SameV.mk rfl (SameV.mk rfl (SameV.mk rfl (SameV.mk rfl ?_)))
 refine LoopP.mk (fun x=>∃ i:Nat,x = ((i:Int),()) ∧ i ≤ a.length ∧ a.take i = b.take i) (fun x=>a.length - x.1.toNat) ⟨0,rfl,Nat.zero_le _,rfl⟩ ?_
 rintro x ⟨i,rfl,hi,ht⟩
 refine BrP.mk' (fun hc=>?_) (fun hc=>?_)
 ·have hc:(i:Int) < (a.length:Int):=of_decide_eq_true hc
  have h1:i < a.length:=by omega
  have h2:i < b.length:=by omega
  have hw:IntKind.wrap .i64 ((i:Int) + 1) = ((i + 1:Nat):Int):=Fw.wrap64 (by omega) (by omega)
  refine GetL.is i (x:=a[i]) rfl (List.getElem?_eq_getElem h1) (GetL.is i (x:=b[i]) rfl (List.getElem?_eq_getElem h2) ?_)
  refine CallP.mk _ _ (eq66_pc a[i] b[i]) ?_ (fun p h=>h.elim)
  rintro ⟨e,_⟩ z he
  have he:e = decide (a[i] = b[i]):=he
  refine BrP.mk' (fun hd=>?_) (fun hd=>?_)
  ·have hd:(!e) = true:=hd
   have hn:a[i] ≠ b[i]:=fun hq=>by rw [he,decide_eq_true hq] at hd; cases hd
   show false = decide (a = b)
   exact (decide_eq_false (ne_at h1 h2 hn)).symm
  ·have hd:(!e) = false:=hd
   have hq:a[i] = b[i]:=by
    have:e = true:=by cases e <;> first | rfl | cases hd
    rw [this] at he
    exact of_decide_eq_true he.symm
   refine SameV.mk rfl (SameV.mk rfl (SameV.mk rfl (SameV.mk rfl ?_)))
   refine And.intro (Exists.intro (i + 1) (And.intro ?_ ⟨h1,take_next h1 h2 ht hq⟩)) ?_
   ·rw [← hw]; rfl
   ·show a.length - (IntKind.wrap .i64 ((i:Int) + 1)).toNat < a.length - (i:Int).toNat
    rw [hw]; omega
 ·have hc:¬ (i:Int) < (a.length:Int):=of_decide_eq_false hc
  show true = decide (a = b)
  exact (decide_eq_true (take_all hlen (by omega) ht)).symm
theorem eq61_pc (x y:Str):PC Tryz.prog 61 sg61 (x,y,()) (fun z _=>z.1 = decide (x = y)) (fun _=>False):=by
 refine PC.of a61 [] (by kernel_rfl) ?_
 show (x == y) = decide (x = y)
 rw [Bool.eq_iff_iff]; simp
theorem same60_pc (a b:List (Str)) (hl:a.length ≤ NN):PC Tryz.prog 60 sg60 (a,b,(),()) (fun y _=>y.1 = decide (a = b)) (fun _=>False):=by
 refine PC.of a60 [(61,sg61)] (by kernel_rfl) ?_
 have hNN:a.length ≤ 20001:=hl
 refine LenL.mk fun _=>LenL.mk fun _=>?_
 refine BrP.mk' (fun h=>?_) (fun h=>?_)
 ·have h:((a.length:Int) != (b.length:Int)) = true:=h
  have h:=bne_iff_ne.1 h
  show false = decide (a = b)
  exact (decide_eq_false fun he=>h (by rw [he])).symm
 have h:((a.length:Int) != (b.length:Int)) = false:=h
 have hlen:(a.length:Int) = (b.length:Int):=by simpa using h
 have hlen:a.length = b.length:=by omega
 refine LenL.mk fun _=>?_
 refine SameV.mk rfl (SameV.mk rfl (SameV.mk rfl (SameV.mk rfl ?_)))
 refine LoopP.mk (fun x=>∃ i:Nat,x = ((i:Int),()) ∧ i ≤ a.length ∧ a.take i = b.take i) (fun x=>a.length - x.1.toNat) ⟨0,rfl,Nat.zero_le _,rfl⟩ ?_
 rintro x ⟨i,rfl,hi,ht⟩
 refine BrP.mk' (fun hc=>?_) (fun hc=>?_)
 ·have hc:(i:Int) < (a.length:Int):=of_decide_eq_true hc
  have h1:i < a.length:=by omega
  have h2:i < b.length:=by omega
  have hw:IntKind.wrap .i64 ((i:Int) + 1) = ((i + 1:Nat):Int):=Fw.wrap64 (by omega) (by omega)
  refine GetL.is i (x:=a[i]) rfl (List.getElem?_eq_getElem h1) (GetL.is i (x:=b[i]) rfl (List.getElem?_eq_getElem h2) ?_)
  refine CallP.mk _ _ (eq61_pc a[i] b[i]) ?_ (fun p h=>h.elim)
  rintro ⟨e,_⟩ z he
  have he:e = decide (a[i] = b[i]):=he
  refine BrP.mk' (fun hd=>?_) (fun hd=>?_)
  ·have hd:(!e) = true:=hd
   have hn:a[i] ≠ b[i]:=fun hq=>by rw [he,decide_eq_true hq] at hd; cases hd
   show false = decide (a = b)
   exact (decide_eq_false (ne_at h1 h2 hn)).symm
  ·have hd:(!e) = false:=hd
   have hq:a[i] = b[i]:=by
    have:e = true:=by cases e <;> first | rfl | cases hd
    rw [this] at he
    exact of_decide_eq_true he.symm
   refine SameV.mk rfl (SameV.mk rfl (SameV.mk rfl (SameV.mk rfl ?_)))
   refine And.intro (Exists.intro (i + 1) (And.intro ?_ ⟨h1,take_next h1 h2 ht hq⟩)) ?_
   ·rw [← hw]; rfl
   ·show a.length - (IntKind.wrap .i64 ((i:Int) + 1)).toNat < a.length - (i:Int).toNat
    rw [hw]; omega
 ·have hc:¬ (i:Int) < (a.length:Int):=of_decide_eq_false hc
  show true = decide (a = b)
  exact (decide_eq_true (take_all hlen (by omega) ht)).symm
theorem eq107_pc (x y:Bool):PC Tryz.prog 107 sg107 (x,y,()) (fun z _=>z.1 = decide (x = y)) (fun _=>False):=by
 refine PC.of a107 [] (by kernel_rfl) ?_
 show (x == y) = decide (x = y)
 rw [Bool.eq_iff_iff]; simp
theorem same106_pc (a b:List (Bool)) (hl:a.length ≤ NN):PC Tryz.prog 106 sg106 (a,b,(),()) (fun y _=>y.1 = decide (a = b)) (fun _=>False):=by
 refine PC.of a106 [(107,sg107)] (by kernel_rfl) ?_
 have hNN:a.length ≤ 20001:=hl
 refine LenL.mk fun _=>LenL.mk fun _=>?_
 refine BrP.mk' (fun h=>?_) (fun h=>?_)
 ·have h:((a.length:Int) != (b.length:Int)) = true:=h
  have h:=bne_iff_ne.1 h
  show false = decide (a = b)
  exact (decide_eq_false fun he=>h (by rw [he])).symm
 have h:((a.length:Int) != (b.length:Int)) = false:=h
 have hlen:(a.length:Int) = (b.length:Int):=by simpa using h
 have hlen:a.length = b.length:=by omega
 refine LenL.mk fun _=>?_
 refine SameV.mk rfl (SameV.mk rfl (SameV.mk rfl (SameV.mk rfl ?_)))
 refine LoopP.mk (fun x=>∃ i:Nat,x = ((i:Int),()) ∧ i ≤ a.length ∧ a.take i = b.take i) (fun x=>a.length - x.1.toNat) ⟨0,rfl,Nat.zero_le _,rfl⟩ ?_
 rintro x ⟨i,rfl,hi,ht⟩
 refine BrP.mk' (fun hc=>?_) (fun hc=>?_)
 ·have hc:(i:Int) < (a.length:Int):=of_decide_eq_true hc
  have h1:i < a.length:=by omega
  have h2:i < b.length:=by omega
  have hw:IntKind.wrap .i64 ((i:Int) + 1) = ((i + 1:Nat):Int):=Fw.wrap64 (by omega) (by omega)
  refine GetL.is i (x:=a[i]) rfl (List.getElem?_eq_getElem h1) (GetL.is i (x:=b[i]) rfl (List.getElem?_eq_getElem h2) ?_)
  refine CallP.mk _ _ (eq107_pc a[i] b[i]) ?_ (fun p h=>h.elim)
  rintro ⟨e,_⟩ z he
  have he:e = decide (a[i] = b[i]):=he
  refine BrP.mk' (fun hd=>?_) (fun hd=>?_)
  ·have hd:(!e) = true:=hd
   have hn:a[i] ≠ b[i]:=fun hq=>by rw [he,decide_eq_true hq] at hd; cases hd
   show false = decide (a = b)
   exact (decide_eq_false (ne_at h1 h2 hn)).symm
  ·have hd:(!e) = false:=hd
   have hq:a[i] = b[i]:=by
    have:e = true:=by cases e <;> first | rfl | cases hd
    rw [this] at he
    exact of_decide_eq_true he.symm
   refine SameV.mk rfl (SameV.mk rfl (SameV.mk rfl (SameV.mk rfl ?_)))
   refine And.intro (Exists.intro (i + 1) (And.intro ?_ ⟨h1,take_next h1 h2 ht hq⟩)) ?_
   ·rw [← hw]; rfl
   ·show a.length - (IntKind.wrap .i64 ((i:Int) + 1)).toNat < a.length - (i:Int).toNat
    rw [hw]; omega
 ·have hc:¬ (i:Int) < (a.length:Int):=of_decide_eq_false hc
  show true = decide (a = b)
  exact (decide_eq_true (take_all hlen (by omega) ht)).symm
theorem ints_pc (x y:List Int) (hx:x.length ≤ NN):PC Tryz.prog 27 sg27 (x,y,()) (fun z _=>z.1 = decide (x = y)) (fun _=>False):=by
 refine PC.of a27 [(65,sg65)] (by kernel_rfl) ?_
 refine CallP.mk _ _ (same65_pc x y hx) ?_ (fun p h=>h.elim)
 rintro ⟨b,_⟩ z hb
 exact hb
theorem same64_pc (a b:List (List Int)) (hl:a.length ≤ NN) (hall:∀ x ∈ a,x.length ≤ NN):PC Tryz.prog 64 sg64 (a,b,(),()) (fun y _=>y.1 = decide (a = b)) (fun _=>False):=by
 refine PC.of a64 [(27,sg27)] (by kernel_rfl) ?_
 have hNN:a.length ≤ 20001:=hl
 refine LenL.mk fun _=>LenL.mk fun _=>?_
 refine BrP.mk' (fun h=>?_) (fun h=>?_)
 ·have h:((a.length:Int) != (b.length:Int)) = true:=h
  have h:=bne_iff_ne.1 h
  show false = decide (a = b)
  exact (decide_eq_false fun he=>h (by rw [he])).symm
 have h:((a.length:Int) != (b.length:Int)) = false:=h
 have hlen:(a.length:Int) = (b.length:Int):=by simpa using h
 have hlen:a.length = b.length:=by omega
 refine LenL.mk fun _=>?_
 refine SameV.mk rfl (SameV.mk rfl (SameV.mk rfl (SameV.mk rfl ?_)))
 refine LoopP.mk (fun x=>∃ i:Nat,x = ((i:Int),()) ∧ i ≤ a.length ∧ a.take i = b.take i) (fun x=>a.length - x.1.toNat) ⟨0,rfl,Nat.zero_le _,rfl⟩ ?_
 rintro x ⟨i,rfl,hi,ht⟩
 refine BrP.mk' (fun hc=>?_) (fun hc=>?_)
 ·have hc:(i:Int) < (a.length:Int):=of_decide_eq_true hc
  have h1:i < a.length:=by omega
  have h2:i < b.length:=by omega
  have hw:IntKind.wrap .i64 ((i:Int) + 1) = ((i + 1:Nat):Int):=Fw.wrap64 (by omega) (by omega)
  refine GetL.is i (x:=a[i]) rfl (List.getElem?_eq_getElem h1) (GetL.is i (x:=b[i]) rfl (List.getElem?_eq_getElem h2) ?_)
  refine CallP.mk _ _ (ints_pc a[i] b[i] (hall _ (List.getElem_mem h1))) ?_ (fun p h=>h.elim)
  rintro ⟨e,_⟩ z he
  have he:e = decide (a[i] = b[i]):=he
  refine BrP.mk' (fun hd=>?_) (fun hd=>?_)
  ·have hd:(!e) = true:=hd
   have hn:a[i] ≠ b[i]:=fun hq=>by rw [he,decide_eq_true hq] at hd; cases hd
   show false = decide (a = b)
   exact (decide_eq_false (ne_at h1 h2 hn)).symm
  ·have hd:(!e) = false:=hd
   have hq:a[i] = b[i]:=by
    have:e = true:=by cases e <;> first | rfl | cases hd
    rw [this] at he
    exact of_decide_eq_true he.symm
   refine SameV.mk rfl (SameV.mk rfl (SameV.mk rfl (SameV.mk rfl ?_)))
   refine And.intro (Exists.intro (i + 1) (And.intro ?_ ⟨h1,take_next h1 h2 ht hq⟩)) ?_
   ·rw [← hw]; rfl
   ·show a.length - (IntKind.wrap .i64 ((i:Int) + 1)).toNat < a.length - (i:Int).toNat
    rw [hw]; omega
 ·have hc:¬ (i:Int) < (a.length:Int):=of_decide_eq_false hc
  show true = decide (a = b)
  exact (decide_eq_true (take_all hlen (by omega) ht)).symm
end Go.Proofs.YtpifnlfmojfgpaaGreatDoor.Pk
end
section
set_option maxRecDepth 10000
set_option maxHeartbeats 400000
namespace Go.Proofs.YtpifnlfmojfgpaaGreatDoor.Pk
open Fw Pw Ct
noncomputable def a23:FAnn:={}
noncomputable def a67:FAnn:={}
def sg23:Sig:=⟨[.pv presT,.pv presT],[.any,.any],[bA]⟩
def sg67:Sig:=⟨[.pv autT,.pv autT],[.any,.any],[bA]⟩
theorem pres_eq (a b:Pres):decide (a = b) = (a.1 == b.1 && decide (a.2.1 = b.2.1)):=by
 obtain ⟨x,y,_⟩:=a
 obtain ⟨z,w,_⟩:=b
 rw [Bool.eq_iff_iff]; simp
theorem aut_eq (a b:Aut):decide (a = b) = (a.1 == b.1 && (a.2.1 == b.2.1 && (decide (a.2.2.1 = b.2.2.1) && decide (a.2.2.2.1 = b.2.2.2.1)))):=by
 obtain ⟨x,y,z,w,_⟩:=a
 obtain ⟨x',y',z',w',_⟩:=b
 rw [Bool.eq_iff_iff]; simp
theorem samePres_pc (a b:Pres) (hl:a.2.1.length ≤ NN):PC Tryz.prog 23 sg23 (a,b,()) (fun y _=>y.1 = decide (a = b)) (fun _=>False):=by
 refine PC.of a23 [(60,sg60)] (by kernel_rfl) ?_
 refine BrP.mk' (fun h=>?_) (fun h=>?_)
 ·have h:(a.1 == b.1) = true:=h
  refine CallP.mk _ _ (same60_pc a.2.1 b.2.1 hl) ?_ (fun p h=>h.elim)
  rintro ⟨e,_⟩ z he
  have he:e = decide (a.2.1 = b.2.1):=he
  show e = _
  rw [pres_eq,h,he]; rfl
 ·have h:(a.1 == b.1) = false:=h
  show false = _
  rw [pres_eq,h]; rfl
theorem sameAut_pc (a b:Aut) (hl:Lim NN autT a):PC Tryz.prog 67 sg67 (a,b,()) (fun y _=>y.1 = decide (a = b)) (fun _=>False):=by
 refine PC.of a67 [(106,sg106),(64,sg64)] (by kernel_rfl) ?_
 refine BrP.mk' (fun h=>?_) (fun h=>?_)
 rotate_left
 ·have h:(a.1 == b.1) = false:=h
  show false = _
  rw [aut_eq,h]; rfl
 have h:(a.1 == b.1) = true:=h
 refine BrP.mk' (fun h2=>?_) (fun h2=>?_)
 rotate_left
 ·have h2:(a.2.1 == b.2.1) = false:=h2
  show false = _
  rw [aut_eq,h,h2]; rfl
 have h2:(a.2.1 == b.2.1) = true:=h2
 refine CallP.mk _ _ (same106_pc a.2.2.1 b.2.2.1 hl.2.2.1.1) ?_ (fun p h=>h.elim)
 rintro ⟨e,_⟩ z he
 have he:e = decide (a.2.2.1 = b.2.2.1):=he
 refine BrP.mk' (fun h3=>?_) (fun h3=>?_)
 rotate_left
 ·have h3:e = false:=h3
  show false = _
  rw [aut_eq,h,h2,← he,h3]; rfl
 have h3:e = true:=h3
 refine CallP.mk _ _ (same64_pc a.2.2.2.1 b.2.2.2.1 hl.2.2.2.1.1 (fun r hr=>(hl.2.2.2.1.2 r hr).1)) ?_ (fun p h=>h.elim)
 rintro ⟨f,_⟩ z hf
 have hf:f = decide (a.2.2.2.1 = b.2.2.2.1):=hf
 show f = _
 rw [aut_eq,h,h2,← he,h3,hf]; rfl
end Go.Proofs.YtpifnlfmojfgpaaGreatDoor.Pk
end
section
namespace Go.Proofs.YtpifnlfmojfgpaaGreatDoor.Pw
open Fw RowKit
def oneTy (P:Program) (t:TypeId):Bool:=match P.info? t with | some i=>Nat.beq i.size 1 | none=>false
theorem part_one {P:Program} {t:TypeId} {d:TypeDesc} (h1:oneTy P t = true) (hu:P.underlying t = some d) (hd:∀ fs,d ≠ .struct fs) (hd':∀ n e,d ≠ .array n e) (w:World) (xs:Array Value) (o:Nat) (v:Value) (h:xs[o]? = some v):(part t xs o).run P w = .ok v w:=by
 unfold oneTy at h1
 cases hi:P.info? t with
 | none=>rw [hi] at h1; cases h1
 | some i=>
  rw [hi] at h1
  have hs:i.size = 1:=Nat.eq_of_beq_eq_true h1
  have hag:(isAgg t).run P w = .ok false w:=by
   cases d <;> simp [isAgg,run_underlying hu,Sem.run_bind,Result.andThen] <;> first | exact absurd rfl (hd _) | exact absurd rfl (hd' _ _)
  simp [part,sizeOf,typeInfo,hi,hs,h,hag,Sem.run_bind,Result.andThen]
abbrev sib:PT:=.cons .str (.cons (.int .i64) (.cons .bool .nil))
theorem sib_flat {x:sib.den} {us:List Value} (h:FlatV sib x us):∃ b:ByteArray,us = [.string b,.int .i64 x.2.1,.bool x.2.2.1] ∧ b.data.toList = x.1:=by
 obtain ⟨u1,r1,rfl,⟨b,rfl,hb⟩,u2,r2,rfl,h2,u3,r3,rfl,h3,h4⟩:=h
 have h2:u2 = [.int .i64 x.2.1]:=h2
 have h3:u3 = [.bool x.2.2.1]:=h3
 have h4:r3 = []:=h4
 subst h2; subst h3; subst h4
 exact ⟨b,rfl,hb⟩
theorem eqok_sib {P:Program} {xt ts ti tb:TypeId} (hu:P.underlying xt = some (.struct (P.fieldsOf xt))) (hh:P.stoodInHeld xt = false) (hg:P.eqGuardType P.depth xt = false)
  (hf : (P.fieldsOf xt).toList.map (fun f => (f.type, f.offset, f.name == "_")) = [(ts, 0, false), (ti, 1, false), (tb, 2, false)])
  (us:P.underlying ts = some .string) (ui:P.underlying ti = some (.int .i64)) (ub:P.underlying tb = some .bool) (os:oneTy P ts = true) (oi:oneTy P ti = true) (ob:oneTy P tb = true):EqOk P xt sib:=by
 obtain ⟨f0,f1,f2,hl⟩:∃ f0 f1 f2,(P.fieldsOf xt).toList = [f0,f1,f2]:=by
  match hh:(P.fieldsOf xt).toList with
  | []=>rw [hh] at hf; cases hf
  | [_]=>rw [hh] at hf; simp at hf
  | [_,_]=>rw [hh] at hf; simp at hf
  | [a,b,c]=>exact ⟨a,b,c,rfl⟩
  | _ :: _ :: _ :: _ :: _=>rw [hh] at hf; simp at hf
 rw [hl] at hf
 simp only [List.map_cons,List.map_nil,List.cons.injEq,Prod.mk.injEq,beq_eq_false_iff_ne,and_true] at hf
 obtain ⟨⟨t0,o0,n0⟩,⟨t1,o1,n1⟩,t2,o2,n2⟩:=hf
 have key:∀ (x y:sib.den) (b c:ByteArray),b.data.toList = x.1 → c.data.toList = y.1 → ∀ w:World,(Op.equalIn 10000 xt (.agg #[.string b,.int .i64 x.2.1,.bool x.2.2.1]) (.agg #[.string c,.int .i64 y.2.1,.bool y.2.2.1])).run P w = .ok (PT.beq sib x y) w:=by
  intro x y b c hb hc w
  rw [run_equalIn_agg w 9999 xt _ _ hu hh,hl]
  have p0:∀ (u0 u1 u2:Value),(part ts #[u0,u1,u2] 0).run P w = .ok u0 w:=fun u0 u1 u2=>part_one os us (by simp) (by simp) w _ 0 u0 rfl
  have p1:∀ (u0 u1 u2:Value),(part ti #[u0,u1,u2] 1).run P w = .ok u1 w:=fun u0 u1 u2=>part_one oi ui (by simp) (by simp) w _ 1 u1 rfl
  have p2:∀ (u0 u1 u2:Value),(part tb #[u0,u1,u2] 2).run P w = .ok u2 w:=fun u0 u1 u2=>part_one ob ub (by simp) (by simp) w _ 2 u2 rfl
  have q0:(Op.equalIn 9999 ts (.string b) (.string c)).run P w = .ok (b.toList == c.toList) w:=run_equalIn_string w 9998 ts b c us
  have q1:∀ (u v:Int),(Op.equalIn 9999 ti (.int .i64 u) (.int .i64 v)).run P w = .ok (u == v) w:=fun u v=>run_equalIn_int w 9998 ti .i64 .i64 u v ui
  have q2:∀ (u v:Bool),(Op.equalIn 9999 tb (.bool u) (.bool v)).run P w = .ok (u == v) w:=fun u v=>run_equalIn_bool' w 9998 tb u v ub
  have hs:(b.toList == c.toList) = (x.1 == y.1):=by
   rw [ByteArray.toList_eq,ByteArray.toList_eq,hb,hc]
  simp only [Op.eqFields,n0,n1,n2,t0,t1,t2,o0,o1,o2,ne_eq,not_false_eq_true,if_true,Sem.run_bind,Sem.run_ite,Sem.run_pure]
  simp only [p0,p1,p2,q0,q1,q2,Result.andThen_ok,hs]
  have hbeq:PT.beq sib x y = ((x.1 == y.1) && ((x.2.1 == y.2.1) && ((x.2.2.1 == y.2.2.1) && true))):=rfl
  rw [hbeq]
  cases h0:(x.1 == y.1)
  ·simp
  ·simp only [p0,p1,p2,q0,q1,q2,Result.andThen_ok,Bool.not_true,Bool.false_eq_true,if_false]
   cases h1:(x.2.1 == y.2.1)
   ·simp
   ·simp only [p0,p1,p2,q0,q1,q2,Result.andThen_ok,Bool.not_true,Bool.false_eq_true,if_false]
    cases h2:(x.2.2.1 == y.2.2.1) <;> simp
 refine ⟨fun x y us vs hx hy w ox oy=>?_,fun x y us vs hx hy w ox oy=>?_⟩
 ·obtain ⟨b,rfl,hb⟩:=sib_flat hx
  obtain ⟨c,rfl,hc⟩:=sib_flat hy
  rw [Sem.run_bind,run_eqGuard_agg w _ _ _ _ _ _ hg,Result.andThen_ok,run_eql_struct,key x y b c hb hc]
  rfl
 ·obtain ⟨b,rfl,hb⟩:=sib_flat hx
  obtain ⟨c,rfl,hc⟩:=sib_flat hy
  rw [Sem.run_bind,run_eqGuard_agg w _ _ _ _ _ _ hg,Result.andThen_ok,run_neq_struct,key x y b c hb hc]
  rfl
end Go.Proofs.YtpifnlfmojfgpaaGreatDoor.Pw
end
section
set_option maxRecDepth 10000
set_option maxHeartbeats 4000000
namespace Go.Proofs.YtpifnlfmojfgpaaGreatDoor.Pk
open Fw Pw Ct
set_option synthInstance.maxHeartbeats 400000
set_option synthInstance.maxSize 1000
instance:DecidableEq Ct.Step:=(@instDecidableEqProd (Int) _ _ (@instDecidableEqProd (Int) _ _ (@instDecidableEqProd (Int) _ _ (@instDecidableEqProd (Int) _ _ (inferInstanceAs (DecidableEq (List Cell × Unit)))))))
instance:DecidableEq Ct.End:=inferInstanceAs (DecidableEq (Int × Int × List Cell × Unit))
instance:DecidableEq Ct.annT.den:=inferInstanceAs (DecidableEq (Str × List Cell × Unit))
instance:DecidableEq Ct.sepT.den:=inferInstanceAs (DecidableEq (Int × Int × List Int × List (List Int) × Unit))
instance:DecidableEq Ct.Map:=inferInstanceAs (DecidableEq (Pres × Int × List (List Int) × Unit))
instance:DecidableEq Ct.Strc:=(@instDecidableEqProd (Pres) _ _ (@instDecidableEqProd (Aut) _ _ (@instDecidableEqProd (List Aut) _ _ (@instDecidableEqProd (List Str) _ _ (@instDecidableEqProd (List Ct.Step) _ _ (inferInstanceAs (DecidableEq (List Ct.End × Unit))))))))
instance:DecidableEq Ct.Clm:=(@instDecidableEqProd (Int) _ _ (@instDecidableEqProd (Pres) _ _ (@instDecidableEqProd (Str) _ _ (@instDecidableEqProd (Str) _ _ (@instDecidableEqProd (Int) _ _ (@instDecidableEqProd (List Cell) _ _ (@instDecidableEqProd (Ct.annT.den) _ _ (@instDecidableEqProd (Ct.sepT.den) _ _ (@instDecidableEqProd (List Int) _ _ (@instDecidableEqProd (Ct.Map) _ _ (inferInstanceAs (DecidableEq (Ct.Strc × Unit)))))))))))))
noncomputable def a62:FAnn where
 loops:=fun | 4=>[.kv 0,.kv 1,.kv 2,.kv 14,.sl 15 (.pv (.int .i64))] | _=>[]
 sched:=fun | 6=>runS [(0,false),(1,false),(2,false),(3,false),(4,false),(5,false),(6,false),(7,false),(8,false),(9,true),(10,false)] .fin | _=>.fin
noncomputable def a63:FAnn:={}
noncomputable def a24:FAnn:={}
noncomputable def a68:FAnn where
 loops:=fun | 4=>[.kv 0,.kv 1,.kv 2,.kv 14,.sl 15 (.pv (.int .i64))] | _=>[]
 sched:=fun | 6=>runS [(0,false),(1,false),(2,false),(3,false),(4,false),(5,false),(6,false),(7,false),(8,false),(9,true),(10,false)] .fin | _=>.fin
noncomputable def a69:FAnn where
 loops:=fun | 4=>[.kv 0,.kv 1,.kv 2,.kv 14,.sl 15 (.pv (.int .i64))] | _=>[]
 sched:=fun | 6=>runS [(0,false),(1,false),(2,false),(3,false),(4,false),(5,false),(6,false),(7,false),(8,false),(9,true),(10,false)] .fin | _=>.fin
noncomputable def a70:FAnn:={}
noncomputable def a71:FAnn where
 loops:=fun | 4=>[.kv 0,.kv 1,.kv 2,.kv 14,.sl 15 (.pv (.int .i64))] | _=>[]
 sched:=fun | 6=>runS [(0,false),(1,false),(2,false),(3,false),(4,false),(5,false),(6,false),(7,false),(8,false),(9,true),(10,false)] .fin | _=>.fin
noncomputable def a72:FAnn:={}
noncomputable def a25:FAnn:={}
noncomputable def a26:FAnn:={}
noncomputable def a28:FAnn:={}
noncomputable def a29:FAnn:={}
noncomputable def a8:FAnn:={}
def sg62:Sig:=⟨[.pv tCs,.pv tCs,.fn 63 .nil],[.any,.any,.any],[bA]⟩
def sg63:Sig:=⟨[.pv cellT,.pv cellT],[.any,.any],[bA]⟩
def sg24:Sig:=⟨[.pv tCs,.pv tCs],[.any,.any],[bA]⟩
def sg68:Sig:=⟨[.pv (.lst autT),.pv (.lst autT),.fn 67 .nil],[.any,.any,.any],[bA]⟩
def sg69:Sig:=⟨[.pv (.lst Ct.stepT),.pv (.lst Ct.stepT),.fn 70 .nil],[.any,.any,.any],[bA]⟩
def sg70:Sig:=⟨[.pv Ct.stepT,.pv Ct.stepT],[.any,.any],[bA]⟩
def sg71:Sig:=⟨[.pv (.lst Ct.endT),.pv (.lst Ct.endT),.fn 72 .nil],[.any,.any,.any],[bA]⟩
def sg72:Sig:=⟨[.pv Ct.endT,.pv Ct.endT],[.any,.any],[bA]⟩
def sg25:Sig:=⟨[.pv annT,.pv annT],[.any,.any],[bA]⟩
def sg26:Sig:=⟨[.pv sepT,.pv sepT],[.any,.any],[bA]⟩
def sg28:Sig:=⟨[.pv mapT,.pv mapT],[.any,.any],[bA]⟩
def sg29:Sig:=⟨[.pv strT,.pv strT],[.any,.any],[bA]⟩
def sg8:Sig:=⟨[.pv claimT,.pv claimT],[.any,.any],[bA]⟩
theorem eqokCell:EqOk Tryz.prog 96 cellT:=eqok_sib (ts:=9) (ti:=3) (tb:=4) (by kernel_rfl) (by kernel_rfl) (by kernel_rfl) (by kernel_rfl) (by kernel_rfl) (by kernel_rfl) (by kernel_rfl) (by kernel_rfl) (by kernel_rfl) (by kernel_rfl)
theorem beq_cell (x y:Cell):PT.beq cellT x y = decide (x = y):=by
 obtain ⟨a,b,c,_⟩:=x
 obtain ⟨d,e,f,_⟩:=y
 rw [Bool.eq_iff_iff]
 simp [PT.beq]
theorem eq63_pc (x y:Cell):PC Tryz.prog 63 sg63 (x,y,()) (fun z _=>z.1 = decide (x = y)) (fun _=>False):=by
 refine PC.of a63 [] (by kernel_rfl) ?_
 refine And.intro eqokCell ?_
 exact beq_cell x y
theorem same62_pc (a b:List (Cell)) (hl:a.length ≤ NN):PC Tryz.prog 62 sg62 (a,b,(),()) (fun y _=>y.1 = decide (a = b)) (fun _=>False):=by
 refine PC.of a62 [(63,sg63)] (by kernel_rfl) ?_
 have hNN:a.length ≤ 20001:=hl
 refine LenL.mk fun _=>LenL.mk fun _=>?_
 refine BrP.mk' (fun h=>?_) (fun h=>?_)
 ·have h:((a.length:Int) != (b.length:Int)) = true:=h
  have h:=bne_iff_ne.1 h
  show false = decide (a = b)
  exact (decide_eq_false fun he=>h (by rw [he])).symm
 have h:((a.length:Int) != (b.length:Int)) = false:=h
 have hlen:(a.length:Int) = (b.length:Int):=by simpa using h
 have hlen:a.length = b.length:=by omega
 refine LenL.mk fun _=>?_
 refine SameV.mk rfl (SameV.mk rfl (SameV.mk rfl (SameV.mk rfl ?_)))
 refine LoopP.mk (fun x=>∃ i:Nat,x = ((i:Int),()) ∧ i ≤ a.length ∧ a.take i = b.take i) (fun x=>a.length - x.1.toNat) ⟨0,rfl,Nat.zero_le _,rfl⟩ ?_
 rintro x ⟨i,rfl,hi,ht⟩
 refine BrP.mk' (fun hc=>?_) (fun hc=>?_)
 ·have hc:(i:Int) < (a.length:Int):=of_decide_eq_true hc
  have h1:i < a.length:=by omega
  have h2:i < b.length:=by omega
  have hw:IntKind.wrap .i64 ((i:Int) + 1) = ((i + 1:Nat):Int):=Fw.wrap64 (by omega) (by omega)
  refine GetL.is i (x:=a[i]) rfl (List.getElem?_eq_getElem h1) (GetL.is i (x:=b[i]) rfl (List.getElem?_eq_getElem h2) ?_)
  refine CallP.mk _ _ (eq63_pc a[i] b[i]) ?_ (fun p h=>h.elim)
  rintro ⟨e,_⟩ z he
  have he:e = decide (a[i] = b[i]):=he
  refine BrP.mk' (fun hd=>?_) (fun hd=>?_)
  ·have hd:(!e) = true:=hd
   have hn:a[i] ≠ b[i]:=fun hq=>by rw [he,decide_eq_true hq] at hd; cases hd
   show false = decide (a = b)
   exact (decide_eq_false (ne_at h1 h2 hn)).symm
  ·have hd:(!e) = false:=hd
   have hq:a[i] = b[i]:=by
    have:e = true:=by cases e <;> first | rfl | cases hd
    rw [this] at he
    exact of_decide_eq_true he.symm
   refine SameV.mk rfl (SameV.mk rfl (SameV.mk rfl (SameV.mk rfl ?_)))
   refine And.intro (Exists.intro (i + 1) (And.intro ?_ ⟨h1,take_next h1 h2 ht hq⟩)) ?_
   ·rw [← hw]; rfl
   ·show a.length - (IntKind.wrap .i64 ((i:Int) + 1)).toNat < a.length - (i:Int).toNat
    rw [hw]; omega
 ·have hc:¬ (i:Int) < (a.length:Int):=of_decide_eq_false hc
  show true = decide (a = b)
  exact (decide_eq_true (take_all hlen (by omega) ht)).symm
theorem cells_pc' (x y:List Cell) (hx:x.length ≤ NN):PC Tryz.prog 24 sg24 (x,y,()) (fun z _=>z.1 = decide (x = y)) (fun _=>False):=by
 refine PC.of a24 [(62,sg62)] (by kernel_rfl) ?_
 refine CallP.mk _ _ (same62_pc x y hx) ?_ (fun p h=>h.elim)
 rintro ⟨b,_⟩ z hb
 exact hb
theorem step70_eq (a b:Ct.Step):decide (a = b) = ((a.1 == b.1) && ((a.2.1 == b.2.1) && ((a.2.2.1 == b.2.2.1) && ((a.2.2.2.1 == b.2.2.2.1) && (decide (a.2.2.2.2.1 = b.2.2.2.2.1)))))):=by
 obtain ⟨x0,x1,x2,x3,x4,_⟩:=a
 obtain ⟨y0,y1,y2,y3,y4,_⟩:=b
 rw [Bool.eq_iff_iff]; simp
theorem step70_pc (a b:Ct.Step) (ha:a.2.2.2.2.1.length ≤ NN):PC Tryz.prog 70 sg70 (a,b,()) (fun y _=>y.1 = decide (a = b)) (fun _=>False):=by
 refine PC.of a70 [(24,sg24)] (by kernel_rfl) ?_
 refine BrP.mk' (fun h=>?_) (fun h=>?_)
 rotate_left
 ·have h0:(a.1 == b.1) = false:=h
  show false = _
  rw [step70_eq,h0]; rfl
 have h0:(a.1 == b.1) = true:=h
 refine BrP.mk' (fun h=>?_) (fun h=>?_)
 rotate_left
 ·have h1:(a.2.1 == b.2.1) = false:=h
  show false = _
  rw [step70_eq,h0,h1]; rfl
 have h1:(a.2.1 == b.2.1) = true:=h
 refine BrP.mk' (fun h=>?_) (fun h=>?_)
 rotate_left
 ·have h2:(a.2.2.1 == b.2.2.1) = false:=h
  show false = _
  rw [step70_eq,h0,h1,h2]; rfl
 have h2:(a.2.2.1 == b.2.2.1) = true:=h
 refine BrP.mk' (fun h=>?_) (fun h=>?_)
 rotate_left
 ·have h3:(a.2.2.2.1 == b.2.2.2.1) = false:=h
  show false = _
  rw [step70_eq,h0,h1,h2,h3]; rfl
 have h3:(a.2.2.2.1 == b.2.2.2.1) = true:=h
 refine CallP.mk _ _ (cells_pc' a.2.2.2.2.1 b.2.2.2.2.1 ha) ?_ (fun p h=>h.elim)
 rintro ⟨e4,_⟩ z he4
 have he4:e4 = decide (a.2.2.2.2.1 = b.2.2.2.2.1):=he4
 show e4 = _
 rw [step70_eq,h0,h1,h2,h3,he4]; rfl
theorem end72_eq (a b:Ct.End):decide (a = b) = ((a.1 == b.1) && ((a.2.1 == b.2.1) && (decide (a.2.2.1 = b.2.2.1)))):=by
 obtain ⟨x0,x1,x2,_⟩:=a
 obtain ⟨y0,y1,y2,_⟩:=b
 rw [Bool.eq_iff_iff]; simp
theorem end72_pc (a b:Ct.End) (ha:a.2.2.1.length ≤ NN):PC Tryz.prog 72 sg72 (a,b,()) (fun y _=>y.1 = decide (a = b)) (fun _=>False):=by
 refine PC.of a72 [(24,sg24)] (by kernel_rfl) ?_
 refine BrP.mk' (fun h=>?_) (fun h=>?_)
 rotate_left
 ·have h0:(a.1 == b.1) = false:=h
  show false = _
  rw [end72_eq,h0]; rfl
 have h0:(a.1 == b.1) = true:=h
 refine BrP.mk' (fun h=>?_) (fun h=>?_)
 rotate_left
 ·have h1:(a.2.1 == b.2.1) = false:=h
  show false = _
  rw [end72_eq,h0,h1]; rfl
 have h1:(a.2.1 == b.2.1) = true:=h
 refine CallP.mk _ _ (cells_pc' a.2.2.1 b.2.2.1 ha) ?_ (fun p h=>h.elim)
 rintro ⟨e2,_⟩ z he2
 have he2:e2 = decide (a.2.2.1 = b.2.2.1):=he2
 show e2 = _
 rw [end72_eq,h0,h1,he2]; rfl
theorem same68_pc (a b:List (Aut)) (hl:a.length ≤ NN) (hall:∀ x ∈ a,Lim NN autT x):PC Tryz.prog 68 sg68 (a,b,(),()) (fun y _=>y.1 = decide (a = b)) (fun _=>False):=by
 refine PC.of a68 [(67,sg67)] (by kernel_rfl) ?_
 have hNN:a.length ≤ 20001:=hl
 refine LenL.mk fun _=>LenL.mk fun _=>?_
 refine BrP.mk' (fun h=>?_) (fun h=>?_)
 ·have h:((a.length:Int) != (b.length:Int)) = true:=h
  have h:=bne_iff_ne.1 h
  show false = decide (a = b)
  exact (decide_eq_false fun he=>h (by rw [he])).symm
 have h:((a.length:Int) != (b.length:Int)) = false:=h
 have hlen:(a.length:Int) = (b.length:Int):=by simpa using h
 have hlen:a.length = b.length:=by omega
 refine LenL.mk fun _=>?_
 refine SameV.mk rfl (SameV.mk rfl (SameV.mk rfl (SameV.mk rfl ?_)))
 refine LoopP.mk (fun x=>∃ i:Nat,x = ((i:Int),()) ∧ i ≤ a.length ∧ a.take i = b.take i) (fun x=>a.length - x.1.toNat) ⟨0,rfl,Nat.zero_le _,rfl⟩ ?_
 rintro x ⟨i,rfl,hi,ht⟩
 refine BrP.mk' (fun hc=>?_) (fun hc=>?_)
 ·have hc:(i:Int) < (a.length:Int):=of_decide_eq_true hc
  have h1:i < a.length:=by omega
  have h2:i < b.length:=by omega
  have hw:IntKind.wrap .i64 ((i:Int) + 1) = ((i + 1:Nat):Int):=Fw.wrap64 (by omega) (by omega)
  refine GetL.is i (x:=a[i]) rfl (List.getElem?_eq_getElem h1) (GetL.is i (x:=b[i]) rfl (List.getElem?_eq_getElem h2) ?_)
  refine CallP.mk _ _ (sameAut_pc a[i] b[i] (hall _ (List.getElem_mem h1))) ?_ (fun p h=>h.elim)
  rintro ⟨e,_⟩ z he
  have he:e = decide (a[i] = b[i]):=he
  refine BrP.mk' (fun hd=>?_) (fun hd=>?_)
  ·have hd:(!e) = true:=hd
   have hn:a[i] ≠ b[i]:=fun hq=>by rw [he,decide_eq_true hq] at hd; cases hd
   show false = decide (a = b)
   exact (decide_eq_false (ne_at h1 h2 hn)).symm
  ·have hd:(!e) = false:=hd
   have hq:a[i] = b[i]:=by
    have:e = true:=by cases e <;> first | rfl | cases hd
    rw [this] at he
    exact of_decide_eq_true he.symm
   refine SameV.mk rfl (SameV.mk rfl (SameV.mk rfl (SameV.mk rfl ?_)))
   refine And.intro (Exists.intro (i + 1) (And.intro ?_ ⟨h1,take_next h1 h2 ht hq⟩)) ?_
   ·rw [← hw]; rfl
   ·show a.length - (IntKind.wrap .i64 ((i:Int) + 1)).toNat < a.length - (i:Int).toNat
    rw [hw]; omega
 ·have hc:¬ (i:Int) < (a.length:Int):=of_decide_eq_false hc
  show true = decide (a = b)
  exact (decide_eq_true (take_all hlen (by omega) ht)).symm
theorem same69_pc (a b:List (Ct.Step)) (hl:a.length ≤ NN) (hall:∀ x ∈ a,x.2.2.2.2.1.length ≤ NN):PC Tryz.prog 69 sg69 (a,b,(),()) (fun y _=>y.1 = decide (a = b)) (fun _=>False):=by
 refine PC.of a69 [(70,sg70)] (by kernel_rfl) ?_
 have hNN:a.length ≤ 20001:=hl
 refine LenL.mk fun _=>LenL.mk fun _=>?_
 refine BrP.mk' (fun h=>?_) (fun h=>?_)
 ·have h:((a.length:Int) != (b.length:Int)) = true:=h
  have h:=bne_iff_ne.1 h
  show false = decide (a = b)
  exact (decide_eq_false fun he=>h (by rw [he])).symm
 have h:((a.length:Int) != (b.length:Int)) = false:=h
 have hlen:(a.length:Int) = (b.length:Int):=by simpa using h
 have hlen:a.length = b.length:=by omega
 refine LenL.mk fun _=>?_
 refine SameV.mk rfl (SameV.mk rfl (SameV.mk rfl (SameV.mk rfl ?_)))
 refine LoopP.mk (fun x=>∃ i:Nat,x = ((i:Int),()) ∧ i ≤ a.length ∧ a.take i = b.take i) (fun x=>a.length - x.1.toNat) ⟨0,rfl,Nat.zero_le _,rfl⟩ ?_
 rintro x ⟨i,rfl,hi,ht⟩
 refine BrP.mk' (fun hc=>?_) (fun hc=>?_)
 ·have hc:(i:Int) < (a.length:Int):=of_decide_eq_true hc
  have h1:i < a.length:=by omega
  have h2:i < b.length:=by omega
  have hw:IntKind.wrap .i64 ((i:Int) + 1) = ((i + 1:Nat):Int):=Fw.wrap64 (by omega) (by omega)
  refine GetL.is i (x:=a[i]) rfl (List.getElem?_eq_getElem h1) (GetL.is i (x:=b[i]) rfl (List.getElem?_eq_getElem h2) ?_)
  refine CallP.mk _ _ (step70_pc a[i] b[i] (hall _ (List.getElem_mem h1))) ?_ (fun p h=>h.elim)
  rintro ⟨e,_⟩ z he
  have he:e = decide (a[i] = b[i]):=he
  refine BrP.mk' (fun hd=>?_) (fun hd=>?_)
  ·have hd:(!e) = true:=hd
   have hn:a[i] ≠ b[i]:=fun hq=>by rw [he,decide_eq_true hq] at hd; cases hd
   show false = decide (a = b)
   exact (decide_eq_false (ne_at h1 h2 hn)).symm
  ·have hd:(!e) = false:=hd
   have hq:a[i] = b[i]:=by
    have:e = true:=by cases e <;> first | rfl | cases hd
    rw [this] at he
    exact of_decide_eq_true he.symm
   refine SameV.mk rfl (SameV.mk rfl (SameV.mk rfl (SameV.mk rfl ?_)))
   refine And.intro (Exists.intro (i + 1) (And.intro ?_ ⟨h1,take_next h1 h2 ht hq⟩)) ?_
   ·rw [← hw]; rfl
   ·show a.length - (IntKind.wrap .i64 ((i:Int) + 1)).toNat < a.length - (i:Int).toNat
    rw [hw]; omega
 ·have hc:¬ (i:Int) < (a.length:Int):=of_decide_eq_false hc
  show true = decide (a = b)
  exact (decide_eq_true (take_all hlen (by omega) ht)).symm
theorem same71_pc (a b:List (Ct.End)) (hl:a.length ≤ NN) (hall:∀ x ∈ a,x.2.2.1.length ≤ NN):PC Tryz.prog 71 sg71 (a,b,(),()) (fun y _=>y.1 = decide (a = b)) (fun _=>False):=by
 refine PC.of a71 [(72,sg72)] (by kernel_rfl) ?_
 have hNN:a.length ≤ 20001:=hl
 refine LenL.mk fun _=>LenL.mk fun _=>?_
 refine BrP.mk' (fun h=>?_) (fun h=>?_)
 ·have h:((a.length:Int) != (b.length:Int)) = true:=h
  have h:=bne_iff_ne.1 h
  show false = decide (a = b)
  exact (decide_eq_false fun he=>h (by rw [he])).symm
 have h:((a.length:Int) != (b.length:Int)) = false:=h
 have hlen:(a.length:Int) = (b.length:Int):=by simpa using h
 have hlen:a.length = b.length:=by omega
 refine LenL.mk fun _=>?_
 refine SameV.mk rfl (SameV.mk rfl (SameV.mk rfl (SameV.mk rfl ?_)))
 refine LoopP.mk (fun x=>∃ i:Nat,x = ((i:Int),()) ∧ i ≤ a.length ∧ a.take i = b.take i) (fun x=>a.length - x.1.toNat) ⟨0,rfl,Nat.zero_le _,rfl⟩ ?_
 rintro x ⟨i,rfl,hi,ht⟩
 refine BrP.mk' (fun hc=>?_) (fun hc=>?_)
 ·have hc:(i:Int) < (a.length:Int):=of_decide_eq_true hc
  have h1:i < a.length:=by omega
  have h2:i < b.length:=by omega
  have hw:IntKind.wrap .i64 ((i:Int) + 1) = ((i + 1:Nat):Int):=Fw.wrap64 (by omega) (by omega)
  refine GetL.is i (x:=a[i]) rfl (List.getElem?_eq_getElem h1) (GetL.is i (x:=b[i]) rfl (List.getElem?_eq_getElem h2) ?_)
  refine CallP.mk _ _ (end72_pc a[i] b[i] (hall _ (List.getElem_mem h1))) ?_ (fun p h=>h.elim)
  rintro ⟨e,_⟩ z he
  have he:e = decide (a[i] = b[i]):=he
  refine BrP.mk' (fun hd=>?_) (fun hd=>?_)
  ·have hd:(!e) = true:=hd
   have hn:a[i] ≠ b[i]:=fun hq=>by rw [he,decide_eq_true hq] at hd; cases hd
   show false = decide (a = b)
   exact (decide_eq_false (ne_at h1 h2 hn)).symm
  ·have hd:(!e) = false:=hd
   have hq:a[i] = b[i]:=by
    have:e = true:=by cases e <;> first | rfl | cases hd
    rw [this] at he
    exact of_decide_eq_true he.symm
   refine SameV.mk rfl (SameV.mk rfl (SameV.mk rfl (SameV.mk rfl ?_)))
   refine And.intro (Exists.intro (i + 1) (And.intro ?_ ⟨h1,take_next h1 h2 ht hq⟩)) ?_
   ·rw [← hw]; rfl
   ·show a.length - (IntKind.wrap .i64 ((i:Int) + 1)).toNat < a.length - (i:Int).toNat
    rw [hw]; omega
 ·have hc:¬ (i:Int) < (a.length:Int):=of_decide_eq_false hc
  show true = decide (a = b)
  exact (decide_eq_true (take_all hlen (by omega) ht)).symm
theorem ann25_eq (a b:annT.den):decide (a = b) = ((a.1 == b.1) && (decide (a.2.1 = b.2.1))):=by
 obtain ⟨x0,x1,_⟩:=a
 obtain ⟨y0,y1,_⟩:=b
 rw [Bool.eq_iff_iff]; simp
theorem ann25_pc (a b:annT.den) (ha:a.2.1.length ≤ NN):PC Tryz.prog 25 sg25 (a,b,()) (fun y _=>y.1 = decide (a = b)) (fun _=>False):=by
 refine PC.of a25 [(24,sg24)] (by kernel_rfl) ?_
 refine BrP.mk' (fun h=>?_) (fun h=>?_)
 rotate_left
 ·have h0:(a.1 == b.1) = false:=h
  show false = _
  rw [ann25_eq,h0]; rfl
 have h0:(a.1 == b.1) = true:=h
 refine CallP.mk _ _ (cells_pc' a.2.1 b.2.1 ha) ?_ (fun p h=>h.elim)
 rintro ⟨e1,_⟩ z he1
 have he1:e1 = decide (a.2.1 = b.2.1):=he1
 show e1 = _
 rw [ann25_eq,h0,he1]; rfl
theorem sep26_eq (a b:sepT.den):decide (a = b) = ((a.1 == b.1) && ((a.2.1 == b.2.1) && ((decide (a.2.2.1 = b.2.2.1)) && (decide (a.2.2.2.1 = b.2.2.2.1))))):=by
 obtain ⟨x0,x1,x2,x3,_⟩:=a
 obtain ⟨y0,y1,y2,y3,_⟩:=b
 rw [Bool.eq_iff_iff]; simp
theorem sep26_pc (a b:sepT.den) (ha:Lim NN sepT a):PC Tryz.prog 26 sg26 (a,b,()) (fun y _=>y.1 = decide (a = b)) (fun _=>False):=by
 refine PC.of a26 [(27,sg27),(64,sg64)] (by kernel_rfl) ?_
 refine BrP.mk' (fun h=>?_) (fun h=>?_)
 rotate_left
 ·have h0:(a.1 == b.1) = false:=h
  show false = _
  rw [sep26_eq,h0]; rfl
 have h0:(a.1 == b.1) = true:=h
 refine BrP.mk' (fun h=>?_) (fun h=>?_)
 rotate_left
 ·have h1:(a.2.1 == b.2.1) = false:=h
  show false = _
  rw [sep26_eq,h0,h1]; rfl
 have h1:(a.2.1 == b.2.1) = true:=h
 refine CallP.mk _ _ (ints_pc a.2.2.1 b.2.2.1 ha.2.2.1.1) ?_ (fun p h=>h.elim)
 rintro ⟨e2,_⟩ z he2
 have he2:e2 = decide (a.2.2.1 = b.2.2.1):=he2
 refine BrP.mk' (fun h=>?_) (fun h=>?_)
 rotate_left
 ·have h2:e2 = false:=h
  show false = _
  rw [he2] at h2
  rw [sep26_eq,h0,h1,h2]; rfl
 have h2:e2 = true:=h
 rw [he2] at h2
 refine CallP.mk _ _ (same64_pc a.2.2.2.1 b.2.2.2.1 ha.2.2.2.1.1 (fun r hr=>(ha.2.2.2.1.2 r hr).1)) ?_ (fun p h=>h.elim)
 rintro ⟨e3,_⟩ z he3
 have he3:e3 = decide (a.2.2.2.1 = b.2.2.2.1):=he3
 show e3 = _
 rw [sep26_eq,h0,h1,h2,he3]; rfl
theorem map28_eq (a b:Map):decide (a = b) = ((decide (a.1 = b.1)) && ((a.2.1 == b.2.1) && (decide (a.2.2.1 = b.2.2.1)))):=by
 obtain ⟨x0,x1,x2,_⟩:=a
 obtain ⟨y0,y1,y2,_⟩:=b
 rw [Bool.eq_iff_iff]; simp
theorem map28_pc (a b:Map) (ha:Lim NN mapT a):PC Tryz.prog 28 sg28 (a,b,()) (fun y _=>y.1 = decide (a = b)) (fun _=>False):=by
 refine PC.of a28 [(23,sg23),(64,sg64)] (by kernel_rfl) ?_
 refine CallP.mk _ _ (samePres_pc a.1 b.1 ha.1.2.1.1) ?_ (fun p h=>h.elim)
 rintro ⟨e0,_⟩ z he0
 have he0:e0 = decide (a.1 = b.1):=he0
 refine BrP.mk' (fun h=>?_) (fun h=>?_)
 rotate_left
 ·have h0:e0 = false:=h
  show false = _
  rw [he0] at h0
  rw [map28_eq,h0]; rfl
 have h0:e0 = true:=h
 rw [he0] at h0
 refine BrP.mk' (fun h=>?_) (fun h=>?_)
 rotate_left
 ·have h1:(a.2.1 == b.2.1) = false:=h
  show false = _
  rw [map28_eq,h0,h1]; rfl
 have h1:(a.2.1 == b.2.1) = true:=h
 refine CallP.mk _ _ (same64_pc a.2.2.1 b.2.2.1 ha.2.2.1.1 (fun r hr=>(ha.2.2.1.2 r hr).1)) ?_ (fun p h=>h.elim)
 rintro ⟨e2,_⟩ z he2
 have he2:e2 = decide (a.2.2.1 = b.2.2.1):=he2
 show e2 = _
 rw [map28_eq,h0,h1,he2]; rfl
theorem str29_eq (a b:Strc):decide (a = b) = ((decide (a.1 = b.1)) && ((decide (a.2.1 = b.2.1)) && ((decide (a.2.2.1 = b.2.2.1)) && ((decide (a.2.2.2.1 = b.2.2.2.1)) && ((decide (a.2.2.2.2.1 = b.2.2.2.2.1)) && (decide (a.2.2.2.2.2.1 = b.2.2.2.2.2.1))))))):=by
 obtain ⟨x0,x1,x2,x3,x4,x5,_⟩:=a
 obtain ⟨y0,y1,y2,y3,y4,y5,_⟩:=b
 rw [Bool.eq_iff_iff]; simp
theorem str29_pc (a b:Strc) (ha:Lim NN strT a):PC Tryz.prog 29 sg29 (a,b,()) (fun y _=>y.1 = decide (a = b)) (fun _=>False):=by
 refine PC.of a29 [(23,sg23),(67,sg67),(68,sg68),(60,sg60),(69,sg69),(71,sg71)] (by kernel_rfl) ?_
 refine CallP.mk _ _ (samePres_pc a.1 b.1 ha.1.2.1.1) ?_ (fun p h=>h.elim)
 rintro ⟨e0,_⟩ z he0
 have he0:e0 = decide (a.1 = b.1):=he0
 refine BrP.mk' (fun h=>?_) (fun h=>?_)
 rotate_left
 ·have h0:e0 = false:=h
  show false = _
  rw [he0] at h0
  rw [str29_eq,h0]; rfl
 have h0:e0 = true:=h
 rw [he0] at h0
 refine CallP.mk _ _ (sameAut_pc a.2.1 b.2.1 ha.2.1) ?_ (fun p h=>h.elim)
 rintro ⟨e1,_⟩ z he1
 have he1:e1 = decide (a.2.1 = b.2.1):=he1
 refine BrP.mk' (fun h=>?_) (fun h=>?_)
 rotate_left
 ·have h1:e1 = false:=h
  show false = _
  rw [he1] at h1
  rw [str29_eq,h0,h1]; rfl
 have h1:e1 = true:=h
 rw [he1] at h1
 refine CallP.mk _ _ (same68_pc a.2.2.1 b.2.2.1 ha.2.2.1.1 ha.2.2.1.2) ?_ (fun p h=>h.elim)
 rintro ⟨e2,_⟩ z he2
 have he2:e2 = decide (a.2.2.1 = b.2.2.1):=he2
 refine BrP.mk' (fun h=>?_) (fun h=>?_)
 rotate_left
 ·have h2:e2 = false:=h
  show false = _
  rw [he2] at h2
  rw [str29_eq,h0,h1,h2]; rfl
 have h2:e2 = true:=h
 rw [he2] at h2
 refine CallP.mk _ _ (same60_pc a.2.2.2.1 b.2.2.2.1 ha.2.2.2.1.1) ?_ (fun p h=>h.elim)
 rintro ⟨e3,_⟩ z he3
 have he3:e3 = decide (a.2.2.2.1 = b.2.2.2.1):=he3
 refine BrP.mk' (fun h=>?_) (fun h=>?_)
 rotate_left
 ·have h3:e3 = false:=h
  show false = _
  rw [he3] at h3
  rw [str29_eq,h0,h1,h2,h3]; rfl
 have h3:e3 = true:=h
 rw [he3] at h3
 refine CallP.mk _ _ (same69_pc a.2.2.2.2.1 b.2.2.2.2.1 ha.2.2.2.2.1.1 (fun r hr=>(ha.2.2.2.2.1.2 r hr).2.2.2.2.1.1)) ?_ (fun p h=>h.elim)
 rintro ⟨e4,_⟩ z he4
 have he4:e4 = decide (a.2.2.2.2.1 = b.2.2.2.2.1):=he4
 refine BrP.mk' (fun h=>?_) (fun h=>?_)
 rotate_left
 ·have h4:e4 = false:=h
  show false = _
  rw [he4] at h4
  rw [str29_eq,h0,h1,h2,h3,h4]; rfl
 have h4:e4 = true:=h
 rw [he4] at h4
 refine CallP.mk _ _ (same71_pc a.2.2.2.2.2.1 b.2.2.2.2.2.1 ha.2.2.2.2.2.1.1 (fun r hr=>(ha.2.2.2.2.2.1.2 r hr).2.2.1.1)) ?_ (fun p h=>h.elim)
 rintro ⟨e5,_⟩ z he5
 have he5:e5 = decide (a.2.2.2.2.2.1 = b.2.2.2.2.2.1):=he5
 show e5 = _
 rw [str29_eq,h0,h1,h2,h3,h4,he5]; rfl
theorem clm8_eq (a b:Clm):decide (a = b) = ((a.1 == b.1) && ((decide (a.2.1 = b.2.1)) && ((a.2.2.1 == b.2.2.1) && ((a.2.2.2.1 == b.2.2.2.1) && ((a.2.2.2.2.1 == b.2.2.2.2.1) && ((decide (a.2.2.2.2.2.1 = b.2.2.2.2.2.1)) && ((decide (a.2.2.2.2.2.2.1 = b.2.2.2.2.2.2.1)) && ((decide (a.2.2.2.2.2.2.2.1 = b.2.2.2.2.2.2.2.1)) && ((decide (a.2.2.2.2.2.2.2.2.1 = b.2.2.2.2.2.2.2.2.1)) && ((decide (a.2.2.2.2.2.2.2.2.2.1 = b.2.2.2.2.2.2.2.2.2.1)) && (decide (a.2.2.2.2.2.2.2.2.2.2.1 = b.2.2.2.2.2.2.2.2.2.2.1)))))))))))):=by
 obtain ⟨x0,x1,x2,x3,x4,x5,x6,x7,x8,x9,x10,_⟩:=a
 obtain ⟨y0,y1,y2,y3,y4,y5,y6,y7,y8,y9,y10,_⟩:=b
 rw [Bool.eq_iff_iff]; simp
theorem clm8_pc (a b:Clm) (ha:Lim NN claimT a):PC Tryz.prog 8 sg8 (a,b,()) (fun y _=>y.1 = decide (a = b)) (fun _=>False):=by
 refine PC.of a8 [(23,sg23),(24,sg24),(25,sg25),(26,sg26),(27,sg27),(28,sg28),(29,sg29)] (by kernel_rfl) ?_
 refine BrP.mk' (fun h=>?_) (fun h=>?_)
 rotate_left
 ·have h0:(a.1 == b.1) = false:=h
  show false = _
  rw [clm8_eq,h0]; rfl
 have h0:(a.1 == b.1) = true:=h
 refine CallP.mk _ _ (samePres_pc a.2.1 b.2.1 ha.2.1.2.1.1) ?_ (fun p h=>h.elim)
 rintro ⟨e1,_⟩ z he1
 have he1:e1 = decide (a.2.1 = b.2.1):=he1
 refine BrP.mk' (fun h=>?_) (fun h=>?_)
 rotate_left
 ·have h1:e1 = false:=h
  show false = _
  rw [he1] at h1
  rw [clm8_eq,h0,h1]; rfl
 have h1:e1 = true:=h
 rw [he1] at h1
 refine BrP.mk' (fun h=>?_) (fun h=>?_)
 rotate_left
 ·have h2:(a.2.2.1 == b.2.2.1) = false:=h
  show false = _
  rw [clm8_eq,h0,h1,h2]; rfl
 have h2:(a.2.2.1 == b.2.2.1) = true:=h
 refine BrP.mk' (fun h=>?_) (fun h=>?_)
 rotate_left
 ·have h3:(a.2.2.2.1 == b.2.2.2.1) = false:=h
  show false = _
  rw [clm8_eq,h0,h1,h2,h3]; rfl
 have h3:(a.2.2.2.1 == b.2.2.2.1) = true:=h
 refine BrP.mk' (fun h=>?_) (fun h=>?_)
 rotate_left
 ·have h4:(a.2.2.2.2.1 == b.2.2.2.2.1) = false:=h
  show false = _
  rw [clm8_eq,h0,h1,h2,h3,h4]; rfl
 have h4:(a.2.2.2.2.1 == b.2.2.2.2.1) = true:=h
 refine CallP.mk _ _ (cells_pc' a.2.2.2.2.2.1 b.2.2.2.2.2.1 ha.2.2.2.2.2.1.1) ?_ (fun p h=>h.elim)
 rintro ⟨e5,_⟩ z he5
 have he5:e5 = decide (a.2.2.2.2.2.1 = b.2.2.2.2.2.1):=he5
 refine BrP.mk' (fun h=>?_) (fun h=>?_)
 rotate_left
 ·have h5:e5 = false:=h
  show false = _
  rw [he5] at h5
  rw [clm8_eq,h0,h1,h2,h3,h4,h5]; rfl
 have h5:e5 = true:=h
 rw [he5] at h5
 refine CallP.mk _ _ (ann25_pc a.2.2.2.2.2.2.1 b.2.2.2.2.2.2.1 ha.2.2.2.2.2.2.1.2.1.1) ?_ (fun p h=>h.elim)
 rintro ⟨e6,_⟩ z he6
 have he6:e6 = decide (a.2.2.2.2.2.2.1 = b.2.2.2.2.2.2.1):=he6
 refine BrP.mk' (fun h=>?_) (fun h=>?_)
 rotate_left
 ·have h6:e6 = false:=h
  show false = _
  rw [he6] at h6
  rw [clm8_eq,h0,h1,h2,h3,h4,h5,h6]; rfl
 have h6:e6 = true:=h
 rw [he6] at h6
 refine CallP.mk _ _ (sep26_pc a.2.2.2.2.2.2.2.1 b.2.2.2.2.2.2.2.1 ha.2.2.2.2.2.2.2.1) ?_ (fun p h=>h.elim)
 rintro ⟨e7,_⟩ z he7
 have he7:e7 = decide (a.2.2.2.2.2.2.2.1 = b.2.2.2.2.2.2.2.1):=he7
 refine BrP.mk' (fun h=>?_) (fun h=>?_)
 rotate_left
 ·have h7:e7 = false:=h
  show false = _
  rw [he7] at h7
  rw [clm8_eq,h0,h1,h2,h3,h4,h5,h6,h7]; rfl
 have h7:e7 = true:=h
 rw [he7] at h7
 refine CallP.mk _ _ (ints_pc a.2.2.2.2.2.2.2.2.1 b.2.2.2.2.2.2.2.2.1 ha.2.2.2.2.2.2.2.2.1.1) ?_ (fun p h=>h.elim)
 rintro ⟨e8,_⟩ z he8
 have he8:e8 = decide (a.2.2.2.2.2.2.2.2.1 = b.2.2.2.2.2.2.2.2.1):=he8
 refine BrP.mk' (fun h=>?_) (fun h=>?_)
 rotate_left
 ·have h8:e8 = false:=h
  show false = _
  rw [he8] at h8
  rw [clm8_eq,h0,h1,h2,h3,h4,h5,h6,h7,h8]; rfl
 have h8:e8 = true:=h
 rw [he8] at h8
 refine CallP.mk _ _ (map28_pc a.2.2.2.2.2.2.2.2.2.1 b.2.2.2.2.2.2.2.2.2.1 ha.2.2.2.2.2.2.2.2.2.1) ?_ (fun p h=>h.elim)
 rintro ⟨e9,_⟩ z he9
 have he9:e9 = decide (a.2.2.2.2.2.2.2.2.2.1 = b.2.2.2.2.2.2.2.2.2.1):=he9
 refine BrP.mk' (fun h=>?_) (fun h=>?_)
 rotate_left
 ·have h9:e9 = false:=h
  show false = _
  rw [he9] at h9
  rw [clm8_eq,h0,h1,h2,h3,h4,h5,h6,h7,h8,h9]; rfl
 have h9:e9 = true:=h
 rw [he9] at h9
 refine CallP.mk _ _ (str29_pc a.2.2.2.2.2.2.2.2.2.2.1 b.2.2.2.2.2.2.2.2.2.2.1 ha.2.2.2.2.2.2.2.2.2.2.1) ?_ (fun p h=>h.elim)
 rintro ⟨e10,_⟩ z he10
 have he10:e10 = decide (a.2.2.2.2.2.2.2.2.2.2.1 = b.2.2.2.2.2.2.2.2.2.2.1):=he10
 show e10 = _
 rw [clm8_eq,h0,h1,h2,h3,h4,h5,h6,h7,h8,h9,he10]; rfl
end Go.Proofs.YtpifnlfmojfgpaaGreatDoor.Pk
end
section
set_option maxRecDepth 10000
namespace Go.Proofs.YtpifnlfmojfgpaaGreatDoor.Wd
open Fw
abbrev tI:Ty:=.sc (.int .i64)
def lets:List Int:=[97,65,98,66,99,67,100,68,101,69,102,70,103,71,104,72]
def Laid (w:World):Prop:=∃ t fr,w.heap[0]? = some (.cells (lets.map (Value.int .u8)).toArray t fr)
theorem laid_of {w:World} (h:Pw.GOk w):Laid w:=by
 obtain ⟨cs,t,fr,h1,h2⟩:=h.tab 0 _ rfl
 exact ⟨t,fr,by rw [h1,h2]; rfl⟩
theorem Laid.chg {S:Nat → Prop} {w w':World} (h:Laid w) (hc:Chg S w w') (hs:¬ S 0):Laid w':=by
 obtain ⟨t,fr,h⟩:=h; exact ⟨t,fr,hc.heap h hs⟩
theorem Laid.nil {w w':World} (h:Laid w) (hc:Chg Nil w w'):Laid w':=h.chg hc fun h=>h
def idxFrom (c:Int):Nat → List Int → Int
 | _,[]=>-1
 | i,d :: l=>if d = c then (i:Int) else idxFrom c (i + 1) l
def idxF (c:Int):Int:=idxFrom c 0 lets
abbrev lts:dens [.int .u8,.int .u8,.int .u8,.int .u8,.int .u8,.int .u8,.int .u8,.int .u8,.int .u8,.int .u8,.int .u8,.int .u8,.int .u8,.int .u8,.int .u8,.int .u8]:=
 ((97:Int),(65:Int),(98:Int),(66:Int),(99:Int),(67:Int),(100:Int),(68:Int),(101:Int),(69:Int),(102:Int),(70:Int),(103:Int),(71:Int),(104:Int),(72:Int),())
theorem under183:Tryz.prog.underlying 183 = some (.array 16 5):=by kernel_rfl
theorem under5:Tryz.prog.underlying 5 = some (.int .u8):=by kernel_rfl
theorem info5:(Tryz.prog.info? 5).map (·.size) = some 1:=by kernel_rfl
theorem index_lets (w:World) (i:Nat) (c:Int) (hc:lets[i]? = some c) :
  (Instr.index 183 (.agg (lets.map (Value.int .u8)).toArray) (.int .i64 (i:Int))).run Tryz.prog w = .ok (.int .u8 c) w:=by
 have hl:i < 16:=(List.getElem?_eq_some_iff.1 hc).1
 obtain ⟨inf,hi,hsz⟩:=Option.map_eq_some_iff.1 info5
 have hsize:(sizeOf 5).run Tryz.prog w = .ok 1 w:=by simp [sizeOf,typeInfo,hi,hsz]
 have hpart:(part 5 (lets.map (Value.int .u8)).toArray i).run Tryz.prog w = .ok (.int .u8 c) w:=by
  unfold part
  simp [isAgg,run_underlying under5,hc]
 simp [Instr.index,asIntOf,run_underlying under183,hsize,hl,hpart]
theorem idxFrom_step {c:Int} {i:Nat} {l:List Int} {d:Int} (h:l[0]? = some d):idxFrom c i l = if d = c then (i:Int) else idxFrom c (i + 1) (l.drop 1):=by
 cases l with
 | nil=>simp at h
 | cons x l=>simp at h; subst h; simp [idxFrom]
theorem index_ret {w:World} (h:Laid w) (c:Int):Ret Tryz.prog 116 #[.int .u8 c] tI w fun x w'=>x = idxF c ∧ Chg Nil w w':=by
 refine word_Index.calls _ ?_
 unfold word_Index.sh
 refine LoadT.mk (.agg [.int .u8,.int .u8,.int .u8,.int .u8,.int .u8,.int .u8,.int .u8,.int .u8,.int .u8,.int .u8,.int .u8,.int .u8,.int .u8,.int .u8,.int .u8,.int .u8]) (x:=lts) (fun j v hv=>?_) ?_
 ·obtain ⟨t,fr,h⟩:=h
  rw [cellOf h]; simpa [Ty.cells,lets] using hv
 refine LoopT.mk (fun x w'=>∃ i:Nat,i ≤ 16 ∧ x = (c,lts,(i:Int),()) ∧ Chg Nil w w' ∧ idxFrom c i (lets.drop i) = idxF c) (fun x _=>16 - x.2.2.1.toNat) ⟨0,by omega,rfl,Chg.refl w,rfl⟩ ?_
 rintro x g w1 ⟨i,hi,rfl,hc,he⟩
 dsimp only
 refine Br.dec (fun hlt=>?_) (fun hge=>?_)
 ·have hlt':i < 16:=by omega
  obtain ⟨d,hd⟩:∃ d,lets[i]? = some d:=⟨_,List.getElem?_eq_getElem (show i < lets.length from hlt')⟩
  refine ⟨d,w1,index_lets w1 i d hd,?_⟩
  rw [idxFrom_step (d:=d) (by rw [List.getElem?_drop]; exact hd),List.drop_drop] at he
  refine Br.mk (fun hb=>?_) (fun hb=>?_)
  ·have:d = c:=by simpa using hb
   rw [if_pos this] at he
   exact ⟨_,rfl,he,hc⟩
  ·have:d ≠ c:=by simpa using hb
   rw [if_neg this] at he
   rw [wrap64 (by omega) (by omega)]
   refine ⟨⟨i + 1,hlt',rfl,hc,he⟩,?_⟩
   show 16 - (i + 1) < 16 - i
   omega
 ·have:i = 16:=by omega
  subst this
  exact ⟨_,rfl,by rw [← he]; rfl,hc⟩
theorem under21:Tryz.prog.underlying 21 = some (.int .i32):=by kernel_rfl
theorem under9:Tryz.prog.underlying 9 = some .string:=by kernel_rfl
theorem conv_rune (w:World) (c:Int) (h0:0 ≤ c) (h1:c ≤ 127):(convert 21 5 (.int .i32 c)).run Tryz.prog w = .ok (.int .u8 c) w:=by
 have hw:IntKind.wrap .u8 c = c:=by simp [IntKind.wrap,IntKind.bits,IntKind.signed]; omega
 simp [convert,run_underlying under21,run_underlying under5,Conv.intToInt,hw]
def badF (k c:Int):Bool:=decide (c > 127) || (decide (idxF c < 0) || decide (idxF c ≥ 2 * k))
theorem check1_ret {w:World} (h:Laid w) {q:Addr} {k:Int} (hq:w.cell? q = some (.int .i64 k)) (hk0:0 ≤ k) (hk:k ≤ 100) (c:Int) (h0:0 ≤ c) :
  Ret Tryz.prog 115 #[.int .i32 c,.pointer (some q)] (.sc .bool) w fun x w'=>x = badF k c ∧ Chg Nil w w':=by
 refine word_Check_c1.calls _ _ ?_
 unfold word_Check_c1.sh
 have hd:Chg Nil w w.drew:=Chg.drew w
 refine ⟨fun w'=>Chg Nil w w',hd,?_⟩
 refine Br.dec (fun hgt=>⟨_,rfl,by simp [badF,hgt],hd⟩) (fun hle=>?_)
 refine ⟨c,fun w' _=>conv_rune w' c h0 (by omega),?_⟩
 refine Ret.call (index_ret (h.nil hd) c) ?_
 rintro _ w1 ⟨rfl,hc1⟩
 refine ⟨fun w'=>Chg Nil w w',fun _ h=>h,hd.then hc1,?_⟩
 refine Br.dec (fun hlt=>⟨_,rfl,by simp [badF,hlt],hd.then hc1⟩) (fun hge=>?_)
 refine ⟨c,fun w' _=>conv_rune w' c h0 (by omega),?_⟩
 refine LoadS.sc (s:=.int .i64) (x:=k) (fun w' hw=>hw.cell hq (fun h=>h)) ?_
 refine Ret.call (index_ret (h.nil (hd.then hc1)) c) ?_
 rintro _ w2 ⟨rfl,hc2⟩
 refine ⟨fun w'=>Chg Nil w w',fun _ h=>h,(hd.then hc1).then hc2,_,rfl,?_,(hd.then hc1).then hc2⟩
 rw [wrap64 (by omega) (by omega)]
 simp [badF,hle,hge]
def hasBad (k:Int) (s:ByteArray):Bool:=s.data.toList.any fun b=>badF k (b.toNat:Int)
theorem bad_high {k c:Int} (h:128 ≤ c):badF k c = true:=by simp [badF,show c > 127 by omega]
theorem bytes_get (s:ByteArray) (i:Nat) (h:i < s.size):s.data.toList[i]? = some (s[i]'h):=by
 rw [List.getElem?_eq_getElem (by simpa using h)]; rfl
theorem run_next_str {P:Program} (w:World) {r:Nat} {s:ByteArray} {pos:Nat} (ty:TypeId) (hr:w.heap[r]? = some (.stringIter s pos)) (h:pos < s.size) :
  (Instr.next (.pointer (some ⟨r,0,none⟩)) true ty).run P w = .ok (.tuple #[.bool true,.int .i64 pos,.int .i32 (Utf8.decode s pos).1]) (w.putObj r (.stringIter s (pos + (Utf8.decode s pos).2))):=by
 simp [Instr.next,getObj,setObj,Sem.run_bind,Sem.run,hr,Result.andThen,h,goInt,World.putObj]
theorem run_next_over {P:Program} (w:World) {r:Nat} {s:ByteArray} {pos:Nat} (ty:TypeId) (hr:w.heap[r]? = some (.stringIter s pos)) (h:¬ pos < s.size) :
  (Instr.next (.pointer (some ⟨r,0,none⟩)) true ty).run P w = .ok (.tuple #[.bool false]) w:=by
 simp [Instr.next,getObj,Sem.run_bind,Sem.run,hr,Result.andThen,h]
theorem Chg.putObj {S:Nat → Prop} (w:World) {r:Nat} (o:Obj) (h:S r):Chg S w (w.putObj r o):=
 ⟨rfl,rfl,rfl,by simp [World.putObj],fun k hk hs=>by
  show (w.heap.setIfInBounds r o)[k]? = _
  rw [Array.getElem?_setIfInBounds_ne (fun e:r = k=>hs (e ▸ h))]⟩
theorem heap_putObj {w:World} {r:Nat} {o o':Obj} (h:w.heap[r]? = some o'):(w.putObj r o).heap[r]? = some o:=by
 show (w.heap.setIfInBounds r o)[r]? = _
 rw [Array.getElem?_setIfInBounds_self_of_lt (lt_of_heap h)]
theorem indexFunc_ret {w:World} (h:Laid w) {q:Addr} {k:Int} (hq:w.cell? q = some (.int .i64 k)) (hk0:0 ≤ k) (hk:k ≤ 100) (s:ByteArray) :
  Ret Tryz.prog 166 #[.string s,.func (.func 115) #[] #[.pointer (some q)],.bool true] tI w fun x w'=>(decide (x ≥ 0)) = hasBad k s ∧ Chg Nil w w':=by
 refine strings_indexFunc.calls _ _ _ ?_
 unfold strings_indexFunc.sh
 refine ⟨⟨w.heap.size,0,none⟩,w.iter s 0,run_range_string w 9 s under9,?_⟩
 have hi0:Chg Nil w (w.iter s 0):=Chg.alloc w _
 have hlt0:0 < w.heap.size:=by obtain ⟨_,_,h⟩:=h; exact lt_of_heap h
 refine LoopT.fuel (fun m x w'=>∃ pos,x = ((q,()),true,⟨w.heap.size,0,none⟩,()) ∧ Chg Nil w w' ∧ w'.heap[w.heap.size]? = some (.stringIter s pos) ∧ m = s.size - pos ∧ (s.data.toList.drop pos).any (fun b=>badF k (b.toNat:Int)) = hasBad k s) (s.size - 0)
  ⟨0,rfl,hi0,World.iter_heap w s 0,rfl,by simp [hasBad]⟩ ?_
 rintro m x g w1 C ⟨pos,rfl,hc,hit,rfl,hany⟩ hC
 dsimp only
 by_cases hp:pos < s.size
 ·refine .inr ⟨(true,(pos:Int),((Utf8.decode s pos).1:Int),()),_,run_next_str w1 0 hit hp,?_⟩
  dsimp only
  refine Br.t rfl ?_
  have hc1:Chg (· = w.heap.size) w1 (w1.putObj w.heap.size (.stringIter s (pos + (Utf8.decode s pos).2))):=Chg.putObj w1 _ rfl
  have hc2:Chg Nil w (w1.putObj w.heap.size (.stringIter s (pos + (Utf8.decode s pos).2))):=hc.trans hc1 (fun _ _ h=>h) fun i hi he=>by
   have he:i = w.heap.size:=he
   omega
  refine Ret.call (check1_ret (h.nil hc2) (hc2.cell hq (fun h=>h)) hk0 hk _ (by omega)) ?_
  rintro _ w2 ⟨rfl,hc3⟩
  have hdrop:s.data.toList.drop pos = s[pos] :: s.data.toList.drop (pos + 1):=by
   rw [List.drop_eq_getElem_cons (by simpa using hp)]; rfl
  rw [hdrop,List.any_cons] at hany
  by_cases ha:(s[pos]).toNat < 128
  ·rw [decode_ascii s pos hp ha] at hc2 hc3 ⊢
   dsimp only at hc2 hc3 ⊢
   refine Br.mk (fun hb=>?_) (fun hb=>?_)
   ·have hb:badF k ((s[pos]).toNat:Int) = true:=by simpa using hb
    refine ⟨_,rfl,?_,hc2.then hc3⟩
    rw [← hany,hb]; simp
   ·have hb:badF k ((s[pos]).toNat:Int) = false:=by simpa using hb
    rw [hb,Bool.false_or] at hany
    refine hC _ _ (s.size - (pos + 1)) (by omega) ⟨pos + 1,rfl,hc2.then hc3,?_,rfl,hany⟩
    exact hc3.heap (heap_putObj hit) (fun h=>h)
  ·have hhi:=decode_high s pos hp (by omega)
   have hb:badF k ((Utf8.decode s pos).1:Int) = true:=bad_high (by omega)
   rw [hb]
   refine Br.t rfl ⟨_,rfl,?_,hc2.then hc3⟩
   rw [← hany,bad_high (c:=((s[pos]).toNat:Int)) (by omega)]; simp
 ·refine .inl ⟨w1,run_next_over w1 0 hit hp,?_⟩
  refine Br.f rfl ⟨_,rfl,?_,hc⟩
  rw [← hany,List.drop_eq_nil_of_le (by simp; omega)]; rfl
theorem containsFunc_ret {w:World} (h:Laid w) {q:Addr} {k:Int} (hq:w.cell? q = some (.int .i64 k)) (hk0:0 ≤ k) (hk:k ≤ 100) (s:ByteArray) :
  Ret Tryz.prog 114 #[.string s,.func (.func 115) #[] #[.pointer (some q)]] (.sc .bool) w fun x w'=>x = hasBad k s ∧ Chg Nil w w':=by
 refine strings_ContainsFunc.calls _ _ ?_
 unfold strings_ContainsFunc.sh
 refine Ret.call (Q:=fun x w'=>(decide (x ≥ 0)) = hasBad k s ∧ Chg Nil w w') ?_ (fun x w' hx=>⟨_,rfl,hx⟩)
 refine strings_IndexFunc.calls _ _ ?_
 unfold strings_IndexFunc.sh
 exact Ret.call (indexFunc_ret h hq hk0 hk s) fun x w' hx=>⟨_,rfl,hx⟩
def checkF (k:Int) (s:ByteArray):Int:=if k < 1 ∨ k > 8 then 1 else if (s.size:Int) > 100000 then 2 else if hasBad k s then 4 else 0
theorem check_ret {w:World} (h:Laid w) (k:Int) (s:ByteArray):Ret Tryz.prog 76 #[.int .i64 k,.string s] tI w fun x w'=>x = checkF k s ∧ Chg Nil w w':=by
 refine word_Check.calls _ _ ?_
 unfold word_Check.sh
 refine New.mk fun b w1 hb hnew hsz hc=>?_
 refine Join.mk ?_
 have hcell:w1.cell? (Addr.mk b 0 none) = some (.int .i64 k):=by rw [cellOf0 hnew]; rfl
 refine LoadT.sc (s:=.int .i64) hcell ?_
 refine Br.dec (fun hlt g=>?_) (fun hge=>LoadT.sc (s:=.int .i64) hcell fun g=>?_)
 ·dsimp only
  exact Br.t rfl ⟨_,rfl,by rw [checkF,if_pos (.inl hlt)],hc⟩
 ·dsimp only
  have hge':¬ k < 1:=hge
  refine Br.dec (fun hgt=>⟨_,rfl,by rw [checkF,if_pos (.inr hgt)],hc⟩) (fun hle=>?_)
  have hle':¬ k > 8:=hle
  have hne:¬ (k < 1 ∨ k > 8):=by omega
  refine Br.dec (fun hbig=>⟨_,rfl,by rw [checkF,if_neg hne,if_pos hbig],hc⟩) (fun hsm=>?_)
  refine Ret.call (containsFunc_ret (h.nil hc) hcell (by omega) (by omega) s) ?_
  rintro _ w2 ⟨rfl,hc2⟩
  refine Br.mk (fun hb=>⟨_,rfl,by rw [checkF,if_neg hne,if_neg hsm,if_pos hb],hc.then hc2⟩) (fun hb=>⟨_,rfl,by rw [checkF,if_neg hne,if_neg hsm,if_neg (by rw [hb]; simp)],hc.then hc2⟩)
def checkS (k:Int) (s:List UInt8):Int:=if k < 1 ∨ k > 8 then 1 else if (s.length:Int) > 100000 then 2 else if s.any (fun b=>badF k (b.toNat:Int)) then 4 else 0
theorem wcheck_pc (k:Int) (s:List UInt8):Pw.PC Tryz.prog 76 ⟨[Pk.iA,Pk.sA],[.any,.any],[Pk.iA]⟩ (k,s,()) (fun y _=>y.1 = checkS k s) (fun _=>False):=by
 refine Pw.pc_mk (ps:=[.int .i64,.str]) (rs:=[.int .i64]) (by kernel_rfl) fun A w vs hp hlow hg=>?_
 obtain ⟨us,v,vs',rfl,h1,h2,us2,v2,vs2,rfl,⟨b,rfl,hb,_⟩,h4,h5⟩:=hp
 have h1:us = [.int .i64 k]:=h1
 have h2:us = [v]:=h2
 have h4:[_] = [v2]:=h4
 have h5:vs2 = []:=h5
 rw [h1] at h2
 cases h2; cases h4; subst h5
 have hb:b.data.toList = s:=hb
 refine Calls.mono (check_ret (laid_of hg) k b) fun e w' he=>?_
 have hx:checkF k b = checkS k s:=by
  unfold checkF checkS hasBad
  have:b.size = s.length:=by rw [← hb,Array.length_toList]; rfl
  rw [this,hb]
 obtain ⟨x,rfl,rfl,hc⟩:=he
 exact ⟨A,(checkS k s,()),[.int .i64 (checkS k s)],rfl,by rw [hx]; rfl,⟨[_],_,[],rfl,rfl,rfl,rfl⟩,hc,fun _ _ h=>h,fun _ _ h=>.inl h⟩
theorem bad_let:∀ n:Fin 256,badF 8 ((n.val:Nat):Int) = !(Ct.isLet (UInt8.ofNat n.val)):=by decide
theorem bad_isLet (c:UInt8):badF 8 (c.toNat:Int) = !(Ct.isLet c):=by
 have h:=bad_let ⟨c.toNat,c.toNat_lt⟩
 simpa using h
theorem check_isW (s:List UInt8):(checkS 8 s == 0) = Ct.isW s:=by
 unfold checkS Ct.isW
 have hb:s.any (fun b=>badF 8 (b.toNat:Int)) = !(s.all Ct.isLet):=by
  induction s with
  | nil=>rfl
  | cons a l ih=>rw [List.any_cons,List.all_cons,ih,bad_isLet,Bool.not_and]
 rw [if_neg (by omega),hb]
 by_cases h:(s.length:Int) > 100000
 ·rw [if_pos h]
  have:¬ s.length ≤ 100000:=by omega
  simp [this]
 ·rw [if_neg h]
  have h2:s.length ≤ 100000:=by omega
  cases s.all Ct.isLet <;> simp [h2]
end Go.Proofs.YtpifnlfmojfgpaaGreatDoor.Wd
end
section
set_option maxRecDepth 10000
set_option maxHeartbeats 4000000
namespace Go.Proofs.YtpifnlfmojfgpaaGreatDoor.Pk
open Fw Pw Ct
noncomputable def a95:FAnn:={}
noncomputable def a42:FAnn where
 loops:=fun | 2=>[.kv 5,.kv 6,.sl 7 (.pv (.int .i64))] | _=>[]
noncomputable def a41:FAnn where
 loops:=fun | 2=>[.kv 5,.kv 6,.sl 7 (.pv (.int .i64))] | _=>[]
noncomputable def a43:FAnn where
 loops:=fun | 2=>[.kv 1,.kv 14,.kv 15,.sl 16 (.pv (.int .i64)),.km 0] | 8=>[.kv 1,.kv 29,.kv 30,.sl 31 (.pv (.int .i64)),.km 0] | 14=>[.kv 41,.kv 42,.sl 43 (.pv (.int .i64)),.km 0] | _=>[]
noncomputable def a15:FAnn where
 loops:=fun | 4=>[.kv 1,.kv 41,.kv 42,.sl 43 (.pv (.int .i64)),.km 0] | _=>[]
 joins:=fun | 3=>some [.kv 1,.km 0] | 11=>some [.kv 1,.km 0] | 13=>some [.kv 1,.km 0] | _=>none
def sg76:Sig:=⟨[iA,sA],[.any,.any],[iA]⟩
def sg95:Sig:=⟨[sA],[.any],[bA]⟩
def sg42:Sig:=⟨[.pv tCs],[.any],[bA]⟩
def sg41:Sig:=⟨[.pv tW],[.any],[bA]⟩
def sg43:Sig:=⟨[.pv strT],[.any],[bA]⟩
def sg15:Sig:=⟨[.pv claimT],[.any],[bA]⟩
theorem all_no {α:Type} {p:α → Bool} {l:List α} {x:α} (hx:x ∈ l) (h:p x = false):l.all p = false:=by
 rw [Bool.eq_false_iff]
 intro ha
 rw [List.all_eq_true.1 ha x hx] at h; cases h
theorem all_next {α:Type} {p:α → Bool} {l:List α} {i:Nat} {x:α} (hg:l[i]? = some x) (ha:(l.take i).all p = true) (h:p x = true):(l.take (i + 1)).all p = true:=by
 rw [List.take_add_one,hg,List.all_append,ha]; simp [h]
theorem isword_pc (w:Str):PC Tryz.prog 95 sg95 (w,()) (fun y _=>y.1 = isW w) (fun _=>False):=by
 refine PC.of a95 [(76,sg76)] (by kernel_rfl) ?_
 refine CallP.mk _ _ (Wd.wcheck_pc 8 w) ?_ (fun p h=>h.elim)
 rintro ⟨y,_⟩ z hy
 have hy:y = Wd.checkS 8 w:=hy
 show (y == 0) = isW w
 rw [hy]; exact Wd.check_isW w
theorem arecells_pc (d:List Cell) (hd:d.length ≤ NN):PC Tryz.prog 42 sg42 (d,()) (fun y _=>y.1 = cellsW d) (fun _=>False):=by
 refine PC.of a42 [(95,sg95)] (by kernel_rfl) ?_
 have hNN:d.length ≤ 20001:=hd
 refine LenL.mk fun _=>?_
 refine SameV.mk rfl (SameV.mk rfl ?_)
 refine LoopP.mk (fun x=>∃ i:Nat,x = ((i:Int),()) ∧ i ≤ (d).length ∧ ((d).take i).all (fun c=>isW c.1) = true) (fun x=>(d).length - x.1.toNat) ⟨0,rfl,Nat.zero_le _,rfl⟩ ?_
 rintro x ⟨i,rfl,hi,ha⟩
 refine BrP.mk' (fun h=>?_) (fun h=>?_)
 ·have h:(i:Int) < ((d).length:Int):=of_decide_eq_true h
  have h:i < (d).length:=by omega
  have hg:(d)[i]? = some (d)[i]:=List.getElem?_eq_getElem h
  have hm:(d)[i] ∈ (d):=List.getElem_mem h
  have hE:∃ q,q = (d)[i]:=⟨_,rfl⟩
  obtain ⟨q,hq⟩:=hE
  rw [← hq] at hg hm
  have hw:IntKind.wrap .i64 ((i:Int) + 1) = ((i + 1:Nat):Int):=Fw.wrap64 (by omega) (by omega)
  refine GetL.is i (x:=q) rfl hg ?_
  refine CallP.mk _ _ (isword_pc q.1) ?_ (fun p h=>h.elim)
  rintro ⟨b,_⟩ z hb
  have hb:b = isW q.1:=hb
  refine BrP.mk' (fun hc=>?_) (fun hc=>?_)
  ·have hc:(!b) = true:=hc
   have hf:isW q.1 = false:=by rw [← hb]; simpa using hc
   exact (all_no (p:=fun c:Cell=>isW c.1) hm hf).symm
  have hp:isW q.1 = true:=by
   have hc:(!b) = false:=hc
   rw [← hb]; simpa using hc
  have step:=all_next hg ha hp
  refine SameV.mk rfl (SameV.mk rfl ?_)
  refine And.intro (Exists.intro (i + 1) (And.intro ?_ ⟨h,step⟩)) ?_
  ·rw [← hw]; rfl
  ·show (d).length - (IntKind.wrap .i64 ((i:Int) + 1)).toNat < (d).length - (i:Int).toNat
   rw [hw]; omega
 have h:¬ (i:Int) < ((d).length:Int):=of_decide_eq_false h
 have h:i = (d).length:=by omega
 have fin:(d).all (fun c=>isW c.1) = true:=by rw [h,List.take_length] at ha; exact ha
 exact fin.symm
theorem arewords_pc (l:List Str) (hd:l.length ≤ NN):PC Tryz.prog 41 sg41 (l,()) (fun y _=>y.1 = l.all isW) (fun _=>False):=by
 refine PC.of a41 [(95,sg95)] (by kernel_rfl) ?_
 have hNN:l.length ≤ 20001:=hd
 refine LenL.mk fun _=>?_
 refine SameV.mk rfl (SameV.mk rfl ?_)
 refine LoopP.mk (fun x=>∃ i:Nat,x = ((i:Int),()) ∧ i ≤ (l).length ∧ ((l).take i).all isW = true) (fun x=>(l).length - x.1.toNat) ⟨0,rfl,Nat.zero_le _,rfl⟩ ?_
 rintro x ⟨i,rfl,hi,ha⟩
 refine BrP.mk' (fun h=>?_) (fun h=>?_)
 ·have h:(i:Int) < ((l).length:Int):=of_decide_eq_true h
  have h:i < (l).length:=by omega
  have hg:(l)[i]? = some (l)[i]:=List.getElem?_eq_getElem h
  have hm:(l)[i] ∈ (l):=List.getElem_mem h
  have hE:∃ q,q = (l)[i]:=⟨_,rfl⟩
  obtain ⟨q,hq⟩:=hE
  rw [← hq] at hg hm
  have hw:IntKind.wrap .i64 ((i:Int) + 1) = ((i + 1:Nat):Int):=Fw.wrap64 (by omega) (by omega)
  refine GetL.is i (x:=q) rfl hg ?_
  refine CallP.mk _ _ (isword_pc q) ?_ (fun p h=>h.elim)
  rintro ⟨b,_⟩ z hb
  have hb:b = isW q:=hb
  refine BrP.mk' (fun hc=>?_) (fun hc=>?_)
  ·have hc:(!b) = true:=hc
   have hf:isW q = false:=by rw [← hb]; simpa using hc
   exact (all_no hm hf).symm
  have hp:isW q = true:=by
   have hc:(!b) = false:=hc
   rw [← hb]; simpa using hc
  have step:=all_next hg ha hp
  refine SameV.mk rfl (SameV.mk rfl ?_)
  refine And.intro (Exists.intro (i + 1) (And.intro ?_ ⟨h,step⟩)) ?_
  ·rw [← hw]; rfl
  ·show (l).length - (IntKind.wrap .i64 ((i:Int) + 1)).toNat < (l).length - (i:Int).toNat
   rw [hw]; omega
 have h:¬ (i:Int) < ((l).length:Int):=of_decide_eq_false h
 have h:i = (l).length:=by omega
 have fin:(l).all isW = true:=by rw [h,List.take_length] at ha; exact ha
 exact fin.symm
theorem wstr_pc (s:Strc) (ls:Lim NN strT s):PC Tryz.prog 43 sg43 (s,()) (fun y _=>y.1 = (([s.2.1] ++ s.2.2.1).all autW && (s.2.2.2.2.1.all (fun t=>cellsW t.2.2.2.2.1) && s.2.2.2.2.2.1.all (fun t=>cellsW t.2.2.1)))) (fun _=>False):=by
 obtain ⟨q1,q2,q3,q4,q5,q6,_⟩:=ls
 have n3:s.2.2.1.length ≤ 20001:=q3.1
 have n5:s.2.2.2.2.1.length ≤ 20001:=q5.1
 have n6:s.2.2.2.2.2.1.length ≤ 20001:=q6.1
 have n3':([s.2.1] ++ s.2.2.1).length ≤ 20002:=by simp only [List.length_append,List.length_cons,List.length_nil]; omega
 have c5:∀ t ∈ s.2.2.2.2.1,t.2.2.2.2.1.length ≤ NN:=fun t ht=>(q5.2 t ht).2.2.2.2.1.1
 have c6:∀ t ∈ s.2.2.2.2.2.1,t.2.2.1.length ≤ NN:=fun t ht=>(q6.2 t ht).2.2.1.1
 refine PC.of a43 [(42,sg42)] (by kernel_rfl) ?_
 refine AppL.mk' (by show 1 + s.2.2.1.length ≤ _; omega) ?_
 refine LenL.mk fun _=>?_
 refine SameV.mk rfl (SameV.mk rfl (SameV.mk rfl (SameV.mk rfl ?_)))
 refine LoopP.mk (fun x=>∃ i:Nat,x = ((i:Int),()) ∧ i ≤ ([s.2.1] ++ s.2.2.1).length ∧ (([s.2.1] ++ s.2.2.1).take i).all autW = true) (fun x=>([s.2.1] ++ s.2.2.1).length - x.1.toNat) ⟨0,rfl,Nat.zero_le _,rfl⟩ ?_
 rintro x ⟨i1,rfl,hi,ha⟩
 refine BrP.mk' (fun h=>?_) (fun h=>?_)
 ·have h:(i1:Int) < (([s.2.1] ++ s.2.2.1).length:Int):=of_decide_eq_true h
  have h:i1 < ([s.2.1] ++ s.2.2.1).length:=by omega
  have hg:([s.2.1] ++ s.2.2.1)[i1]? = some ([s.2.1] ++ s.2.2.1)[i1]:=List.getElem?_eq_getElem h
  have hm:([s.2.1] ++ s.2.2.1)[i1] ∈ ([s.2.1] ++ s.2.2.1):=List.getElem_mem h
  have hE:∃ q,q = ([s.2.1] ++ s.2.2.1)[i1]:=⟨_,rfl⟩
  obtain ⟨q,hq⟩:=hE
  rw [← hq] at hg hm
  have hw:IntKind.wrap .i64 ((i1:Int) + 1) = ((i1 + 1:Nat):Int):=Fw.wrap64 (by omega) (by omega)
  refine GetL.is i1 (x:=q) rfl hg (LenL.mk fun _=>LenL.mk fun _=>?_)
  refine BrP.mk' (fun hc=>?_) (fun hc=>?_)
  ·have hc:((q.2.2.1.length:Int) != (q.2.2.2.1.length:Int)) = true:=hc
   have hf:autW q = false:=by unfold autW; simp only [bne_iff_ne,ne_eq] at hc; rw [beq_eq_false_iff_ne]; intro he; exact hc (by rw [he])
   show false = _
   rw [all_no hm hf]; rfl
  have hp:autW q = true:=by
   have hc:((q.2.2.1.length:Int) != (q.2.2.2.1.length:Int)) = false:=hc
   unfold autW
   rw [beq_iff_eq]
   simp only [bne_eq_false_iff_eq] at hc
   omega
  have step:=all_next hg ha hp
  refine SameV.mk rfl (SameV.mk rfl (SameV.mk rfl (SameV.mk rfl ?_)))
  refine And.intro (Exists.intro (i1 + 1) (And.intro ?_ ⟨h,step⟩)) ?_
  ·rw [← hw]; rfl
  ·show ([s.2.1] ++ s.2.2.1).length - (IntKind.wrap .i64 ((i1:Int) + 1)).toNat < ([s.2.1] ++ s.2.2.1).length - (i1:Int).toNat
   rw [hw]; omega
 have h:¬ (i1:Int) < (([s.2.1] ++ s.2.2.1).length:Int):=of_decide_eq_false h
 have h:i1 = ([s.2.1] ++ s.2.2.1).length:=by omega
 have wm:([s.2.1] ++ s.2.2.1).all autW = true:=by rw [h,List.take_length] at ha; exact ha
 refine LenL.mk fun _=>?_
 refine SameV.mk rfl (SameV.mk rfl (SameV.mk rfl (SameV.mk rfl ?_)))
 refine LoopP.mk (fun x=>∃ i:Nat,x = ((i:Int),()) ∧ i ≤ (s.2.2.2.2.1).length ∧ ((s.2.2.2.2.1).take i).all (fun t=>cellsW t.2.2.2.2.1) = true) (fun x=>(s.2.2.2.2.1).length - x.1.toNat) ⟨0,rfl,Nat.zero_le _,rfl⟩ ?_
 rintro x ⟨i2,rfl,hi,ha⟩
 refine BrP.mk' (fun h=>?_) (fun h=>?_)
 ·have h:(i2:Int) < ((s.2.2.2.2.1).length:Int):=of_decide_eq_true h
  have h:i2 < (s.2.2.2.2.1).length:=by omega
  have hg:(s.2.2.2.2.1)[i2]? = some (s.2.2.2.2.1)[i2]:=List.getElem?_eq_getElem h
  have hm:(s.2.2.2.2.1)[i2] ∈ (s.2.2.2.2.1):=List.getElem_mem h
  have hE:∃ q,q = (s.2.2.2.2.1)[i2]:=⟨_,rfl⟩
  obtain ⟨q,hq⟩:=hE
  rw [← hq] at hg hm
  have hw:IntKind.wrap .i64 ((i2:Int) + 1) = ((i2 + 1:Nat):Int):=Fw.wrap64 (by omega) (by omega)
  refine GetL.is i2 (x:=q) rfl hg ?_
  refine CallP.mk _ _ (arecells_pc q.2.2.2.2.1 (c5 q hm)) ?_ (fun p h=>h.elim)
  rintro ⟨b,_⟩ z hb
  have hb:b = cellsW q.2.2.2.2.1:=hb
  refine BrP.mk' (fun hc=>?_) (fun hc=>?_)
  ·have hc:(!b) = true:=hc
   have hf:cellsW q.2.2.2.2.1 = false:=by rw [← hb]; simpa using hc
   exact (by show false = _; rw [wm,all_no (p:=fun t:Ct.Step=>cellsW t.2.2.2.2.1) hm hf]; rfl)
  have hp:cellsW q.2.2.2.2.1 = true:=by
   have hc:(!b) = false:=hc
   rw [← hb]; simpa using hc
  have step:=all_next hg ha hp
  refine SameV.mk rfl (SameV.mk rfl (SameV.mk rfl (SameV.mk rfl ?_)))
  refine And.intro (Exists.intro (i2 + 1) (And.intro ?_ ⟨h,step⟩)) ?_
  ·rw [← hw]; rfl
  ·show (s.2.2.2.2.1).length - (IntKind.wrap .i64 ((i2:Int) + 1)).toNat < (s.2.2.2.2.1).length - (i2:Int).toNat
   rw [hw]; omega
 have h:¬ (i2:Int) < ((s.2.2.2.2.1).length:Int):=of_decide_eq_false h
 have h:i2 = (s.2.2.2.2.1).length:=by omega
 have wst:(s.2.2.2.2.1).all (fun t=>cellsW t.2.2.2.2.1) = true:=by rw [h,List.take_length] at ha; exact ha
 refine LenL.mk fun _=>?_
 refine SameV.mk rfl (SameV.mk rfl (SameV.mk rfl ?_))
 refine LoopP.mk (fun x=>∃ i:Nat,x = ((i:Int),()) ∧ i ≤ (s.2.2.2.2.2.1).length ∧ ((s.2.2.2.2.2.1).take i).all (fun t=>cellsW t.2.2.1) = true) (fun x=>(s.2.2.2.2.2.1).length - x.1.toNat) ⟨0,rfl,Nat.zero_le _,rfl⟩ ?_
 rintro x ⟨i3,rfl,hi,ha⟩
 refine BrP.mk' (fun h=>?_) (fun h=>?_)
 ·have h:(i3:Int) < ((s.2.2.2.2.2.1).length:Int):=of_decide_eq_true h
  have h:i3 < (s.2.2.2.2.2.1).length:=by omega
  have hg:(s.2.2.2.2.2.1)[i3]? = some (s.2.2.2.2.2.1)[i3]:=List.getElem?_eq_getElem h
  have hm:(s.2.2.2.2.2.1)[i3] ∈ (s.2.2.2.2.2.1):=List.getElem_mem h
  have hE:∃ q,q = (s.2.2.2.2.2.1)[i3]:=⟨_,rfl⟩
  obtain ⟨q,hq⟩:=hE
  rw [← hq] at hg hm
  have hw:IntKind.wrap .i64 ((i3:Int) + 1) = ((i3 + 1:Nat):Int):=Fw.wrap64 (by omega) (by omega)
  refine GetL.is i3 (x:=q) rfl hg ?_
  refine CallP.mk _ _ (arecells_pc q.2.2.1 (c6 q hm)) ?_ (fun p h=>h.elim)
  rintro ⟨b,_⟩ z hb
  have hb:b = cellsW q.2.2.1:=hb
  refine BrP.mk' (fun hc=>?_) (fun hc=>?_)
  ·have hc:(!b) = true:=hc
   have hf:cellsW q.2.2.1 = false:=by rw [← hb]; simpa using hc
   exact (by show false = _; rw [wm,wst,all_no (p:=fun t:Ct.End=>cellsW t.2.2.1) hm hf]; rfl)
  have hp:cellsW q.2.2.1 = true:=by
   have hc:(!b) = false:=hc
   rw [← hb]; simpa using hc
  have step:=all_next hg ha hp
  refine SameV.mk rfl (SameV.mk rfl (SameV.mk rfl ?_))
  refine And.intro (Exists.intro (i3 + 1) (And.intro ?_ ⟨h,step⟩)) ?_
  ·rw [← hw]; rfl
  ·show (s.2.2.2.2.2.1).length - (IntKind.wrap .i64 ((i3:Int) + 1)).toNat < (s.2.2.2.2.2.1).length - (i3:Int).toNat
   rw [hw]; omega
 have h:¬ (i3:Int) < ((s.2.2.2.2.2.1).length:Int):=of_decide_eq_false h
 have h:i3 = (s.2.2.2.2.2.1).length:=by omega
 have wen:(s.2.2.2.2.2.1).all (fun t=>cellsW t.2.2.1) = true:=by rw [h,List.take_length] at ha; exact ha
 show true = _
 rw [wm,wst,wen]; rfl
def zeroMap:Map:=(zeroPres,0,[],())
theorem noMap_dec (m:Map):noMap m = decide (m = zeroMap):=by
 by_cases h:noMap m = true
 ·rw [h,noMap_eq h]; exact (decide_eq_true rfl).symm
 ·have h1:noMap m = false:=by simpa using h
  rw [h1]
  refine (decide_eq_false fun he=>?_).symm
  subst he; cases h1
theorem noStr_dec (s:Strc):noStr s = decide (s = zeroStr):=by
 by_cases h:noStr s = true
 ·rw [h,noStr_eq h]; exact (decide_eq_true rfl).symm
 ·have h1:noStr s = false:=by simpa using h
  rw [h1]
  refine (decide_eq_false fun he=>?_).symm
  subst he; cases h1
theorem pwritable_pc' (k g:Int) (r:List Str) (u v:Str) (n:Int) (d:List Cell) (cj:Str) (ring:List Cell) (sk sm:Int) (si:List Int) (sp:List (List Int)) (im:List Int) (m:Map) (s:Strc)
  (hl:Lim NN claimT (k,(g,r,()),u,v,n,d,(cj,ring,()),(sk,sm,si,sp,()),im,m,s,())):PC Tryz.prog 15 sg15 ((k,(g,r,()),u,v,n,d,(cj,ring,()),(sk,sm,si,sp,()),im,m,s,()),()) (fun y _=>y.1 = writable (k,(g,r,()),u,v,n,d,(cj,ring,()),(sk,sm,si,sp,()),im,m,s,())) (fun _=>False):=by
 obtain ⟨lk,⟨lg,lr,_⟩,lu,lv,ln,ld,⟨lcj,lring,_⟩,⟨lsk,lsm,lsi,lsp,_⟩,lim,lm,ls,_⟩:=hl
 have nr:r.length ≤ 20001:=lr.1
 have nd:d.length ≤ NN:=ld.1
 have nring:ring.length ≤ NN:=lring.1
 have ndf:s.2.2.2.1.length ≤ NN:=ls.2.2.2.1.1
 have nm:m.1.2.1.length ≤ NN:=lm.1.2.1.1
 have ns:s.1.2.1.length ≤ NN:=ls.1.2.1.1
 have n3:([u,v,cj]:List Str).length ≤ NN:=by show 3 ≤ 20001; decide
 have hW:writable (k,(g,r,()),u,v,n,d,(cj,ring,()),(sk,sm,si,sp,()),im,m,s,()) = (decide (1 ≤ k) && decide (k ≤ 9) && isW u && isW v && isW cj && r.all (fun q=>isW q && !q.isEmpty) && cellsW d && cellsW ring && (noMap m || decide (m.1 = (g,r,()))) && (noStr s || decide (s.1 = (g,r,()))) && strW s):=rfl
 have hS:strW s = (autW s.2.1 && s.2.2.1.all autW && s.2.2.2.1.all isW && s.2.2.2.2.1.all (fun t=>cellsW t.2.2.2.2.1) && s.2.2.2.2.2.1.all (fun t=>cellsW t.2.2.1)):=rfl
 have hT:writable (k,(g,r,()),u,v,n,d,(cj,ring,()),(sk,sm,si,sp,()),im,m,s,()) = true → (decide (1 ≤ k)) = true ∧ (decide (k ≤ 9)) = true ∧ (isW u) = true ∧ (isW v) = true ∧ (isW cj) = true ∧ (r.all (fun q=>isW q && !q.isEmpty)) = true ∧ (cellsW d) = true ∧ (cellsW ring) = true ∧ ((noMap m || decide (m.1 = (g,r,())))) = true ∧ ((noStr s || decide (s.1 = (g,r,())))) = true ∧ (strW s) = true:=fun h=>by rw [hW] at h; simpa only [Bool.and_eq_true,and_assoc] using h
 have no:∀ {b:Bool},(writable (k,(g,r,()),u,v,n,d,(cj,ring,()),(sk,sm,si,sp,()),im,m,s,()) = true → b = true) → b = false → false = writable (k,(g,r,()),u,v,n,d,(cj,ring,()),(sk,sm,si,sp,()),im,m,s,()):=fun h hb=>by
  cases hw:writable (k,(g,r,()),u,v,n,d,(cj,ring,()),(sk,sm,si,sp,()),im,m,s,()) with
  | false=>rfl
  | true=>rw [h hw] at hb; cases hb
 refine PC.of a15 [(23,sg23),(28,sg28),(29,sg29),(41,sg41),(42,sg42),(43,sg43)] (by kernel_rfl) ?_
 refine JoinP.mk (fun _=>decide (1 ≤ k) = true ∧ decide (k ≤ 9) = true ∧ ([u,v,cj]:List Str).all isW = true ∧ r.all isW = true ∧ s.2.2.2.1.all isW = true) ?_ ?_
 rotate_left
 ·refine BrP.mk' (fun hc=>?_) (fun hc=>?_)
  ·have hc:k < (1:Int):=of_decide_eq_true hc
   exact no (b:=decide (1 ≤ k)) (fun h=>(hT h).1) (decide_eq_false (by omega))
  have hk1:¬ k < (1:Int):=of_decide_eq_false hc
  refine BrP.mk' (fun hc=>?_) (fun hc=>?_)
  ·have hc:k > (9:Int):=of_decide_eq_true hc
   exact no (b:=decide (k ≤ 9)) (fun h=>(hT h).2.1) (decide_eq_false (by omega))
  have hk2:¬ k > (9:Int):=of_decide_eq_false hc
  refine CallP.mk _ _ (arewords_pc [u,v,cj] n3) ?_ (fun p h=>h.elim)
  rintro ⟨b,_⟩ z hb
  have hb:b = ([u,v,cj]:List Str).all isW:=hb
  refine BrP.mk' (fun hc=>?_) (fun hc=>?_)
  ·have hc:(!b) = true:=hc
   exact no (b:=([u,v,cj]:List Str).all isW) (fun h=>by have h:=hT h; simp only [List.all_cons,List.all_nil,h.2.2.1,h.2.2.2.1,h.2.2.2.2.1]; rfl) (by rw [← hb]; simpa using hc)
  have ww:([u,v,cj]:List Str).all isW = true:=by
   have hc:(!b) = false:=hc
   rw [← hb]; simpa using hc
  refine CallP.mk _ _ (arewords_pc r nr) ?_ (fun p h=>h.elim)
  rintro ⟨b,_⟩ z hb
  have hb:b = r.all isW:=hb
  refine BrP.mk' (fun hc=>?_) (fun hc=>?_)
  ·have hc:(!b) = true:=hc
   exact no (b:=r.all isW) (fun h=>by have h:=(hT h).2.2.2.2.2.1; rw [List.all_eq_true] at h ⊢; intro q hq; have:=h q hq; simp only [Bool.and_eq_true] at this; exact this.1) (by rw [← hb]; simpa using hc)
  have wr:r.all isW = true:=by
   have hc:(!b) = false:=hc
   rw [← hb]; simpa using hc
  refine CallP.mk _ _ (arewords_pc s.2.2.2.1 ndf) ?_ (fun p h=>h.elim)
  rintro ⟨b,_⟩ z hb
  have hb:b = s.2.2.2.1.all isW:=hb
  refine BrP.mk' (fun hc=>?_) (fun hc=>?_)
  ·have hc:(!b) = true:=hc
   exact no (b:=s.2.2.2.1.all isW) (fun h=>by have h:=(hT h).2.2.2.2.2.2.2.2.2.2; rw [hS] at h; simp only [Bool.and_eq_true] at h; exact h.1.1.2) (by rw [← hb]; simpa using hc)
  have wd:s.2.2.2.1.all isW = true:=by
   have hc:(!b) = false:=hc
   rw [← hb]; simpa using hc
  refine SameV.mk rfl (SameV.mk rfl ?_)
  exact ⟨decide_eq_true (by omega),decide_eq_true (by omega),ww,wr,wd⟩
 rintro _ ⟨k1,k2,ww,wr,wd⟩
 refine LenL.mk fun _=>?_
 refine SameV.mk rfl (SameV.mk rfl (SameV.mk rfl (SameV.mk rfl ?_)))
 refine LoopP.mk (fun x=>∃ i:Nat,x = ((i:Int),()) ∧ i ≤ (r).length ∧ ((r).take i).all (fun q=>!q.isEmpty) = true) (fun x=>(r).length - x.1.toNat) ⟨0,rfl,Nat.zero_le _,rfl⟩ ?_
 rintro x ⟨i1,rfl,hi,ha⟩
 refine BrP.mk' (fun h=>?_) (fun h=>?_)
 ·have h:(i1:Int) < ((r).length:Int):=of_decide_eq_true h
  have h:i1 < (r).length:=by omega
  have hg:(r)[i1]? = some (r)[i1]:=List.getElem?_eq_getElem h
  have hm:(r)[i1] ∈ (r):=List.getElem_mem h
  have hE:∃ q,q = (r)[i1]:=⟨_,rfl⟩
  obtain ⟨q,hq⟩:=hE
  rw [← hq] at hg hm
  have hw:IntKind.wrap .i64 ((i1:Int) + 1) = ((i1 + 1:Nat):Int):=Fw.wrap64 (by omega) (by omega)
  refine GetL.is i1 (x:=q) rfl hg ?_
  refine BrP.mk' (fun hc=>?_) (fun hc=>?_)
  ·have hc:q = []:=by simpa using hc
   exact no (b:=r.all (fun q=>isW q && !q.isEmpty)) (fun h=>(hT h).2.2.2.2.2.1) (all_no hm (by rw [hc]; rfl))
  have hp:(!q.isEmpty) = true:=by
   have hc:q ≠ []:=by simpa using hc
   cases q <;> first | exact absurd rfl hc | rfl
  have step:=all_next hg ha hp
  refine SameV.mk rfl (SameV.mk rfl (SameV.mk rfl (SameV.mk rfl ?_)))
  refine And.intro (Exists.intro (i1 + 1) (And.intro ?_ ⟨h,step⟩)) ?_
  ·rw [← hw]; rfl
  ·show (r).length - (IntKind.wrap .i64 ((i1:Int) + 1)).toNat < (r).length - (i1:Int).toNat
   rw [hw]; omega
 have h:¬ (i1:Int) < ((r).length:Int):=of_decide_eq_false h
 have h:i1 = (r).length:=by omega
 have wne:(r).all (fun q=>!q.isEmpty) = true:=by rw [h,List.take_length] at ha; exact ha
 refine JoinP.mk (fun _=>cellsW d = true ∧ cellsW ring = true) ?_ ?_
 rotate_left
 ·refine CallP.mk _ _ (arecells_pc d nd) ?_ (fun p h=>h.elim)
  rintro ⟨b,_⟩ z hb
  have hb:b = cellsW d:=hb
  refine BrP.mk' (fun hc=>?_) (fun hc=>?_)
  ·have hc:(!b) = true:=hc
   exact no (b:=cellsW d) (fun h=>(hT h).2.2.2.2.2.2.1) (by rw [← hb]; simpa using hc)
  have c1:cellsW d = true:=by
   have hc:(!b) = false:=hc
   rw [← hb]; simpa using hc
  refine CallP.mk _ _ (arecells_pc ring nring) ?_ (fun p h=>h.elim)
  rintro ⟨b,_⟩ z hb
  have hb:b = cellsW ring:=hb
  refine BrP.mk' (fun hc=>?_) (fun hc=>?_)
  ·have hc:(!b) = true:=hc
   exact no (b:=cellsW ring) (fun h=>(hT h).2.2.2.2.2.2.2.1) (by rw [← hb]; simpa using hc)
  have c2:cellsW ring = true:=by
   have hc:(!b) = false:=hc
   rw [← hb]; simpa using hc
  refine SameV.mk rfl (SameV.mk rfl ?_)
  exact ⟨c1,c2⟩
 rintro _ ⟨c1,c2⟩
 refine JoinP.mk (fun _=>(noMap m || decide (m.1 = (g,r,()))) = true ∧ (noStr s || decide (s.1 = (g,r,()))) = true) ?_ ?_
 rotate_left
 ·refine CallP.mk _ _ (map28_pc m zeroMap lm) ?_ (fun p h=>h.elim)
  rintro ⟨y1,_⟩ z hy1
  have hy1:y1 = decide (m = zeroMap):=hy1
  rw [← noMap_dec] at hy1
  refine BrP.mk' (fun hc=>?_) (fun hc=>?_)
  ·have hc:(!y1) = true:=hc
   have hn:noMap m = false:=by rw [← hy1]; simpa using hc
   refine CallP.mk _ _ (samePres_pc m.1 (g,r,()) nm) ?_ (fun p h=>h.elim)
   rintro ⟨y2,_⟩ z hy2
   have hy2:y2 = decide (m.1 = (g,r,())):=hy2
   refine BrP.mk' (fun hc=>?_) (fun hc=>?_)
   ·have hc:(!y2) = true:=hc
    exact no (b:=(noMap m || decide (m.1 = (g,r,())))) (fun h=>(hT h).2.2.2.2.2.2.2.2.1) (by rw [hn,← hy2]; simpa using hc)
   have hc:(!y2) = false:=hc
   have wm:(noMap m || decide (m.1 = (g,r,()))) = true:=by
    rw [← hy2]
    have:y2 = true:=by simpa using hc
    rw [this]; simp
   refine CallP.mk _ _ (str29_pc s zeroStr ls) ?_ (fun p h=>h.elim)
   rintro ⟨y3,_⟩ z hy3
   have hy3:y3 = decide (s = zeroStr):=hy3
   rw [← noStr_dec] at hy3
   refine BrP.mk' (fun hc=>?_) (fun hc=>?_)
   ·have hc:(!y3) = true:=hc
    have hn:noStr s = false:=by rw [← hy3]; simpa using hc
    refine CallP.mk _ _ (samePres_pc s.1 (g,r,()) ns) ?_ (fun p h=>h.elim)
    rintro ⟨y4,_⟩ z hy4
    have hy4:y4 = decide (s.1 = (g,r,())):=hy4
    refine BrP.mk' (fun hc=>?_) (fun hc=>?_)
    ·have hc:(!y4) = true:=hc
     exact no (b:=(noStr s || decide (s.1 = (g,r,())))) (fun h=>(hT h).2.2.2.2.2.2.2.2.2.1) (by rw [hn,← hy4]; simpa using hc)
    have hc:(!y4) = false:=hc
    refine SameV.mk rfl (SameV.mk rfl ?_)
    exact ⟨wm,(by have h4:y4 = true:=(by simpa using hc); rw [← hy4,h4]; simp)⟩
   have hc:(!y3) = false:=hc
   have hn:noStr s = true:=by rw [← hy3]; simpa using hc
   refine SameV.mk rfl (SameV.mk rfl ?_)
   exact ⟨wm,by rw [hn]; rfl⟩
  have hc:(!y1) = false:=hc
  have hn:noMap m = true:=by rw [← hy1]; simpa using hc
  have wm:(noMap m || decide (m.1 = (g,r,()))) = true:=by rw [hn]; rfl
  refine CallP.mk _ _ (str29_pc s zeroStr ls) ?_ (fun p h=>h.elim)
  rintro ⟨y3,_⟩ z hy3
  have hy3:y3 = decide (s = zeroStr):=hy3
  rw [← noStr_dec] at hy3
  refine BrP.mk' (fun hc=>?_) (fun hc=>?_)
  ·have hc:(!y3) = true:=hc
   have hn:noStr s = false:=by rw [← hy3]; simpa using hc
   refine CallP.mk _ _ (samePres_pc s.1 (g,r,()) ns) ?_ (fun p h=>h.elim)
   rintro ⟨y4,_⟩ z hy4
   have hy4:y4 = decide (s.1 = (g,r,())):=hy4
   refine BrP.mk' (fun hc=>?_) (fun hc=>?_)
   ·have hc:(!y4) = true:=hc
    exact no (b:=(noStr s || decide (s.1 = (g,r,())))) (fun h=>(hT h).2.2.2.2.2.2.2.2.2.1) (by rw [hn,← hy4]; simpa using hc)
   have hc:(!y4) = false:=hc
   refine SameV.mk rfl (SameV.mk rfl ?_)
   exact ⟨wm,(by have h4:y4 = true:=(by simpa using hc); rw [← hy4,h4]; simp)⟩
  have hc:(!y3) = false:=hc
  have hn:noStr s = true:=by rw [← hy3]; simpa using hc
  refine SameV.mk rfl (SameV.mk rfl ?_)
  exact ⟨wm,by rw [hn]; rfl⟩
 rintro _ ⟨wmap,wstr⟩
 refine CallP.mk _ _ (wstr_pc s ls) ?_ (fun p h=>h.elim)
 rintro ⟨y,_⟩ z hy
 have hy:y = (([s.2.1] ++ s.2.2.1).all autW && (s.2.2.2.2.1.all (fun t=>cellsW t.2.2.2.2.1) && s.2.2.2.2.2.1.all (fun t=>cellsW t.2.2.1))):=hy
 show y = writable (k,(g,r,()),u,v,n,d,(cj,ring,()),(sk,sm,si,sp,()),im,m,s,())
 have hr:r.all (fun q=>isW q && !q.isEmpty) = true:=by
  rw [List.all_eq_true] at wr wne ⊢
  intro q hq
  rw [wr q hq]
  exact wne q hq
 simp only [List.all_cons,List.all_nil,Bool.and_eq_true] at ww
 rw [hW,k1,k2,ww.1,ww.2.1,ww.2.2.1,hr,c1,c2,wmap,wstr,hS,wd,hy]
 simp only [List.all_append,List.all_cons,List.all_nil,Bool.and_true,Bool.true_and,Bool.and_assoc]
theorem pwritable_pc (c:Clm) (hl:Lim NN claimT c):PC Tryz.prog 15 sg15 (c,()) (fun y _=>y.1 = writable c) (fun _=>False):=by
 obtain ⟨k,⟨g,r,_⟩,u,v,n,d,⟨cj,ring,_⟩,⟨sk,sm,si,sp,_⟩,im,m,s,_⟩:=c
 exact pwritable_pc' k g r u v n d cj ring sk sm si sp im m s hl
end Go.Proofs.YtpifnlfmojfgpaaGreatDoor.Pk
end
section
set_option maxRecDepth 10000
set_option maxHeartbeats 400000
namespace Go.Proofs.YtpifnlfmojfgpaaGreatDoor.Rk
open Fw Pw Ct Pk
noncomputable def a105:FAnn where
 loops:=fun | 3=>[.kv 3,.sl 5 (.pv (.str)),.sl 6 (.pv (.int .i64)),.mem 0 0 (.pv autT)] | _=>[]
 joins:=fun | 8=>some [.kv 3,.kv 5,.kv 6,.sl 7 (.pv (.str)),.mem 0 0 (.pv autT)] | 11=>some [.kv 3,.kv 5,.kv 6,.kv 7,.sl 8 (.pv (.lst (.int .i64))),.mem 0 0 (.pv autT)] | _=>none
def sg105:Sig:=⟨[sA,.pv autT],[.any,.any],[sA]⟩
def stW (b:Bool):Str:=if b then [115,116,97,116,101,32,97] else [115,116,97,116,101,32,114]
theorem state_line (p:Bool × List Int):lineS (stateL p) ++ [10] = stW p.1 ++ tailS p.2 ++ [10]:=by
 obtain ⟨b,l⟩:=p
 cases b <;> rfl
theorem states_snoc (D:List (Bool × List Int)) (p:Bool × List Int):textL ((D ++ [p]).map stateL) = textL (D.map stateL) ++ (stW p.1 ++ tailS p.2 ++ [10]):=by
 rw [← state_line]
 simp [textL]
theorem states_len:∀ (D:List (Bool × List Int)),(∀ p ∈ D,RowOk p.2) → (textL (D.map stateL)).length ≤ 440100 * D.length
 | [],_=>by simp [textL]
 | p :: D,h=>by
  have h1:=states_len D fun x hx=>h x (by simp [hx])
  have hp:=h p (by simp)
  have h2:=tail_len p.2 hp.2
  have h3:p.2.length ≤ 20001:=hp.1
  have h4:textL ((p :: D).map stateL) = (lineS (stateL p) ++ [10]) ++ textL (D.map stateL):=rfl
  have h5:(stW p.1).length = 7:=by unfold stW; split <;> rfl
  rw [h4,state_line,List.length_append,List.length_append,List.length_append,List.length_cons]
  simp only [List.length_cons,List.length_nil]
  omega
theorem raut_pc (h:Str) (a:Aut) (hh:h.length ≤ 100) (hl:Lim NN autT a) (hw:autW a = true):PC Tryz.prog 105 sg105 (h,a,()) (fun y _=>y.1 = textL (autL h a)) (fun _=>False):=by
 obtain ⟨sy,st,acc,nx,u⟩:=a
 obtain ⟨l1,l2,l3,l4,_⟩:=hl
 have hlen:acc.length = nx.length:=by simpa [autW] using hw
 have hNN:acc.length ≤ 20001:=l3.1
 have hrow:∀ r ∈ nx,RowOk r:=fun r hr=>⟨(l4.2 r hr).1,(l4.2 r hr).2⟩
 have hz:(acc.zip nx).length = acc.length:=zip_len hlen
 have hb:∀ i,(textL (((acc.zip nx).take i).map stateL)).length ≤ 440100 * 20001:=fun i=>by
  have h1:=states_len ((acc.zip nx).take i) fun p hp=>hrow p.2 (List.of_mem_zip (List.mem_of_mem_take hp)).2
  rw [List.length_take] at h1
  omega
 have h2:(tailS [sy,st]).length ≤ 44:=by
  have:=tail_len [sy,st] fun n hn=>by
   simp only [List.mem_cons,List.not_mem_nil,or_false] at hn
   rcases hn with rfl | rfl <;> assumption
  simpa using this
 refine PC.of a105 [(56,sg56)] (by kernel_rfl) ?_
 refine CallP.mk _ _ (rnumbers_pc h [sy,st] hh ⟨by show 2 ≤ 20001; decide,fun n hn=>by
   simp only [List.mem_cons,List.not_mem_nil,or_false] at hn
   rcases hn with rfl | rfl <;> assumption⟩) ?_ (fun p h=>h.elim)
 rintro ⟨o,_⟩ z ho
 have ho:o = h ++ tailS [sy,st] ++ [10]:=ho
 have hol:o.length ≤ 200:=by rw [ho]; simp only [List.length_append,List.length_cons,List.length_nil]; omega
 repeat refine SameV.mk rfl ?_
 refine LoopP.mk (fun x=>∃ i:Nat,x = (o ++ textL (((acc.zip nx).take i).map stateL),(i:Int),(sy,st,acc,nx,()),()) ∧ i ≤ acc.length) (fun x=>acc.length - x.2.1.toNat) ⟨0,by rw [show o ++ textL (((acc.zip nx).take 0).map stateL) = o by simp [textL]]; rfl,Nat.zero_le _⟩ ?_
 rintro x ⟨i,rfl,hi⟩
 have hbi:=hb i
 refine LenL.mk fun _=>?_
 refine BrP.mk' (fun hc=>?_) (fun hc=>?_)
 ·have hc:(i:Int) < (acc.length:Int):=of_decide_eq_true hc
  have hc:i < acc.length:=by omega
  have hg:acc[i]? = some acc[i]:=List.getElem?_eq_getElem hc
  have hc2:i < nx.length:=by omega
  have hg2:nx[i]? = some nx[i]:=List.getElem?_eq_getElem hc2
  refine JoinP.mk (fun x=>x = (stW acc[i],(sy,st,acc,nx,()),())) ?_ ?_
  rotate_left
  ·refine GetL.is i (x:=acc[i]) rfl hg ?_
   refine BrP.mk' (fun hb=>?_) (fun hb=>?_)
   ·have hb:acc[i] = true:=hb
    repeat refine SameV.mk rfl ?_
    show _ = _
    rw [hb]; rfl
   ·have hb:acc[i] = false:=hb
    repeat refine SameV.mk rfl ?_
    show _ = _
    rw [hb]; rfl
  rintro x rfl
  refine JoinP.mk (fun x=>x = (nx[i],(sy,st,acc,nx,()),())) ?_ ?_
  rotate_left
  ·refine LenL.mk fun _=>?_
   refine BrP.mk' (fun hb=>?_) (fun hb=>?_)
   ·refine GetL.is i (x:=nx[i]) rfl hg2 ?_
    repeat refine SameV.mk rfl ?_
    exact (rfl:(nx[i],(sy,st,acc,nx,()),()) = _)
   ·have hb:¬ (i:Int) < (nx.length:Int):=of_decide_eq_false hb
    omega
  rintro x rfl
  have hri:=hrow nx[i] (List.getElem_mem hc2)
  have hsw:(stW acc[i]).length = 7:=by unfold stW; split <;> rfl
  refine CallP.mk _ _ (rnumbers_pc (stW acc[i]) nx[i] (by omega) hri) ?_ (fun p h=>h.elim)
  rintro ⟨y,_⟩ z hy
  have hy:y = stW acc[i] ++ tailS nx[i] ++ [10]:=hy
  have hyl:y.length ≤ 440100:=by
   have h3:=tail_len nx[i] hri.2
   have h4:nx[i].length ≤ 20001:=hri.1
   rw [hy]; simp only [List.length_append,List.length_cons,List.length_nil]; omega
  refine CatL.mk' (by show (o ++ textL (((acc.zip nx).take i).map stateL)).length + y.length ≤ _; rw [List.length_append]; omega) ?_
  repeat refine SameV.mk rfl ?_
  have hw:IntKind.wrap .i64 ((i:Int) + 1) = ((i + 1:Nat):Int):=Fw.wrap64 (by omega) (by omega)
  have hs:o ++ textL (((acc.zip nx).take (i + 1)).map stateL) = (o ++ textL (((acc.zip nx).take i).map stateL)) ++ y:=by
   have hgz:(acc.zip nx)[i]? = some (acc[i],nx[i]):=by rw [List.getElem?_zip_eq_some]; exact ⟨hg,hg2⟩
   rw [List.take_add_one,hgz]
   show o ++ textL (((acc.zip nx).take i ++ [(acc[i],nx[i])]).map stateL) = _
   rw [states_snoc,hy]; simp only [List.append_assoc]
  refine And.intro (Exists.intro (i + 1) (And.intro ?_ hc)) ?_
  ·rw [← hw,hs]; rfl
  ·show acc.length - (IntKind.wrap .i64 ((i:Int) + 1)).toNat < acc.length - (i:Int).toNat
   rw [hw]; omega
 ·have hc:¬ (i:Int) < (acc.length:Int):=of_decide_eq_false hc
  have hc:i = acc.length:=by omega
  show o ++ textL (((acc.zip nx).take i).map stateL) = _
  rw [List.take_of_length_le (by omega),ho]
  rfl
end Go.Proofs.YtpifnlfmojfgpaaGreatDoor.Rk
end
