/- Parts of a proof, laid one behind the other by our own merge.py: RkSame RkSameC SnLaw SnRow SnFact. -/
import Derived.Test.YtpifnlfmojfgpaaGreatDoorCr10
import Derived.Test.YtpifnlfmojfgpaaGreatDoorCr11
import Derived.Test.YtpifnlfmojfgpaaGreatDoorCr16
import Derived.Test.YtpifnlfmojfgpaaGreatDoorRows
import Derived.ProofKit
import Derived.LaidMore
import Derived.Lay
import Derived.OpenShut
import Derived.ShutString
import Derived.Stop.Joined
import Derived.HandedShaped
import Derived.Shelf.Vars
import Derived.Lib.LaidU8
import Derived.Lib.LaidTab
import Derived.Test.YtpifnlfmojfgpaaGreatDoorSnFactA
import Derived.Test.YtpifnlfmojfgpaaGreatDoorSnFactB
import Derived.Test.YtpifnlfmojfgpaaGreatDoorSnFactC
import Derived.Test.YtpifnlfmojfgpaaGreatDoorChecked
import Derived.JoinedOf
import Derived.SevenTiedAt
import Derived.KernelRfl
set_option linter.unusedVariables false
set_option linter.unusedSimpArgs false
section
set_option maxRecDepth 10000
set_option maxHeartbeats 400000
namespace Go.Proofs.YtpifnlfmojfgpaaGreatDoor.Rk
open Fw Pw Ct Pk
noncomputable def a32:FAnn where
 loops:=fun | 4=>[.kv 0,.kv 1,.sl 5 (.pv (.int .i64))] | _=>[]
 sched:=fun | 6=>runS [(0,false),(1,false),(2,false),(3,false),(4,false),(5,false),(6,false),(7,false),(8,false)] .fin | _=>.fin
noncomputable def a73:FAnn where
 loops:=fun | 4=>[.kv 0,.kv 1,.sl 5 (.pv (.int .i64))] | _=>[]
 sched:=fun | 6=>runS [(0,false),(1,false),(2,false),(3,false),(4,false),(5,false),(6,false),(7,false),(8,false)] .fin | _=>.fin
noncomputable def a33:FAnn where
 loops:=fun | 4=>[.kv 0,.kv 1,.sl 5 (.pv (.int .i64))] | _=>[]
 sched:=fun | 6=>runS [(0,false),(1,false),(2,false),(3,false),(4,false),(5,false),(6,false),(7,false),(8,true),(9,false)] .fin | _=>.fin
def sg32:Sig:=⟨[.pv tIs,.pv tIs],[.any,.any],[bA]⟩
def sg73:Sig:=⟨[.pv tIs,.pv tIs],[.any,.any],[bA]⟩
def sg33:Sig:=⟨[.pv tIss,.pv tIss],[.any,.any],[bA]⟩
theorem rsame32_pc (l:List Int) (hl:l.length ≤ NN):PC Tryz.prog 32 sg32 (l,l,()) (fun y _=>y.1 = true) (fun _=>False):=by
 refine PC.of a32 [] (by kernel_rfl) ?_
 have hNN:l.length ≤ 20001:=hl
 refine LenL.mk fun _=>LenL.mk fun _=>?_
 refine BrP.mk' (fun h=>?_) (fun h=>?_)
 ·have h:((l.length:Int) != (l.length:Int)) = true:=h
  exact absurd rfl (bne_iff_ne.1 h)
 refine SameV.mk rfl (SameV.mk rfl ?_)
 refine LoopP.mk (fun x=>∃ i:Nat,x = ((i:Int),()) ∧ i ≤ l.length) (fun x=>l.length - x.1.toNat) ⟨0,rfl,Nat.zero_le _⟩ ?_
 rintro x ⟨i,rfl,hi⟩
 refine LenL.mk fun _=>?_
 refine BrP.mk' (fun hc=>?_) (fun hc=>?_)
 ·have hc:(i:Int) < (l.length:Int):=of_decide_eq_true hc
  have hc:i < l.length:=by omega
  have hg:l[i]? = some l[i]:=List.getElem?_eq_getElem hc
  have hw:IntKind.wrap .i64 ((i:Int) + 1) = ((i + 1:Nat):Int):=Fw.wrap64 (by omega) (by omega)
  refine GetL.is i (x:=l[i]) rfl hg (GetL.is i (x:=l[i]) rfl hg ?_)
  refine BrP.mk' (fun hb=>?_) (fun hb=>?_)
  ·have hb:(l[i] != l[i]) = true:=hb
   exact absurd rfl (bne_iff_ne.1 hb)
  ·refine SameV.mk rfl (SameV.mk rfl ?_)
   refine And.intro (Exists.intro (i + 1) (And.intro ?_ hc)) ?_
   ·rw [← hw]; rfl
   ·show l.length - (IntKind.wrap .i64 ((i:Int) + 1)).toNat < l.length - (i:Int).toNat
    rw [hw]; omega
 ·exact (rfl:true = true)
theorem rsame73_pc (l:List Int) (hl:l.length ≤ NN):PC Tryz.prog 73 sg73 (l,l,()) (fun y _=>y.1 = true) (fun _=>False):=by
 refine PC.of a73 [] (by kernel_rfl) ?_
 have hNN:l.length ≤ 20001:=hl
 refine LenL.mk fun _=>LenL.mk fun _=>?_
 refine BrP.mk' (fun h=>?_) (fun h=>?_)
 ·have h:((l.length:Int) != (l.length:Int)) = true:=h
  exact absurd rfl (bne_iff_ne.1 h)
 refine SameV.mk rfl (SameV.mk rfl ?_)
 refine LoopP.mk (fun x=>∃ i:Nat,x = ((i:Int),()) ∧ i ≤ l.length) (fun x=>l.length - x.1.toNat) ⟨0,rfl,Nat.zero_le _⟩ ?_
 rintro x ⟨i,rfl,hi⟩
 refine LenL.mk fun _=>?_
 refine BrP.mk' (fun hc=>?_) (fun hc=>?_)
 ·have hc:(i:Int) < (l.length:Int):=of_decide_eq_true hc
  have hc:i < l.length:=by omega
  have hg:l[i]? = some l[i]:=List.getElem?_eq_getElem hc
  have hw:IntKind.wrap .i64 ((i:Int) + 1) = ((i + 1:Nat):Int):=Fw.wrap64 (by omega) (by omega)
  refine GetL.is i (x:=l[i]) rfl hg (GetL.is i (x:=l[i]) rfl hg ?_)
  refine BrP.mk' (fun hb=>?_) (fun hb=>?_)
  ·have hb:(l[i] != l[i]) = true:=hb
   exact absurd rfl (bne_iff_ne.1 hb)
  ·refine SameV.mk rfl (SameV.mk rfl ?_)
   refine And.intro (Exists.intro (i + 1) (And.intro ?_ hc)) ?_
   ·rw [← hw]; rfl
   ·show l.length - (IntKind.wrap .i64 ((i:Int) + 1)).toNat < l.length - (i:Int).toNat
    rw [hw]; omega
 ·exact (rfl:true = true)
theorem rsame33_pc (l:List (List Int)) (hl:Lim NN tIss l):PC Tryz.prog 33 sg33 (l,l,()) (fun y _=>y.1 = true) (fun _=>False):=by
 refine PC.of a33 [(73,sg73)] (by kernel_rfl) ?_
 have hNN:l.length ≤ 20001:=hl.1
 refine LenL.mk fun _=>LenL.mk fun _=>?_
 refine BrP.mk' (fun h=>?_) (fun h=>?_)
 ·have h:((l.length:Int) != (l.length:Int)) = true:=h
  exact absurd rfl (bne_iff_ne.1 h)
 refine SameV.mk rfl (SameV.mk rfl ?_)
 refine LoopP.mk (fun x=>∃ i:Nat,x = ((i:Int),()) ∧ i ≤ l.length) (fun x=>l.length - x.1.toNat) ⟨0,rfl,Nat.zero_le _⟩ ?_
 rintro x ⟨i,rfl,hi⟩
 refine LenL.mk fun _=>?_
 refine BrP.mk' (fun hc=>?_) (fun hc=>?_)
 ·have hc:(i:Int) < (l.length:Int):=of_decide_eq_true hc
  have hc:i < l.length:=by omega
  have hg:l[i]? = some l[i]:=List.getElem?_eq_getElem hc
  have hw:IntKind.wrap .i64 ((i:Int) + 1) = ((i + 1:Nat):Int):=Fw.wrap64 (by omega) (by omega)
  refine GetL.is i (x:=l[i]) rfl hg (GetL.is i (x:=l[i]) rfl hg ?_)
  refine CallP.mk _ _ (rsame73_pc l[i] (hl.2 _ (List.getElem_mem hc)).1) ?_ (fun p h=>h.elim)
  rintro ⟨b,_⟩ z hb
  have hb:b = true:=hb
  refine BrP.mk' (fun hd=>?_) (fun hd=>?_)
  ·have hd:(!b) = true:=hd
   rw [hb] at hd; cases hd
  ·refine SameV.mk rfl (SameV.mk rfl ?_)
   refine And.intro (Exists.intro (i + 1) (And.intro ?_ hc)) ?_
   ·rw [← hw]; rfl
   ·show l.length - (IntKind.wrap .i64 ((i:Int) + 1)).toNat < l.length - (i:Int).toNat
    rw [hw]; omega
 ·exact (rfl:true = true)
end Go.Proofs.YtpifnlfmojfgpaaGreatDoor.Rk
end
section
set_option maxRecDepth 10000
set_option maxHeartbeats 4000000
namespace Go.Proofs.YtpifnlfmojfgpaaGreatDoor.Rk
open Fw Pw Ct Pk
noncomputable def a31:FAnn where
 loops:=fun | 4=>[.kv 0,.kv 1,.kv 12,.sl 13 (.pv (.int .i64))] | _=>[]
 sched:=fun | 6=>runS [(0,false),(1,false),(2,false),(3,false),(4,false),(5,false),(6,false),(7,false),(8,false)] .fin | _=>.fin
noncomputable def a74:FAnn:={}
noncomputable def a108:FAnn where
 loops:=fun | 4=>[.kv 2,.kv 3,.kv 39,.sl 40 (.pv (.int .i64)),.km 0,.km 1] | 9=>[.kv 2,.kv 3,.kv 5,.kv 39,.kv 40,.kv 74,.sl 75 (.pv (.int .i64)),.km 0,.km 1] | _=>[]
 joins:=fun | 3=>some [.kv 2,.kv 3,.km 0,.km 1] | 8=>some [.kv 2,.kv 3,.kv 5,.kv 39,.kv 40,.km 0,.km 1] | _=>none
 sched:=fun | 6=>runS [(0,false),(1,false),(2,false),(3,false),(4,false),(5,false),(6,false),(7,false),(8,false),(9,false),(10,false),(11,false),(12,false),(13,false),(14,false),(15,false),(16,false),(17,false),(18,false),(19,false),(20,false),(21,false),(22,false),(23,false),(24,false),(25,false)] .fin | 11=>runS [(0,false),(1,false),(2,false),(3,false),(4,false),(5,false),(6,false),(7,false),(8,false),(9,false),(10,false),(11,false),(12,false),(13,false),(14,false),(15,false),(16,false)] .fin | _=>.fin
noncomputable def a34:FAnn where
 loops:=fun | 4=>[.kv 2,.kv 3,.sl 5 (.pv (.int .i64)),.km 0,.km 1] | 9=>[.kv 2,.kv 3,.sl 6 (.pv (.int .i64)),.km 0,.km 1] | 14=>[.kv 2,.kv 3,.sl 7 (.pv (.int .i64)),.km 0,.km 1] | 20=>[.kv 2,.kv 3,.sl 10 (.pv (.int .i64)),.km 0,.km 1] | _=>[]
 joins:=fun | 3=>some [.kv 2,.kv 3,.km 0,.km 1] | _=>none
 sched:=fun | 6=>runS [(0,false),(1,false),(2,false),(3,false),(4,false),(5,false),(6,false),(7,false),(8,false),(9,false),(10,true),(11,false)] .fin | 11=>runS [(0,false),(1,false),(2,false),(3,false),(4,false),(5,false),(6,false),(7,false),(8,false),(9,false),(10,false)] .fin | 16=>runS [(0,false),(1,false),(2,false),(3,false),(4,false),(5,false),(6,false),(7,false),(8,false),(9,false)] (.alt 10 11 (runS [(11,false),(12,false),(13,true)] .fin) (runS [(10,false),(12,false),(13,true)] .fin)) | 22=>runS [(0,false),(1,false),(2,false),(3,false),(4,false),(5,false),(6,false),(7,false),(8,false),(9,false),(10,false),(11,false),(12,false),(13,false),(14,false),(15,false),(16,false),(17,false),(18,false),(19,false),(20,false),(21,false),(22,false),(23,false),(24,false),(25,false),(26,false),(27,false),(28,false),(29,false),(30,false),(31,false),(32,false),(33,false),(34,false),(35,false),(36,false),(37,false),(38,false),(39,false),(40,false),(41,true),(42,false),(43,false)] .fin | _=>.fin
 hot:=fun | 16=>[(1000002,0,5),(1000003,0,5)] | _=>[]
noncomputable def a9:FAnn:={}
def sg31:Sig:=⟨[.pv tCs,.pv tCs],[.any,.any],[bA]⟩
def sg74:Sig:=⟨[.pv autT,.pv autT],[.any,.any],[bA]⟩
def sg108:Sig:=⟨[.pv autT,.pv autT],[.any,.any],[bA]⟩
def sg34:Sig:=⟨[.pv strT,.pv strT],[.any,.any],[bA]⟩
def sg9:Sig:=⟨[.pv claimT,.pv claimT],[.any,.any],[bA]⟩
theorem eqok96:EqOk Tryz.prog 96 cellT:=eqok_sib (ts:=9) (ti:=3) (tb:=4) (by kernel_rfl) (by kernel_rfl) (by kernel_rfl) (by kernel_rfl) (by kernel_rfl) (by kernel_rfl) (by kernel_rfl) (by kernel_rfl) (by kernel_rfl) (by kernel_rfl)
theorem beq_self (c:Cell):PT.beq cellT c c = true:=by simp [PT.beq]
theorem rsame31_pc (l:List Cell) (hl:l.length ≤ NN):PC Tryz.prog 31 sg31 (l,l,()) (fun y _=>y.1 = true) (fun _=>False):=by
 refine PC.of a31 [] (by kernel_rfl) ?_
 have hNN:l.length ≤ 20001:=hl
 refine LenL.mk fun _=>LenL.mk fun _=>?_
 refine BrP.mk' (fun hb=>?_) (fun hb=>?_)
 ·have hb:((l.length:Int) != (l.length:Int)) = true:=hb
  exact absurd rfl (bne_iff_ne.1 hb)
 refine LenL.mk fun _=>?_
 refine SameV.mk rfl (SameV.mk rfl (SameV.mk rfl ?_))
 refine LoopP.mk (fun x=>∃ i:Nat,x = ((i:Int),()) ∧ i ≤ l.length) (fun x=>l.length - x.1.toNat) ⟨0,rfl,Nat.zero_le _⟩ ?_
 rintro x ⟨i,rfl,hii⟩
 refine BrP.mk' (fun hc=>?_) (fun hc=>?_)
 rotate_left
 ·exact (rfl:true = true)
 have hc:(i:Int) < (l.length:Int):=of_decide_eq_true hc
 have hci:i < l.length:=by omega
 have hgi:l[i]? = some l[i]:=List.getElem?_eq_getElem hci
 have hmi:l[i] ∈ l:=List.getElem_mem hci
 have hE:∃ q,q = l[i]:=⟨_,rfl⟩
 obtain ⟨q,hqi⟩:=hE
 rw [← hqi] at hgi hmi
 have hwi:IntKind.wrap .i64 ((i:Int) + 1) = ((i + 1:Nat):Int):=Fw.wrap64 (by omega) (by omega)
 refine GetL.is i (x:=q) rfl hgi ?_
 refine GetL.is i (x:=q) rfl hgi ?_
 refine And.intro eqok96 ?_
 refine BrP.mk' (fun hb=>?_) (fun hb=>?_)
 ·have hb:(!(PT.beq cellT q q)) = true:=hb
  rw [beq_self] at hb; cases hb
 refine SameV.mk rfl (SameV.mk rfl (SameV.mk rfl ?_))
 refine And.intro (Exists.intro (i + 1) (And.intro ?_ hci)) ?_
 ·rw [← hwi]; rfl
 ·show l.length - (IntKind.wrap .i64 ((i:Int) + 1)).toNat < l.length - (i:Int).toNat
  rw [hwi]; omega
theorem rsame108_pc (a:Aut) (hl:Lim NN autT a) (hw:autW a = true):PC Tryz.prog 108 sg108 (a,a,()) (fun y _=>y.1 = true) (fun _=>False):=by
 obtain ⟨sy,st,acc,nx,u⟩:=a
 obtain ⟨l1,l2,l3,l4,_⟩:=hl
 have hlen:acc.length = nx.length:=by simpa [autW] using hw
 have hNN:acc.length ≤ 20001:=l3.1
 have hrow:∀ r ∈ nx,r.length ≤ 20001:=fun r hr=>(l4.2 r hr).1
 refine PC.of a108 [] (by kernel_rfl) ?_
 refine JoinP.mk (fun _=>True) ?_ ?_
 rotate_left
 ·refine BrP.mk' (fun hb=>?_) (fun hb=>?_)
  ·have hb:(sy != sy) = true:=hb
   exact absurd rfl (bne_iff_ne.1 hb)
  refine BrP.mk' (fun hb=>?_) (fun hb=>?_)
  ·have hb:(st != st) = true:=hb
   exact absurd rfl (bne_iff_ne.1 hb)
  refine LenL.mk fun _=>LenL.mk fun _=>?_
  refine BrP.mk' (fun hb=>?_) (fun hb=>?_)
  ·have hb:((acc.length:Int) != (acc.length:Int)) = true:=hb
   exact absurd rfl (bne_iff_ne.1 hb)
  refine LenL.mk fun _=>LenL.mk fun _=>?_
  refine BrP.mk' (fun hb=>?_) (fun hb=>?_)
  ·have hb:((nx.length:Int) != (nx.length:Int)) = true:=hb
   exact absurd rfl (bne_iff_ne.1 hb)
  refine SameV.mk rfl (SameV.mk rfl (SameV.mk rfl (SameV.mk rfl ?_)))
  trivial
 rintro _ _
 refine LenL.mk fun _=>?_
 refine SameV.mk rfl (SameV.mk rfl (SameV.mk rfl (SameV.mk rfl (SameV.mk rfl ?_))))
 refine LoopP.mk (fun x=>∃ i:Nat,x = ((i:Int),()) ∧ i ≤ acc.length) (fun x=>acc.length - x.1.toNat) ⟨0,rfl,Nat.zero_le _⟩ ?_
 rintro x ⟨i,rfl,hii⟩
 refine BrP.mk' (fun hc=>?_) (fun hc=>?_)
 rotate_left
 ·exact (rfl:true = true)
 have hc:(i:Int) < (acc.length:Int):=of_decide_eq_true hc
 have hci:i < acc.length:=by omega
 have hgi:acc[i]? = some acc[i]:=List.getElem?_eq_getElem hci
 have hmi:acc[i] ∈ acc:=List.getElem_mem hci
 have hE:∃ q,q = acc[i]:=⟨_,rfl⟩
 obtain ⟨q,hqi⟩:=hE
 rw [← hqi] at hgi hmi
 have hwi:IntKind.wrap .i64 ((i:Int) + 1) = ((i + 1:Nat):Int):=Fw.wrap64 (by omega) (by omega)
 have hn:nx[i]? = some nx[i]:=List.getElem?_eq_getElem (by omega)
 have hmn:nx[i] ∈ nx:=List.getElem_mem (by omega)
 have hE:∃ q,q = nx[i]:=⟨_,rfl⟩
 obtain ⟨row,hrowq⟩:=hE
 rw [← hrowq] at hn hmn
 have hrl:=hrow row hmn
 refine JoinP.mk (fun _=>True) ?_ ?_
 rotate_left
 ·refine GetL.is i (x:=q) rfl hgi ?_
  refine GetL.is i (x:=q) rfl hgi ?_
  refine BrP.mk' (fun hb=>?_) (fun hb=>?_)
  ·have hb:(q != q) = true:=hb
   exact absurd rfl (bne_iff_ne.1 hb)
  refine GetL.is i (x:=row) rfl hn (LenL.mk fun _=>GetL.is i (x:=row) rfl hn (LenL.mk fun _=>?_))
  refine BrP.mk' (fun hb=>?_) (fun hb=>?_)
  ·have hb:((row.length:Int) != (row.length:Int)) = true:=hb
   exact absurd rfl (bne_iff_ne.1 hb)
  refine SameV.mk rfl (SameV.mk rfl (SameV.mk rfl (SameV.mk rfl (SameV.mk rfl (SameV.mk rfl (SameV.mk rfl ?_))))))
  trivial
 rintro _ _
 refine GetL.is i (x:=row) rfl hn (LenL.mk fun _=>?_)
 refine SameV.mk rfl (SameV.mk rfl (SameV.mk rfl (SameV.mk rfl (SameV.mk rfl (SameV.mk rfl (SameV.mk rfl (SameV.mk rfl ?_)))))))
 refine LoopP.mk (fun x=>∃ i:Nat,x = ((i:Int),()) ∧ i ≤ row.length) (fun x=>row.length - x.1.toNat) ⟨0,rfl,Nat.zero_le _⟩ ?_
 rintro x ⟨j,rfl,hij⟩
 refine BrP.mk' (fun hc=>?_) (fun hc=>?_)
 rotate_left
 rotate_left
 ·have hc:(j:Int) < (row.length:Int):=of_decide_eq_true hc
  have hcj:j < row.length:=by omega
  have hgj:row[j]? = some row[j]:=List.getElem?_eq_getElem hcj
  have hmj:row[j] ∈ row:=List.getElem_mem hcj
  have hE:∃ q,q = row[j]:=⟨_,rfl⟩
  obtain ⟨e,hqj⟩:=hE
  rw [← hqj] at hgj hmj
  have hwj:IntKind.wrap .i64 ((j:Int) + 1) = ((j + 1:Nat):Int):=Fw.wrap64 (by omega) (by omega)
  refine GetL.is i (x:=row) rfl hn (GetL.is j (x:=e) rfl hgj (GetL.is i (x:=row) rfl hn (GetL.is j (x:=e) rfl hgj ?_)))
  refine BrP.mk' (fun hb=>?_) (fun hb=>?_)
  ·have hb:(e != e) = true:=hb
   exact absurd rfl (bne_iff_ne.1 hb)
  refine SameV.mk rfl (SameV.mk rfl (SameV.mk rfl (SameV.mk rfl (SameV.mk rfl (SameV.mk rfl (SameV.mk rfl (SameV.mk rfl ?_)))))))
  refine And.intro (Exists.intro (j + 1) (And.intro ?_ hcj)) ?_
  ·rw [← hwj]; rfl
  ·show row.length - (IntKind.wrap .i64 ((j:Int) + 1)).toNat < row.length - (j:Int).toNat
   rw [hwj]; omega
 refine SameV.mk rfl (SameV.mk rfl (SameV.mk rfl (SameV.mk rfl (SameV.mk rfl ?_))))
 refine And.intro (Exists.intro (i + 1) (And.intro ?_ hci)) ?_
 ·rw [← hwi]; rfl
 ·show acc.length - (IntKind.wrap .i64 ((i:Int) + 1)).toNat < acc.length - (i:Int).toNat
  rw [hwi]; omega
theorem rsame74_pc (a:Aut) (hl:Lim NN autT a) (hw:autW a = true):PC Tryz.prog 74 sg74 (a,a,()) (fun y _=>y.1 = true) (fun _=>False):=by
 refine PC.of a74 [(108,sg108)] (by kernel_rfl) ?_
 refine CallP.mk _ _ (rsame108_pc a hl hw) ?_ (fun p h=>h.elim)
 rintro ⟨y,_⟩ z hy
 exact hy
theorem rsame34_pc (s:Strc) (hl:Lim NN strT s) (hw:strW s = true):PC Tryz.prog 34 sg34 (s,s,()) (fun y _=>y.1 = true) (fun _=>False):=by
 obtain ⟨p,au,mu,df,stp,en,u⟩:=s
 obtain ⟨l1,l2,l3,l4,l5,l6,_⟩:=hl
 simp only [strW,Bool.and_eq_true,List.all_eq_true] at hw
 obtain ⟨⟨⟨⟨w1,w2⟩,w3⟩,w4⟩,w5⟩:=hw
 have np:p.2.1.length ≤ NN:=l1.2.1.1
 have n3:mu.length ≤ 20001:=l3.1
 have n4:df.length ≤ 20001:=l4.1
 have n5:stp.length ≤ 20001:=l5.1
 have n6:en.length ≤ 20001:=l6.1
 refine PC.of a34 [(30,sg30),(31,sg31),(74,sg74)] (by kernel_rfl) ?_
 refine JoinP.mk (fun _=>True) ?_ ?_
 rotate_left
 ·refine CallP.mk _ _ (rsamepres_pc p p np) ?_ (fun p h=>h.elim)
  rintro ⟨y,_⟩ z hy
  have hy:y = true:=by have hy:y = _:=hy; rw [hy] <;> simp
  refine BrP.mk' (fun hb=>?_) (fun hb=>?_)
  ·have hb:(!y) = true:=hb
   rw [hy] at hb; cases hb
  refine CallP.mk _ _ (rsame74_pc au l2 w1) ?_ (fun p h=>h.elim)
  rintro ⟨y,_⟩ z hy
  have hy:y = true:=by have hy:y = _:=hy; rw [hy] <;> simp
  refine BrP.mk' (fun hb=>?_) (fun hb=>?_)
  ·have hb:(!y) = true:=hb
   rw [hy] at hb; cases hb
  refine LenL.mk fun _=>LenL.mk fun _=>?_
  refine BrP.mk' (fun hb=>?_) (fun hb=>?_)
  ·have hb:((mu.length:Int) != (mu.length:Int)) = true:=hb
   exact absurd rfl (bne_iff_ne.1 hb)
  refine LenL.mk fun _=>LenL.mk fun _=>?_
  refine BrP.mk' (fun hb=>?_) (fun hb=>?_)
  ·have hb:((df.length:Int) != (df.length:Int)) = true:=hb
   exact absurd rfl (bne_iff_ne.1 hb)
  refine LenL.mk fun _=>LenL.mk fun _=>?_
  refine BrP.mk' (fun hb=>?_) (fun hb=>?_)
  ·have hb:((stp.length:Int) != (stp.length:Int)) = true:=hb
   exact absurd rfl (bne_iff_ne.1 hb)
  refine LenL.mk fun _=>LenL.mk fun _=>?_
  refine BrP.mk' (fun hb=>?_) (fun hb=>?_)
  ·have hb:((en.length:Int) != (en.length:Int)) = true:=hb
   exact absurd rfl (bne_iff_ne.1 hb)
  refine SameV.mk rfl (SameV.mk rfl (SameV.mk rfl (SameV.mk rfl ?_)))
  trivial
 rintro _ _
 refine SameV.mk rfl (SameV.mk rfl (SameV.mk rfl (SameV.mk rfl ?_)))
 refine LoopP.mk (fun x=>∃ i:Nat,x = ((i:Int),()) ∧ i ≤ mu.length) (fun x=>mu.length - x.1.toNat) ⟨0,rfl,Nat.zero_le _⟩ ?_
 rintro x ⟨i1,rfl,hii1⟩
 refine LenL.mk fun _=>?_
 refine BrP.mk' (fun hc=>?_) (fun hc=>?_)
 rotate_left
 rotate_left
 ·have hc:(i1:Int) < (mu.length:Int):=of_decide_eq_true hc
  have hci1:i1 < mu.length:=by omega
  have hgi1:mu[i1]? = some mu[i1]:=List.getElem?_eq_getElem hci1
  have hmi1:mu[i1] ∈ mu:=List.getElem_mem hci1
  have hE:∃ q,q = mu[i1]:=⟨_,rfl⟩
  obtain ⟨q,hqi1⟩:=hE
  rw [← hqi1] at hgi1 hmi1
  have hwi1:IntKind.wrap .i64 ((i1:Int) + 1) = ((i1 + 1:Nat):Int):=Fw.wrap64 (by omega) (by omega)
  refine GetL.is i1 (x:=q) rfl hgi1 ?_
  refine GetL.is i1 (x:=q) rfl hgi1 ?_
  refine CallP.mk _ _ (rsame74_pc q (l3.2 q hmi1) (w2 q hmi1)) ?_ (fun p h=>h.elim)
  rintro ⟨y,_⟩ z hy
  have hy:y = true:=by have hy:y = _:=hy; rw [hy] <;> simp
  refine BrP.mk' (fun hb=>?_) (fun hb=>?_)
  ·have hb:(!y) = true:=hb
   rw [hy] at hb; cases hb
  refine SameV.mk rfl (SameV.mk rfl (SameV.mk rfl (SameV.mk rfl ?_)))
  refine And.intro (Exists.intro (i1 + 1) (And.intro ?_ hci1)) ?_
  ·rw [← hwi1]; rfl
  ·show mu.length - (IntKind.wrap .i64 ((i1:Int) + 1)).toNat < mu.length - (i1:Int).toNat
   rw [hwi1]; omega
 refine SameV.mk rfl (SameV.mk rfl (SameV.mk rfl (SameV.mk rfl ?_)))
 refine LoopP.mk (fun x=>∃ i:Nat,x = ((i:Int),()) ∧ i ≤ df.length) (fun x=>df.length - x.1.toNat) ⟨0,rfl,Nat.zero_le _⟩ ?_
 rintro x ⟨i2,rfl,hii2⟩
 refine LenL.mk fun _=>?_
 refine BrP.mk' (fun hc=>?_) (fun hc=>?_)
 rotate_left
 rotate_left
 ·have hc:(i2:Int) < (df.length:Int):=of_decide_eq_true hc
  have hci2:i2 < df.length:=by omega
  have hgi2:df[i2]? = some df[i2]:=List.getElem?_eq_getElem hci2
  have hmi2:df[i2] ∈ df:=List.getElem_mem hci2
  have hE:∃ q,q = df[i2]:=⟨_,rfl⟩
  obtain ⟨q,hqi2⟩:=hE
  rw [← hqi2] at hgi2 hmi2
  have hwi2:IntKind.wrap .i64 ((i2:Int) + 1) = ((i2 + 1:Nat):Int):=Fw.wrap64 (by omega) (by omega)
  refine GetL.is i2 (x:=q) rfl hgi2 ?_
  refine GetL.is i2 (x:=q) rfl hgi2 ?_
  refine BrP.mk' (fun hb=>?_) (fun hb=>?_)
  ·have hb:(q != q) = true:=hb
   exact absurd rfl (bne_iff_ne.1 hb)
  refine SameV.mk rfl (SameV.mk rfl (SameV.mk rfl (SameV.mk rfl ?_)))
  refine And.intro (Exists.intro (i2 + 1) (And.intro ?_ hci2)) ?_
  ·rw [← hwi2]; rfl
  ·show df.length - (IntKind.wrap .i64 ((i2:Int) + 1)).toNat < df.length - (i2:Int).toNat
   rw [hwi2]; omega
 refine SameV.mk rfl (SameV.mk rfl (SameV.mk rfl (SameV.mk rfl ?_)))
 refine LoopP.mk (fun x=>∃ i:Nat,x = ((i:Int),()) ∧ i ≤ stp.length) (fun x=>stp.length - x.1.toNat) ⟨0,rfl,Nat.zero_le _⟩ ?_
 rintro x ⟨i3,rfl,hii3⟩
 refine LenL.mk fun _=>?_
 refine BrP.mk' (fun hc=>?_) (fun hc=>?_)
 rotate_left
 rotate_left
 ·have hc:(i3:Int) < (stp.length:Int):=of_decide_eq_true hc
  have hci3:i3 < stp.length:=by omega
  have hgi3:stp[i3]? = some stp[i3]:=List.getElem?_eq_getElem hci3
  have hmi3:stp[i3] ∈ stp:=List.getElem_mem hci3
  have hE:∃ q,q = stp[i3]:=⟨_,rfl⟩
  obtain ⟨q,hqi3⟩:=hE
  rw [← hqi3] at hgi3 hmi3
  have hwi3:IntKind.wrap .i64 ((i3:Int) + 1) = ((i3 + 1:Nat):Int):=Fw.wrap64 (by omega) (by omega)
  refine GetL.is i3 (x:=q) rfl hgi3 ?_
  refine GetL.is i3 (x:=q) rfl hgi3 ?_
  refine And.intro ?_ ?_
  ·refine BrP.mk' (fun hb=>?_) (fun hb=>?_)
   ·have hb:(q.1 != q.1) = true:=hb
    exact absurd rfl (bne_iff_ne.1 hb)
   refine BrP.mk' (fun hb=>?_) (fun hb=>?_)
   ·have hb:(q.2.1 != q.2.1) = true:=hb
    exact absurd rfl (bne_iff_ne.1 hb)
   refine BrP.mk' (fun hb=>?_) (fun hb=>?_)
   ·have hb:(q.2.2.1 != q.2.2.1) = true:=hb
    exact absurd rfl (bne_iff_ne.1 hb)
   refine BrP.mk' (fun hb=>?_) (fun hb=>?_)
   ·have hb:(q.2.2.2.1 != q.2.2.2.1) = true:=hb
    exact absurd rfl (bne_iff_ne.1 hb)
   refine CallP.mk _ _ (rsame31_pc q.2.2.2.2.1 (l5.2 q hmi3).2.2.2.2.1.1) ?_ (fun p h=>h.elim)
   rintro ⟨y,_⟩ z hy
   have hy:y = true:=by have hy:y = _:=hy; rw [hy] <;> simp
   refine BrP.mk' (fun hb=>?_) (fun hb=>?_)
   ·have hb:(!y) = true:=hb
    rw [hy] at hb; cases hb
   refine SameV.mk rfl (SameV.mk rfl (SameV.mk rfl (SameV.mk rfl ?_)))
   refine And.intro (Exists.intro (i3 + 1) (And.intro ?_ hci3)) ?_
   ·rw [← hwi3]; rfl
   ·show stp.length - (IntKind.wrap .i64 ((i3:Int) + 1)).toNat < stp.length - (i3:Int).toNat
    rw [hwi3]; omega
  ·refine BrP.mk' (fun hb=>?_) (fun hb=>?_)
   ·have hb:(q.1 != q.1) = true:=hb
    exact absurd rfl (bne_iff_ne.1 hb)
   refine BrP.mk' (fun hb=>?_) (fun hb=>?_)
   ·have hb:(q.2.1 != q.2.1) = true:=hb
    exact absurd rfl (bne_iff_ne.1 hb)
   refine BrP.mk' (fun hb=>?_) (fun hb=>?_)
   ·have hb:(q.2.2.1 != q.2.2.1) = true:=hb
    exact absurd rfl (bne_iff_ne.1 hb)
   refine BrP.mk' (fun hb=>?_) (fun hb=>?_)
   ·have hb:(q.2.2.2.1 != q.2.2.2.1) = true:=hb
    exact absurd rfl (bne_iff_ne.1 hb)
   refine CallP.mk _ _ (rsame31_pc q.2.2.2.2.1 (l5.2 q hmi3).2.2.2.2.1.1) ?_ (fun p h=>h.elim)
   rintro ⟨y,_⟩ z hy
   have hy:y = true:=by have hy:y = _:=hy; rw [hy] <;> simp
   refine BrP.mk' (fun hb=>?_) (fun hb=>?_)
   ·have hb:(!y) = true:=hb
    rw [hy] at hb; cases hb
   refine SameV.mk rfl (SameV.mk rfl (SameV.mk rfl (SameV.mk rfl ?_)))
   refine And.intro (Exists.intro (i3 + 1) (And.intro ?_ hci3)) ?_
   ·rw [← hwi3]; rfl
   ·show stp.length - (IntKind.wrap .i64 ((i3:Int) + 1)).toNat < stp.length - (i3:Int).toNat
    rw [hwi3]; omega
 refine SameV.mk rfl (SameV.mk rfl (SameV.mk rfl (SameV.mk rfl ?_)))
 refine LoopP.mk (fun x=>∃ i:Nat,x = ((i:Int),()) ∧ i ≤ en.length) (fun x=>en.length - x.1.toNat) ⟨0,rfl,Nat.zero_le _⟩ ?_
 rintro x ⟨i4,rfl,hii4⟩
 refine LenL.mk fun _=>?_
 refine BrP.mk' (fun hc=>?_) (fun hc=>?_)
 rotate_left
 ·exact (rfl:true = true)
 have hc:(i4:Int) < (en.length:Int):=of_decide_eq_true hc
 have hci4:i4 < en.length:=by omega
 have hgi4:en[i4]? = some en[i4]:=List.getElem?_eq_getElem hci4
 have hmi4:en[i4] ∈ en:=List.getElem_mem hci4
 have hE:∃ q,q = en[i4]:=⟨_,rfl⟩
 obtain ⟨q,hqi4⟩:=hE
 rw [← hqi4] at hgi4 hmi4
 have hwi4:IntKind.wrap .i64 ((i4:Int) + 1) = ((i4 + 1:Nat):Int):=Fw.wrap64 (by omega) (by omega)
 refine GetL.is i4 (x:=q) rfl hgi4 ?_
 refine GetL.is i4 (x:=q) rfl hgi4 ?_
 refine BrP.mk' (fun hb=>?_) (fun hb=>?_)
 ·have hb:(q.1 != q.1) = true:=hb
  exact absurd rfl (bne_iff_ne.1 hb)
 refine GetL.is i4 (x:=q) rfl hgi4 ?_
 refine GetL.is i4 (x:=q) rfl hgi4 ?_
 refine BrP.mk' (fun hb=>?_) (fun hb=>?_)
 ·have hb:(q.2.1 != q.2.1) = true:=hb
  exact absurd rfl (bne_iff_ne.1 hb)
 refine GetL.is i4 (x:=q) rfl hgi4 ?_
 refine GetL.is i4 (x:=q) rfl hgi4 ?_
 refine CallP.mk _ _ (rsame31_pc q.2.2.1 (l6.2 q hmi4).2.2.1.1) ?_ (fun p h=>h.elim)
 rintro ⟨y,_⟩ z hy
 have hy:y = true:=by have hy:y = _:=hy; rw [hy] <;> simp
 refine BrP.mk' (fun hb=>?_) (fun hb=>?_)
 ·have hb:(!y) = true:=hb
  rw [hy] at hb; cases hb
 refine SameV.mk rfl (SameV.mk rfl (SameV.mk rfl (SameV.mk rfl ?_)))
 refine And.intro (Exists.intro (i4 + 1) (And.intro ?_ hci4)) ?_
 ·rw [← hwi4]; rfl
 ·show en.length - (IntKind.wrap .i64 ((i4:Int) + 1)).toNat < en.length - (i4:Int).toNat
  rw [hwi4]; omega
theorem rsame9_pc' (k:Int) (p:Pres) (u v:Str) (n:Int) (d:List Cell) (cj:Str) (ring:List Cell) (sk sm:Int) (si:List Int) (sp:List (List Int)) (im:List Int) (mp:Pres) (md:Int) (mi:List (List Int)) (st:Strc)
  (hl:Lim NN claimT (k,p,u,v,n,d,(cj,ring,()),(sk,sm,si,sp,()),im,(mp,md,mi,()),st,())) (hw:strW st = true) :
  PC Tryz.prog 9 sg9 ((k,p,u,v,n,d,(cj,ring,()),(sk,sm,si,sp,()),im,(mp,md,mi,()),st,()),(k,p,u,v,n,d,(cj,ring,()),(sk,sm,si,sp,()),im,(mp,md,mi,()),st,()),()) (fun y _=>y.1 = true) (fun _=>False):=by
 obtain ⟨lk,lp,lu,lv,ln,ld,⟨lcj,lring,_⟩,⟨lsk,lsm,lsi,lsp,_⟩,lim,⟨lmp,lmd,lmi,_⟩,lst,_⟩:=hl
 have np:p.2.1.length ≤ NN:=lp.2.1.1
 have nmp:mp.2.1.length ≤ NN:=lmp.2.1.1
 refine PC.of a9 [(30,sg30),(31,sg31),(32,sg32),(33,sg33),(34,sg34)] (by kernel_rfl) ?_
 refine BrP.mk' (fun hb=>?_) (fun hb=>?_)
 rotate_left
 ·have hb:(k == k) = false:=hb
  simp at hb
 refine CallP.mk _ _ (rsamepres_pc p p np) ?_ (fun p h=>h.elim)
 rintro ⟨y,_⟩ z hy
 have hy:y = true:=by have hy:y = _:=hy; rw [hy] <;> simp
 refine BrP.mk' (fun hb=>?_) (fun hb=>?_)
 rotate_left
 ·have hb:y = false:=hb
  rw [hy] at hb; cases hb
 refine BrP.mk' (fun hb=>?_) (fun hb=>?_)
 rotate_left
 ·have hb:(u == u) = false:=hb
  simp at hb
 refine BrP.mk' (fun hb=>?_) (fun hb=>?_)
 rotate_left
 ·have hb:(v == v) = false:=hb
  simp at hb
 refine BrP.mk' (fun hb=>?_) (fun hb=>?_)
 rotate_left
 ·have hb:(n == n) = false:=hb
  simp at hb
 refine CallP.mk _ _ (rsame31_pc d ld.1) ?_ (fun p h=>h.elim)
 rintro ⟨y,_⟩ z hy
 have hy:y = true:=by have hy:y = _:=hy; rw [hy] <;> simp
 refine BrP.mk' (fun hb=>?_) (fun hb=>?_)
 rotate_left
 ·have hb:y = false:=hb
  rw [hy] at hb; cases hb
 refine BrP.mk' (fun hb=>?_) (fun hb=>?_)
 rotate_left
 ·have hb:(cj == cj) = false:=hb
  simp at hb
 refine CallP.mk _ _ (rsame31_pc ring lring.1) ?_ (fun p h=>h.elim)
 rintro ⟨y,_⟩ z hy
 have hy:y = true:=by have hy:y = _:=hy; rw [hy] <;> simp
 refine BrP.mk' (fun hb=>?_) (fun hb=>?_)
 rotate_left
 ·have hb:y = false:=hb
  rw [hy] at hb; cases hb
 refine BrP.mk' (fun hb=>?_) (fun hb=>?_)
 rotate_left
 ·have hb:(sk == sk) = false:=hb
  simp at hb
 refine BrP.mk' (fun hb=>?_) (fun hb=>?_)
 rotate_left
 ·have hb:(sm == sm) = false:=hb
  simp at hb
 refine CallP.mk _ _ (rsame32_pc si lsi.1) ?_ (fun p h=>h.elim)
 rintro ⟨y,_⟩ z hy
 have hy:y = true:=by have hy:y = _:=hy; rw [hy] <;> simp
 refine BrP.mk' (fun hb=>?_) (fun hb=>?_)
 rotate_left
 ·have hb:y = false:=hb
  rw [hy] at hb; cases hb
 refine CallP.mk _ _ (rsame33_pc sp lsp) ?_ (fun p h=>h.elim)
 rintro ⟨y,_⟩ z hy
 have hy:y = true:=by have hy:y = _:=hy; rw [hy] <;> simp
 refine BrP.mk' (fun hb=>?_) (fun hb=>?_)
 rotate_left
 ·have hb:y = false:=hb
  rw [hy] at hb; cases hb
 refine CallP.mk _ _ (rsame32_pc im lim.1) ?_ (fun p h=>h.elim)
 rintro ⟨y,_⟩ z hy
 have hy:y = true:=by have hy:y = _:=hy; rw [hy] <;> simp
 refine BrP.mk' (fun hb=>?_) (fun hb=>?_)
 rotate_left
 ·have hb:y = false:=hb
  rw [hy] at hb; cases hb
 refine CallP.mk _ _ (rsamepres_pc mp mp nmp) ?_ (fun p h=>h.elim)
 rintro ⟨y,_⟩ z hy
 have hy:y = true:=by have hy:y = _:=hy; rw [hy] <;> simp
 refine BrP.mk' (fun hb=>?_) (fun hb=>?_)
 rotate_left
 ·have hb:y = false:=hb
  rw [hy] at hb; cases hb
 refine BrP.mk' (fun hb=>?_) (fun hb=>?_)
 rotate_left
 ·have hb:(md == md) = false:=hb
  simp at hb
 refine CallP.mk _ _ (rsame33_pc mi lmi) ?_ (fun p h=>h.elim)
 rintro ⟨y,_⟩ z hy
 have hy:y = true:=by have hy:y = _:=hy; rw [hy] <;> simp
 refine BrP.mk' (fun hb=>?_) (fun hb=>?_)
 rotate_left
 ·have hb:y = false:=hb
  rw [hy] at hb; cases hb
 refine CallP.mk _ _ (rsame34_pc st lst hw) ?_ (fun p h=>h.elim)
 rintro ⟨y,_⟩ z hy
 exact hy
theorem rsame9_pc (c:Clm) (hl:Lim NN claimT c) (hw:strW c.2.2.2.2.2.2.2.2.2.2.1 = true):PC Tryz.prog 9 sg9 (c,c,()) (fun y _=>y.1 = true) (fun _=>False):=by
 obtain ⟨k,p,u,v,n,d,⟨cj,ring,_⟩,⟨sk,sm,si,sp,_⟩,im,⟨mp,md,mi,_⟩,st,_⟩:=c
 exact rsame9_pc' k p u v n d cj ring sk sm si sp im mp md mi st hl hw
end Go.Proofs.YtpifnlfmojfgpaaGreatDoor.Rk
end
section
set_option maxRecDepth 20000
set_option maxHeartbeats 4000000
namespace Go.Proofs.YtpifnlfmojfgpaaGreatDoor.Sn
open Fw Pw Ct Rk Pk
noncomputable def a4:FAnn:={}
def sg4:Sig:=⟨[sA],[.any],[bA]⟩
theorem lim_zero:Lim NN claimT zeroClm:=by
 have h0:∀ {α:Type} {p:α → Prop},([]:List α).length ≤ NN ∧ ∀ x ∈ ([]:List α),p x:=fun {α p}=>⟨Nat.zero_le _,fun x hx=>by cases hx⟩
 have hs:Lim NN .str []:=Nat.zero_le _
 exact ⟨lim0,⟨lim0,h0,trivial⟩,hs,hs,lim0,h0,⟨hs,h0,trivial⟩,⟨lim0,lim0,h0,h0,trivial⟩,h0,⟨⟨lim0,h0,trivial⟩,lim0,h0,trivial⟩,⟨⟨lim0,h0,trivial⟩,⟨lim0,lim0,h0,h0,trivial⟩,h0,h0,h0,h0,trivial⟩,trivial⟩
theorem w_str {c:Clm} (h:writable c = true):strW c.2.2.2.2.2.2.2.2.2.2.1 = true:=by
 simp only [writable,Bool.and_eq_true] at h
 exact h.2
theorem same_zero:PC Tryz.prog 9 sg9 (zeroClm,zeroClm,()) (fun y _=>y = (true,())) (fun _=>False):=q_of (rsame9_pc zeroClm lim_zero rfl) fun y z h=>by
 obtain ⟨a,b⟩:=y
 have h:a = true:=h
 rw [h]
theorem same_is {t:Str} {c:Clm} (h:IsText t c):PC Tryz.prog 9 sg9 (c,c,()) (fun y _=>y = (true,())) (fun _=>False):=q_of (rsame9_pc c h.lim (w_str h.w)) fun y z h=>by
 obtain ⟨a,b⟩:=y
 have h:a = true:=h
 rw [h]
theorem text_is {t:Str} {c:Clm} (h:IsText t c) (ht:t.length ≤ 20000):PC Tryz.prog 6 sg6 (c,()) (fun y _=>y = (t,0,())) (fun _=>False):=q_of (text_pc c h.lim) fun y z hy=>by
 rw [show y = textR c from hy]
 unfold textR
 rw [h.w,if_pos rfl,h.t,if_pos (by omega)]
theorem law_pc (t:Str):PC Tryz.prog 4 sg4 (t,()) (fun y _=>y = (true,())) (fun _=>False):=by
 refine PC.of a4 [(11,sg11),(12,sg12),(9,sg9),(10,sg10),(6,sg6)] (by kernel_rfl) ?_
 refine LenL.mk fun _=>?_
 refine BrP.mk' (fun h=>?_) (fun h=>?_)
 ·have h:(t.length:Int) > 20000:=of_decide_eq_true h
  refine LenL.mk fun _=>?_
  refine BrP.mk' (fun h2=>?_) (fun h2=>?_)
  ·exact rfl
  have h2:¬ (t.length:Int) ≤ 2000000:=of_decide_eq_false h2
  have hlen:t.length > 2000000:=by omega
  refine CallP.mk _ _ (pread_long t hlen) ?_ (fun p h=>h.elim)
  rintro y z rfl
  refine CallP.mk _ _ (rread_long t hlen) ?_ (fun p h=>h.elim)
  rintro y z rfl
  refine BrP.no rfl ?_
  refine CallP.mk _ _ same_zero ?_ (fun p h=>h.elim)
  rintro y z rfl
  refine BrP.no rfl ?_
  refine BrP.yes rfl ?_
  refine CallP.mk _ _ sane_pc ?_ (fun p h=>h.elim)
  rintro y z rfl
  exact rfl
 have h:¬ (t.length:Int) > 20000:=of_decide_eq_false h
 have hlen:t.length ≤ 20000:=by omega
 refine CallP.mk _ _ (pread_pc t hlen) ?_ (fun p h=>h.elim)
 rintro y1 z1 h1
 rcases h1 with ⟨c,hc,rfl⟩ | ⟨hno,rfl⟩
 ·refine CallP.mk _ _ (rread_pc t hlen) ?_ (fun p h=>h.elim)
  rintro y2 z2 h2
  rcases h2 with ⟨c',hc',rfl⟩ | ⟨hno',_⟩
  ·have:=is_one hc' hc
   subst this
   refine BrP.no rfl ?_
   refine CallP.mk _ _ (same_is hc') ?_ (fun p h=>h.elim)
   rintro y z rfl
   refine BrP.no rfl ?_
   refine BrP.no rfl ?_
   refine CallP.mk _ _ (text_is hc' hlen) ?_ (fun p h=>h.elim)
   rintro y z rfl
   refine CallP.mk _ _ sane_pc ?_ (fun p h=>h.elim)
   rintro y z rfl
   refine BrP.yes rfl ?_
   refine BrP.yes rfl ?_
   exact congrArg (fun b=>(b,())) (beq_self_eq_true t)
  ·exact absurd hc (hno' c)
 ·refine CallP.mk _ _ (rread_pc t hlen) ?_ (fun p h=>h.elim)
  rintro y2 z2 h2
  rcases h2 with ⟨c',hc',_⟩ | ⟨hno',rfl⟩
  ·exact absurd hc' (hno c')
  ·refine BrP.no rfl ?_
   refine CallP.mk _ _ same_zero ?_ (fun p h=>h.elim)
   rintro y z rfl
   refine BrP.no rfl ?_
   refine BrP.yes rfl ?_
   refine CallP.mk _ _ sane_pc ?_ (fun p h=>h.elim)
   rintro y z rfl
   exact rfl
end Go.Proofs.YtpifnlfmojfgpaaGreatDoor.Sn
end
section
set_option maxRecDepth 100000
set_option maxHeartbeats 4000000
namespace Go.Proofs.YtpifnlfmojfgpaaGreatDoor.Sn
open Go.ChangeShapes Go.WideShapes Go.ChangeAt Go.Lib
open Fw Pw Ct Rk Pk
theorem own:ownKnob Tryz.prog.godebug = none:=by kernel_rfl
abbrev laidL:List (String × DataW Unit):=Rows.certReadsRow.laid
theorem laidVars_place {P:Program} {w:World}:∀ {l:List (String × DataW Unit)} {ps:List MemPlace},DataW.LaidVars P w l ps → ∀ n d,(n,d) ∈ l →
  ∃ g t cs fuel p,P.globalNamed n = some g ∧ (P.globals[g]?).map (·.type) = some t ∧ w.var? P n = some cs ∧ DataW.trod (fun _=>()) P w 0 (fun _=>true) false fuel t cs.toList = some (d,p) ∧ ∀ x ∈ MemPlace.row ⟨g,0,none⟩ cs.size,x ∈ ps
 | [],_,_,_,_,hm=>by cases hm
 | (n',d') :: r,ps,h,n,d,hm=>by
  obtain ⟨g,t,cs,fuel,p,q,h1,h2,h3,h4,h5,h6⟩:=h
  rcases List.mem_cons.1 hm with e | e
  ·cases e
   exact ⟨g,t,cs,fuel,p,h1,h2,h3,h4,fun x hx=>by rw [h6]; simp [hx]⟩
  ·obtain ⟨g',t',cs',f',p',k1,k2,k3,k4,k5⟩:=laidVars_place h5 n d e
   exact ⟨g',t',cs',f',p',k1,k2,k3,k4,fun x hx=>by rw [h6]; simp [k5 x hx]⟩
theorem var_heap {W:World} {n:String} {g:Nat} {cs:Array Value} (hg:Tryz.prog.globalNamed n = some g) (h:W.var? Tryz.prog n = some cs):∃ t fr,W.heap[g]? = some (.cells cs t fr):=by
 unfold World.var? at h
 rw [hg] at h
 simp only [Option.bind_some] at h
 split at h
 ·rename_i cs' t fr hh
  simp only [Option.some.injEq] at h
  subst h
  exact ⟨t,fr,hh⟩
 ·cases h
theorem under69:∃ ms,Tryz.prog.underlying 69 = some (.interface ms):=⟨_,Pk.under69⟩
theorem under420:Tryz.prog.underlying 420 = some (.pointer 422):=by kernel_rfl
theorem row420 (u : TypeId) (hu : Tryz.prog.typeName? 3 u = some "*errors.errorString") : u = 420 :=
 typeName_ptr_named (P := Tryz.prog) (nm := "errors.errorString") (by kernel_rfl) (by kernel_rfl) (by decide) u hu
theorem err_of {W : World} (h : laidMet Tryz.prog laidL W) {n : String} {g : Nat} {text : List UInt8} (hg : Tryz.prog.globalNamed n = some g) (hty : (Tryz.prog.globals[g]?).map (·.type) = some 69) (hm : (n, (DataW.iface "*errors.errorString" (.ptr (.agg [.lit (.string text)])) : DataW Unit)) ∈ laidL) :
  ∃ cs t fr,W.heap[g]? = some (.cells cs t fr) ∧ ∃ t p,cs = #[.iface t (.pointer p)]:=by
 obtain ⟨ps,hv,_,hall⟩:=h
 obtain ⟨g',t',cs,fuel,p,k1,k2,k3,k4,k5⟩:=laidVars_place hv _ _ hm
 obtain rfl:=Option.some.inj (hg.symm.trans k1)
 obtain rfl:=Option.some.inj (hty.symm.trans k2)
 obtain ⟨t,fr,hh⟩:=var_heap hg k3
 obtain ⟨ms,hi⟩:=under69
 obtain ⟨f1,u,v,hcs,hn,h1⟩:=iface_of_trod hi k4
 obtain rfl:=row420 u hn
 obtain ⟨f2,a,cs',q,hvv,_,_,_⟩:=ptr_of_trod under420 h1
 have hc:cs = #[.iface 420 v]:=by
  cases cs with | mk l=>simp only at hcs; rw [hcs]
 have hcell:W.cell? ⟨g,0,none⟩ = some (.iface 420 v):=by
  rw [cell_of_row W g 0 cs t fr hh,hc]; rfl
 have ok:=(hall g 0 (k5 _ (by rw [hc]; simp [MemPlace.row]))).2 _ _ hcell
 have hv':v = .pointer (some a):=by
  unfold Value.okWide at ok
  simp only [under420] at ok
  unfold Cell.okWide at ok
  cases v <;> simp [Value.cells,Cell.ok,under420] at ok hvv
  subst hvv
  rfl
 exact ⟨cs,t,fr,hh,420,some a,by rw [hc,hv']⟩
theorem tab_of {W:World} (h:laidMet Tryz.prog laidL W) {n:String} {g:Nat} {t e:TypeId} {len:Nat} {k:IntKind} {zs:List Int} (hg:Tryz.prog.globalNamed n = some g) (hty:(Tryz.prog.globals[g]?).map (·.type) = some t) (ht:Tryz.prog.underlying t = some (.array len e)) (he:Tryz.prog.underlying e = some (.int k))
  (hce:Tryz.prog.cellsOf e = 1) (hct:Tryz.prog.cellsOf t = len) (hm:(n,(tabData k zs:DataW Unit)) ∈ laidL):∃ cs t fr,W.heap[g]? = some (.cells cs t fr) ∧ cs = (zs.map fun z=>Value.int k z).toArray:=by
 obtain ⟨g',t',cs,fuel,p,k1,k2,k3,k4⟩:=laidMet.reads h hm
 obtain rfl:=Option.some.inj (hg.symm.trans k1)
 obtain rfl:=Option.some.inj (hty.symm.trans k2)
 obtain ⟨t,fr,hh⟩:=var_heap hg k3
 refine ⟨cs,t,fr,hh,?_⟩
 have:=cells_of_tab ht he hce hct k4
 cases cs with | mk l=>simp only at this; rw [this]
theorem gok_of {W:World} (h:laidMetH Tryz.prog laidL W) (hs:W.ShapedOpen Tryz.prog):GOk W:=by
 rw [MakeChecks.laidMetH_plain _ _ _ (by kernel_rfl)] at h
 have t0 := tab_of h (n := "cayley/word.letters") (g := 0) (t := 183) (e := 5) (len := 16) (k := .u8) (zs := Pw.lets) (by kernel_rfl) (by kernel_rfl) (by kernel_rfl) (by kernel_rfl) (by kernel_rfl) (by kernel_rfl) (by
  show _ ∈ [_,_,_,_,_,_,_,_]
  simp only [List.mem_cons]
  exact .inr (.inr (.inr (.inr (.inr (.inr (.inl rfl)))))))
 have t4 := tab_of h (n := "internal/strconv.uint64pow10") (g := 4) (t := 329) (e := 259) (len := 20) (k := .u64) (zs := Go.Lib.pow10Tab) (by kernel_rfl) (by kernel_rfl) (by kernel_rfl) (by kernel_rfl) (by kernel_rfl) (by kernel_rfl) (by
  show _ ∈ [_,_,_,_,_,_,_,_]
  simp only [List.mem_cons]
  exact .inr (.inr (.inl rfl)))
 have t5 := err_of h (n := "strconv.ErrSyntax") (g := 5) (by kernel_rfl) (by kernel_rfl) (text := [105, 110, 118, 97, 108, 105, 100, 32, 115, 121, 110, 116, 97, 120]) (by
  show _ ∈ [_,_,_,_,_,_,_,_]
  simp only [List.mem_cons]
  exact .inr (.inr (.inr (.inr (.inr (.inl rfl))))))
 have t6 := err_of h (n := "strconv.ErrRange") (g := 6) (by kernel_rfl) (by kernel_rfl) (text := [118, 97, 108, 117, 101, 32, 111, 117, 116, 32, 111, 102, 32, 114, 97, 110, 103, 101]) (by
  show _ ∈ [_,_,_,_,_,_,_,_]
  simp only [List.mem_cons]
  exact .inr (.inr (.inr (.inr (.inl rfl)))))
 have hgs:Tryz.prog.globals.size = 9:=by kernel_rfl
 have row:∀ g,(∃ z t,((begin Tryz.prog (fun _ _=>0) default).world.heap[g]?).bind Obj.row? = some (z,t)) → g < 9 → g < W.heap.size:=fun g ⟨z,t,hr⟩ hlt=>by
  obtain ⟨cs,hh,_⟩:=hs.1 g z t (by rw [hgs]; exact hlt) hr
  exact (Array.getElem?_eq_some_iff.1 hh).1
 have t3:∃ cs t fr,W.heap[3]? = some (.cells cs t fr) ∧ ∃ m,cs = #[.int .i64 m]:=by
  have hr:((begin Tryz.prog (fun _ _=>0) default).world.heap[3]?).bind Obj.row? = some (#[.int .i64 0],3):=by kernel_rfl
  obtain ⟨cs,hh,hsz,_⟩:=hs.1 3 _ _ (by rw [hgs]; decide) hr
  obtain ⟨m,hm⟩:=cell_of_shapedOpen_int hs (g:=3) (by rw [hgs]; decide) hr rfl (by kernel_rfl) (by kernel_rfl) (show Tryz.prog.underlying 3 = some (.int .i64) by kernel_rfl)
  refine ⟨cs,3,_,hh,m,?_⟩
  rw [cell_of_row W 3 0 cs 3 _ hh] at hm
  have hsz:cs.size = 1:=hsz
  obtain ⟨l⟩:=cs
  match l,hsz,hm with
  | [x],_,hm=>
   have:x = .int .i64 m:=by simpa using hm
   rw [this]
 refine ⟨?_,fun g p hp=>?_⟩
 ·have hr8:(((begin Tryz.prog (fun _ _=>0) default).world.heap[8]?).bind Obj.row?).isSome = true:=by kernel_rfl
  obtain ⟨⟨z,t⟩,hz⟩:=Option.isSome_iff_exists.1 hr8
  have:=row 8 ⟨z,t,hz⟩ (by decide)
  show 9 ≤ W.heap.size
  omega
 ·unfold gtabs at hp
  split at hp <;> first | (cases hp; done) | skip
  ·injection hp with hp; subst hp; exact t0
  ·injection hp with hp; subst hp; exact t3
  ·injection hp with hp; subst hp; exact t4
  ·injection hp with hp; subst hp; exact t5
  ·injection hp with hp; subst hp; exact t6
end Go.Proofs.YtpifnlfmojfgpaaGreatDoor.Sn
end
section
set_option maxRecDepth 100000
namespace Go.Proofs.YtpifnlfmojfgpaaGreatDoor.Facts
theorem closed:joinedFacts Tryz.prog 4 Tryz.f4 Rows.certReadsSpec Rows.certReadsRow = true:=by
 unfold joinedFacts
 simp only [Bool.and_eq_true]
 exact ⟨⟨⟨⟨⟨⟨⟨⟨⟨⟨⟨⟨⟨⟨⟨⟨⟨⟨⟨⟨⟨⟨⟨⟨⟨⟨⟨⟨⟨⟨⟨wf,laidOut⟩,mapsRowed⟩,params⟩,tied⟩,cstops⟩,pstops⟩,cknobs⟩,pknobs⟩,inPlace⟩,unfollowed⟩,recurses⟩,named⟩,maps⟩,ifaces⟩,mapsOut⟩,loops⟩,wideKeys⟩,vars⟩,results⟩,ifacesOut⟩,loopsOut⟩,plainKeys⟩,shortTexts⟩,stopsHeard⟩,mayEnter⟩,lifted⟩,make⟩,kinds⟩,pinned⟩,veiled⟩,veiledFits⟩
end Go.Proofs.YtpifnlfmojfgpaaGreatDoor.Facts
end
