/- Parts of a proof, laid one behind the other by our own merge.py: RkWritable RkLines RkText RkReadR PkRdE PkBuild PkLen Sh2. -/
import Derived.Test.YtpifnlfmojfgpaaGreatDoorCr12
import Derived.Test.YtpifnlfmojfgpaaGreatDoorCr10
import Derived.Test.YtpifnlfmojfgpaaGreatDoorCr8
import Derived.Test.YtpifnlfmojfgpaaGreatDoorCr13
import Derived.Test.YtpifnlfmojfgpaaGreatDoorCr7
import Derived.Test.YtpifnlfmojfgpaaGreatDoorCr9
import Derived.Test.YtpifnlfmojfgpaaGreatDoorProg
import Derived.KernelRfl
set_option linter.unusedVariables false
set_option linter.unusedSimpArgs false
section
set_option maxRecDepth 10000
set_option maxHeartbeats 40000000
namespace Go.Proofs.YtpifnlfmojfgpaaGreatDoor.Rk
open Fw Pw Ct Pk
noncomputable def a21:FAnn where
 loops:=fun | 4=>[.kv 1,.sl 3 (.pv (.int .i64)),.km 0] | 16=>[.kv 4,.sl 5 (.pv (.int .i64)),.km 1] | 21=>[.kv 4,.sl 6 (.pv (.int .i64)),.km 1] | 26=>[.kv 4,.sl 7 (.pv (.int .i64)),.km 1] | 31=>[.kv 4,.sl 8 (.pv (.int .i64)),.km 1] | _=>[]
 joins:=fun | 3=>some [.kv 1,.km 0] | 10=>some [.kv 1,.km 0] | 15=>some [.kv 4,.km 1] | _=>none
 sched:=fun | 18=>runS [(0,false),(1,false),(2,false),(3,false),(4,false),(5,false),(6,false),(7,false),(8,false),(9,false),(10,false),(11,false),(12,false),(13,false),(14,false)] .fin | _=>.fin
def sg21:Sig:=⟨[.pv claimT],[.any],[bA]⟩
theorem all_no {α:Type} {p:α → Bool} {l:List α} {x:α} (hx:x ∈ l) (h:p x = false):l.all p = false:=by
 rw [Bool.eq_false_iff]
 intro ha
 rw [List.all_eq_true.1 ha x hx] at h; cases h
theorem all_next {α:Type} {p:α → Bool} {l:List α} {i:Nat} {x:α} (hg:l[i]? = some x) (ha:(l.take i).all p = true) (h:p x = true):(l.take (i + 1)).all p = true:=by
 rw [List.take_add_one,hg,List.all_append,ha]; simp [h]
theorem strW_zero {s:Strc} (h:noStr s = true):strW s = true:=by rw [noStr_eq h]; rfl
theorem writable_pc' (k g:Int) (r:List Str) (u v:Str) (n:Int) (d:List Cell) (cj:Str) (ring:List Cell) (sk sm:Int) (si:List Int) (sp:List (List Int)) (im:List Int) (m:Map) (s:Strc)
  (hl:Lim NN claimT (k,(g,r,()),u,v,n,d,(cj,ring,()),(sk,sm,si,sp,()),im,m,s,())):PC Tryz.prog 21 sg21 ((k,(g,r,()),u,v,n,d,(cj,ring,()),(sk,sm,si,sp,()),im,m,s,()),()) (fun y _=>y.1 = writable (k,(g,r,()),u,v,n,d,(cj,ring,()),(sk,sm,si,sp,()),im,m,s,())) (fun _=>False):=by
 obtain ⟨lk,⟨lg,lr,_⟩,lu,lv,ln,ld,⟨lcj,lring,_⟩,⟨lsk,lsm,lsi,lsp,_⟩,lim,lm,ls,_⟩:=hl
 have nr:r.length ≤ 20001:=lr.1
 have nd:d.length ≤ NN:=ld.1
 have nring:ring.length ≤ NN:=lring.1
 obtain ⟨q1,q2,q3,q4,q5,q6,_⟩:=ls
 have n3:s.2.2.1.length ≤ 20001:=q3.1
 have n4:s.2.2.2.1.length ≤ 20001:=q4.1
 have n5:s.2.2.2.2.1.length ≤ 20001:=q5.1
 have n6:s.2.2.2.2.2.1.length ≤ 20001:=q6.1
 have nm:m.1.2.1.length ≤ NN:=lm.1.2.1.1
 have ns:s.1.2.1.length ≤ NN:=q1.2.1.1
 have c5:∀ t ∈ s.2.2.2.2.1,t.2.2.2.2.1.length ≤ NN:=fun t ht=>(q5.2 t ht).2.2.2.2.1.1
 have c6:∀ t ∈ s.2.2.2.2.2.1,t.2.2.1.length ≤ NN:=fun t ht=>(q6.2 t ht).2.2.1.1
 have hW:writable (k,(g,r,()),u,v,n,d,(cj,ring,()),(sk,sm,si,sp,()),im,m,s,()) = (decide (1 ≤ k) && decide (k ≤ 9) && isW u && isW v && isW cj && r.all (fun q=>isW q && !q.isEmpty) && cellsW d && cellsW ring && (noMap m || decide (m.1 = (g,r,()))) && (noStr s || decide (s.1 = (g,r,()))) && strW s):=rfl
 have hS:strW s = (autW s.2.1 && s.2.2.1.all autW && s.2.2.2.1.all isW && s.2.2.2.2.1.all (fun t=>cellsW t.2.2.2.2.1) && s.2.2.2.2.2.1.all (fun t=>cellsW t.2.2.1)):=rfl
 have F1:(decide (1 ≤ k)) = false → false = writable (k,(g,r,()),u,v,n,d,(cj,ring,()),(sk,sm,si,sp,()),im,m,s,()):=fun h=>by rw [hW,h]; simp
 have F2:(decide (k ≤ 9)) = false → false = writable (k,(g,r,()),u,v,n,d,(cj,ring,()),(sk,sm,si,sp,()),im,m,s,()):=fun h=>by rw [hW,h]; simp
 have F3:(isW u) = false → false = writable (k,(g,r,()),u,v,n,d,(cj,ring,()),(sk,sm,si,sp,()),im,m,s,()):=fun h=>by rw [hW,h]; simp
 have F4:(isW v) = false → false = writable (k,(g,r,()),u,v,n,d,(cj,ring,()),(sk,sm,si,sp,()),im,m,s,()):=fun h=>by rw [hW,h]; simp
 have F5:(isW cj) = false → false = writable (k,(g,r,()),u,v,n,d,(cj,ring,()),(sk,sm,si,sp,()),im,m,s,()):=fun h=>by rw [hW,h]; simp
 have F6:(r.all (fun q=>isW q && !q.isEmpty)) = false → false = writable (k,(g,r,()),u,v,n,d,(cj,ring,()),(sk,sm,si,sp,()),im,m,s,()):=fun h=>by rw [hW,h]; simp
 have F7:(cellsW d) = false → false = writable (k,(g,r,()),u,v,n,d,(cj,ring,()),(sk,sm,si,sp,()),im,m,s,()):=fun h=>by rw [hW,h]; simp
 have F8:(cellsW ring) = false → false = writable (k,(g,r,()),u,v,n,d,(cj,ring,()),(sk,sm,si,sp,()),im,m,s,()):=fun h=>by rw [hW,h]; simp
 have F9:((noMap m || decide (m.1 = (g,r,())))) = false → false = writable (k,(g,r,()),u,v,n,d,(cj,ring,()),(sk,sm,si,sp,()),im,m,s,()):=fun h=>by rw [hW,h]; simp
 have F10:((noStr s || decide (s.1 = (g,r,())))) = false → false = writable (k,(g,r,()),u,v,n,d,(cj,ring,()),(sk,sm,si,sp,()),im,m,s,()):=fun h=>by rw [hW,h]; simp
 have F11:(strW s) = false → false = writable (k,(g,r,()),u,v,n,d,(cj,ring,()),(sk,sm,si,sp,()),im,m,s,()):=fun h=>by rw [hW,h]; simp
 have G1:(autW s.2.1) = false → false = writable (k,(g,r,()),u,v,n,d,(cj,ring,()),(sk,sm,si,sp,()),im,m,s,()):=fun h=>F11 (by rw [hS,h]; simp)
 have G2:(s.2.2.1.all autW) = false → false = writable (k,(g,r,()),u,v,n,d,(cj,ring,()),(sk,sm,si,sp,()),im,m,s,()):=fun h=>F11 (by rw [hS,h]; simp)
 have G3:(s.2.2.2.1.all isW) = false → false = writable (k,(g,r,()),u,v,n,d,(cj,ring,()),(sk,sm,si,sp,()),im,m,s,()):=fun h=>F11 (by rw [hS,h]; simp)
 have G4:(s.2.2.2.2.1.all (fun t=>cellsW t.2.2.2.2.1)) = false → false = writable (k,(g,r,()),u,v,n,d,(cj,ring,()),(sk,sm,si,sp,()),im,m,s,()):=fun h=>F11 (by rw [hS,h]; simp)
 have G5:(s.2.2.2.2.2.1.all (fun t=>cellsW t.2.2.1)) = false → false = writable (k,(g,r,()),u,v,n,d,(cj,ring,()),(sk,sm,si,sp,()),im,m,s,()):=fun h=>F11 (by rw [hS,h]; simp)
 have FT:(decide (1 ≤ k)) = true → (decide (k ≤ 9)) = true → (isW u) = true → (isW v) = true → (isW cj) = true → (r.all (fun q=>isW q && !q.isEmpty)) = true → (cellsW d) = true → (cellsW ring) = true → ((noMap m || decide (m.1 = (g,r,())))) = true → ((noStr s || decide (s.1 = (g,r,())))) = true → (strW s) = true → true = writable (k,(g,r,()),u,v,n,d,(cj,ring,()),(sk,sm,si,sp,()),im,m,s,()):=fun h1 h2 h3 h4 h5 h6 h7 h8 h9 h10 h11=>by rw [hW,h1,h2,h3,h4,h5,h6,h7,h8,h9,h10,h11]; rfl
 have GT:(autW s.2.1) = true → (s.2.2.1.all autW) = true → (s.2.2.2.1.all isW) = true → (s.2.2.2.2.1.all (fun t=>cellsW t.2.2.2.2.1)) = true → (s.2.2.2.2.2.1.all (fun t=>cellsW t.2.2.1)) = true → strW s = true:=fun h1 h2 h3 h4 h5=>by rw [hS,h1,h2,h3,h4,h5]; rfl
 refine PC.of a21 [(30,sg30),(52,sg52),(53,sg53),(54,sg54),(55,sg55)] (by kernel_rfl) ?_
 refine JoinP.mk (fun _=>(decide (1 ≤ k)) = true ∧ (decide (k ≤ 9)) = true ∧ (isW u) = true ∧ (isW v) = true ∧ (isW cj) = true ∧ (cellsW d) = true ∧ (cellsW ring) = true) ?_ ?_
 rotate_left
 ·refine BrP.mk' (fun hc=>?_) (fun hc=>?_)
  ·have hc:k < (1:Int):=of_decide_eq_true hc
   exact F1 (decide_eq_false (by omega))
  have hk1:¬ k < (1:Int):=of_decide_eq_false hc
  refine BrP.mk' (fun hc=>?_) (fun hc=>?_)
  ·have hc:k > (9:Int):=of_decide_eq_true hc
   exact F2 (decide_eq_false (by omega))
  have hk2:¬ k > (9:Int):=of_decide_eq_false hc
  refine CallP.mk _ _ (risword_pc u) ?_ (fun p h=>h.elim)
  rintro ⟨b,_⟩ z hb
  have hb:b = isW u:=hb
  refine BrP.mk' (fun hc=>?_) (fun hc=>?_)
  ·have hc:(!b) = true:=hc
   exact F3 (by rw [← hb]; simpa using hc)
  have wu:isW u = true:=by
   have hc:(!b) = false:=hc
   rw [← hb]; simpa using hc
  refine CallP.mk _ _ (risword_pc v) ?_ (fun p h=>h.elim)
  rintro ⟨b,_⟩ z hb
  have hb:b = isW v:=hb
  refine BrP.mk' (fun hc=>?_) (fun hc=>?_)
  ·have hc:(!b) = true:=hc
   exact F4 (by rw [← hb]; simpa using hc)
  have wv:isW v = true:=by
   have hc:(!b) = false:=hc
   rw [← hb]; simpa using hc
  refine CallP.mk _ _ (risword_pc cj) ?_ (fun p h=>h.elim)
  rintro ⟨b,_⟩ z hb
  have hb:b = isW cj:=hb
  refine BrP.mk' (fun hc=>?_) (fun hc=>?_)
  ·have hc:(!b) = true:=hc
   exact F5 (by rw [← hb]; simpa using hc)
  have wcj:isW cj = true:=by
   have hc:(!b) = false:=hc
   rw [← hb]; simpa using hc
  refine CallP.mk _ _ (rarecells_pc d nd) ?_ (fun p h=>h.elim)
  rintro ⟨b,_⟩ z hb
  have hb:b = cellsW d:=hb
  refine BrP.mk' (fun hc=>?_) (fun hc=>?_)
  ·have hc:(!b) = true:=hc
   exact F7 (by rw [← hb]; simpa using hc)
  have wd:cellsW d = true:=by
   have hc:(!b) = false:=hc
   rw [← hb]; simpa using hc
  refine CallP.mk _ _ (rarecells_pc ring nring) ?_ (fun p h=>h.elim)
  rintro ⟨b,_⟩ z hb
  have hb:b = cellsW ring:=hb
  refine BrP.mk' (fun hc=>?_) (fun hc=>?_)
  ·have hc:(!b) = true:=hc
   exact F8 (by rw [← hb]; simpa using hc)
  have wring:cellsW ring = true:=by
   have hc:(!b) = false:=hc
   rw [← hb]; simpa using hc
  refine SameV.mk rfl (SameV.mk rfl ?_)
  exact ⟨decide_eq_true (by omega),decide_eq_true (by omega),wu,wv,wcj,wd,wring⟩
 rintro _ ⟨k1,k2,wu,wv,wcj,wd,wring⟩
 refine SameV.mk rfl (SameV.mk rfl ?_)
 refine LoopP.mk (fun x=>∃ i:Nat,x = ((i:Int),()) ∧ i ≤ r.length ∧ (r.take i).all (fun q=>isW q && !q.isEmpty) = true) (fun x=>r.length - x.1.toNat) ⟨0,rfl,Nat.zero_le _,rfl⟩ ?_
 rintro x ⟨i1,rfl,hi,ha⟩
 refine LenL.mk fun _=>?_
 refine BrP.mk' (fun h=>?_) (fun h=>?_)
 ·have h:(i1:Int) < (r.length:Int):=of_decide_eq_true h
  have h:i1 < r.length:=by omega
  have hg:r[i1]? = some r[i1]:=List.getElem?_eq_getElem h
  have hm:r[i1] ∈ r:=List.getElem_mem h
  have hE:∃ q,q = r[i1]:=⟨_,rfl⟩
  obtain ⟨q,hq⟩:=hE
  rw [← hq] at hg hm
  have hw:IntKind.wrap .i64 ((i1:Int) + 1) = ((i1 + 1:Nat):Int):=Fw.wrap64 (by omega) (by omega)
  refine GetL.is i1 (x:=q) rfl hg ?_
  refine BrP.mk' (fun hc=>?_) (fun hc=>?_)
  ·have hc:q = []:=by simpa using hc
   exact F6 (all_no hm (by rw [hc]; rfl))
  have hne:q ≠ []:=by simpa using hc
  refine GetL.is i1 (x:=q) rfl hg ?_
  refine CallP.mk _ _ (risword_pc q) ?_ (fun p h=>h.elim)
  rintro ⟨b,_⟩ z hb
  have hb:b = isW q:=hb
  refine BrP.mk' (fun hc=>?_) (fun hc=>?_)
  ·have hc:(!b) = true:=hc
   have hf:isW q = false:=by rw [← hb]; simpa using hc
   exact F6 (all_no hm (by rw [hf]; rfl))
  have hp:(isW q && !q.isEmpty) = true:=by
   have hc:(!b) = false:=hc
   have ht:isW q = true:=by rw [← hb]; simpa using hc
   rw [ht]; cases q <;> first | exact absurd rfl hne | rfl
  have step:=all_next hg ha hp
  refine SameV.mk rfl (SameV.mk rfl ?_)
  refine And.intro (Exists.intro (i1 + 1) (And.intro ?_ ⟨h,step⟩)) ?_
  ·rw [← hw]; rfl
  ·show r.length - (IntKind.wrap .i64 ((i1:Int) + 1)).toNat < r.length - (i1:Int).toNat
   rw [hw]; omega
 have h:¬ (i1:Int) < (r.length:Int):=of_decide_eq_false h
 have h:i1 = r.length:=by omega
 have wr:r.all (fun q=>isW q && !q.isEmpty) = true:=by rw [h,List.take_length] at ha; exact ha
 clear h ha hi
 refine JoinP.mk (fun _=>(noMap m || decide (m.1 = (g,r,()))) = true) ?_ ?_
 rotate_left
 ·refine CallP.mk _ _ (rnomap_pc m) ?_ (fun p h=>h.elim)
  rintro ⟨b,_⟩ z hb
  have hb:b = noMap m:=hb
  refine BrP.mk' (fun hc=>?_) (fun hc=>?_)
  ·have hc:(!b) = true:=hc
   have hf:noMap m = false:=by rw [← hb]; simpa using hc
   refine CallP.mk _ _ (rsamepres_pc m.1 (g,r,()) nm) ?_ (fun p h=>h.elim)
   rintro ⟨b2,_⟩ z hb2
   have hb2:b2 = decide (m.1 = (g,r,())):=hb2
   refine BrP.mk' (fun hc=>?_) (fun hc=>?_)
   ·have hc:(!b2) = true:=hc
    exact F9 (by rw [hf,← hb2]; simpa using hc)
   have hc:(!b2) = false:=hc
   refine SameV.mk rfl (SameV.mk rfl ?_)
   show (noMap m || decide (m.1 = (g,r,()))) = true
   rw [← hb2]
   have:b2 = true:=by simpa using hc
   rw [this]; simp
  ·have hc:(!b) = false:=hc
   have ht:noMap m = true:=by rw [← hb]; simpa using hc
   refine SameV.mk rfl (SameV.mk rfl ?_)
   show (noMap m || decide (m.1 = (g,r,()))) = true
   rw [ht]; rfl
 rintro _ wm
 refine CallP.mk _ _ (rnostr_pc s) ?_ (fun p h=>h.elim)
 rintro ⟨bs,_⟩ z hbs
 have hbs:bs = noStr s:=hbs
 refine BrP.mk' (fun hc=>?_) (fun hc=>?_)
 ·have hc:bs = true:=hc
  rw [hbs] at hc
  exact FT k1 k2 wu wv wcj wr wd wring wm (by rw [hc]; rfl) (strW_zero hc)
 have hns:noStr s = false:=by
  have hc:bs = false:=hc
  rw [← hbs]; exact hc
 refine JoinP.mk (fun _=>decide (s.1 = (g,r,())) = true ∧ autW s.2.1 = true) ?_ ?_
 rotate_left
 ·refine CallP.mk _ _ (rsamepres_pc s.1 (g,r,()) ns) ?_ (fun p h=>h.elim)
  rintro ⟨b2,_⟩ z hb2
  have hb2:b2 = decide (s.1 = (g,r,())):=hb2
  refine BrP.mk' (fun hc=>?_) (fun hc=>?_)
  ·have hc:(!b2) = true:=hc
   exact F10 (by rw [hns,← hb2]; simpa using hc)
  have hsp:decide (s.1 = (g,r,())) = true:=by
   have hc:(!b2) = false:=hc
   rw [← hb2]; simpa using hc
  refine LenL.mk fun _=>LenL.mk fun _=>?_
  refine BrP.mk' (fun hc=>?_) (fun hc=>?_)
  ·have hc:((s.2.1.2.2.1.length:Int) != (s.2.1.2.2.2.1.length:Int)) = true:=hc
   exact G1 (by unfold autW; simp only [bne_iff_ne,ne_eq] at hc; rw [beq_eq_false_iff_ne]; intro he; exact hc (by rw [he]))
  have hc:((s.2.1.2.2.1.length:Int) != (s.2.1.2.2.2.1.length:Int)) = false:=hc
  refine SameV.mk rfl (SameV.mk rfl ?_)
  refine ⟨hsp,?_⟩
  unfold autW
  rw [beq_iff_eq]
  simp only [bne_eq_false_iff_eq] at hc
  omega
 rintro _ ⟨wsp,wa⟩
 refine SameV.mk rfl (SameV.mk rfl ?_)
 refine LoopP.mk (fun x=>∃ i:Nat,x = ((i:Int),()) ∧ i ≤ s.2.2.1.length ∧ (s.2.2.1.take i).all autW = true) (fun x=>s.2.2.1.length - x.1.toNat) ⟨0,rfl,Nat.zero_le _,rfl⟩ ?_
 rintro x ⟨i2,rfl,hi,ha⟩
 refine LenL.mk fun _=>?_
 refine BrP.mk' (fun h=>?_) (fun h=>?_)
 ·have h:(i2:Int) < (s.2.2.1.length:Int):=of_decide_eq_true h
  have h:i2 < s.2.2.1.length:=by omega
  have hg:s.2.2.1[i2]? = some s.2.2.1[i2]:=List.getElem?_eq_getElem h
  have hm:s.2.2.1[i2] ∈ s.2.2.1:=List.getElem_mem h
  have hE:∃ q,q = s.2.2.1[i2]:=⟨_,rfl⟩
  obtain ⟨q,hq⟩:=hE
  rw [← hq] at hg hm
  have hw:IntKind.wrap .i64 ((i2:Int) + 1) = ((i2 + 1:Nat):Int):=Fw.wrap64 (by omega) (by omega)
  refine GetL.is i2 (x:=q) rfl hg (LenL.mk fun _=>GetL.is i2 (x:=q) rfl hg (LenL.mk fun _=>?_))
  refine BrP.mk' (fun hc=>?_) (fun hc=>?_)
  ·have hc:((q.2.2.1.length:Int) != (q.2.2.2.1.length:Int)) = true:=hc
   exact G2 (all_no hm (by unfold autW; simp only [bne_iff_ne,ne_eq] at hc; rw [beq_eq_false_iff_ne]; intro he; exact hc (by rw [he])))
  have hp:autW q = true:=by
   have hc:((q.2.2.1.length:Int) != (q.2.2.2.1.length:Int)) = false:=hc
   unfold autW
   rw [beq_iff_eq]
   simp only [bne_eq_false_iff_eq] at hc
   omega
  have step:=all_next hg ha hp
  refine SameV.mk rfl (SameV.mk rfl ?_)
  refine And.intro (Exists.intro (i2 + 1) (And.intro ?_ ⟨h,step⟩)) ?_
  ·rw [← hw]; rfl
  ·show s.2.2.1.length - (IntKind.wrap .i64 ((i2:Int) + 1)).toNat < s.2.2.1.length - (i2:Int).toNat
   rw [hw]; omega
 have h:¬ (i2:Int) < (s.2.2.1.length:Int):=of_decide_eq_false h
 have h:i2 = s.2.2.1.length:=by omega
 have wmult:s.2.2.1.all autW = true:=by rw [h,List.take_length] at ha; exact ha
 clear h ha hi
 refine SameV.mk rfl (SameV.mk rfl ?_)
 refine LoopP.mk (fun x=>∃ i:Nat,x = ((i:Int),()) ∧ i ≤ s.2.2.2.1.length ∧ (s.2.2.2.1.take i).all isW = true) (fun x=>s.2.2.2.1.length - x.1.toNat) ⟨0,rfl,Nat.zero_le _,rfl⟩ ?_
 rintro x ⟨i3,rfl,hi,ha⟩
 refine LenL.mk fun _=>?_
 refine BrP.mk' (fun h=>?_) (fun h=>?_)
 ·have h:(i3:Int) < (s.2.2.2.1.length:Int):=of_decide_eq_true h
  have h:i3 < s.2.2.2.1.length:=by omega
  have hg:s.2.2.2.1[i3]? = some s.2.2.2.1[i3]:=List.getElem?_eq_getElem h
  have hm:s.2.2.2.1[i3] ∈ s.2.2.2.1:=List.getElem_mem h
  have hE:∃ q,q = s.2.2.2.1[i3]:=⟨_,rfl⟩
  obtain ⟨q,hq⟩:=hE
  rw [← hq] at hg hm
  have hw:IntKind.wrap .i64 ((i3:Int) + 1) = ((i3 + 1:Nat):Int):=Fw.wrap64 (by omega) (by omega)
  refine GetL.is i3 (x:=q) rfl hg ?_
  refine CallP.mk _ _ (risword_pc q) ?_ (fun p h=>h.elim)
  rintro ⟨b,_⟩ z hb
  have hb:b = isW q:=hb
  refine BrP.mk' (fun hc=>?_) (fun hc=>?_)
  ·have hc:(!b) = true:=hc
   have hf:isW q = false:=by rw [← hb]; simpa using hc
   exact G3 (all_no hm hf)
  have hp:isW q = true:=by
   have hc:(!b) = false:=hc
   rw [← hb]; simpa using hc
  have step:=all_next hg ha hp
  refine SameV.mk rfl (SameV.mk rfl ?_)
  refine And.intro (Exists.intro (i3 + 1) (And.intro ?_ ⟨h,step⟩)) ?_
  ·rw [← hw]; rfl
  ·show s.2.2.2.1.length - (IntKind.wrap .i64 ((i3:Int) + 1)).toNat < s.2.2.2.1.length - (i3:Int).toNat
   rw [hw]; omega
 have h:¬ (i3:Int) < (s.2.2.2.1.length:Int):=of_decide_eq_false h
 have h:i3 = s.2.2.2.1.length:=by omega
 have wdiff:s.2.2.2.1.all isW = true:=by rw [h,List.take_length] at ha; exact ha
 clear h ha hi
 refine SameV.mk rfl (SameV.mk rfl ?_)
 refine LoopP.mk (fun x=>∃ i:Nat,x = ((i:Int),()) ∧ i ≤ s.2.2.2.2.1.length ∧ (s.2.2.2.2.1.take i).all (fun t=>cellsW t.2.2.2.2.1) = true) (fun x=>s.2.2.2.2.1.length - x.1.toNat) ⟨0,rfl,Nat.zero_le _,rfl⟩ ?_
 rintro x ⟨i4,rfl,hi,ha⟩
 refine LenL.mk fun _=>?_
 refine BrP.mk' (fun h=>?_) (fun h=>?_)
 ·have h:(i4:Int) < (s.2.2.2.2.1.length:Int):=of_decide_eq_true h
  have h:i4 < s.2.2.2.2.1.length:=by omega
  have hg:s.2.2.2.2.1[i4]? = some s.2.2.2.2.1[i4]:=List.getElem?_eq_getElem h
  have hm:s.2.2.2.2.1[i4] ∈ s.2.2.2.2.1:=List.getElem_mem h
  have hE:∃ q,q = s.2.2.2.2.1[i4]:=⟨_,rfl⟩
  obtain ⟨q,hq⟩:=hE
  rw [← hq] at hg hm
  have hw:IntKind.wrap .i64 ((i4:Int) + 1) = ((i4 + 1:Nat):Int):=Fw.wrap64 (by omega) (by omega)
  refine GetL.is i4 (x:=q) rfl hg ?_
  refine CallP.mk _ _ (rarecells_pc q.2.2.2.2.1 (c5 q hm)) ?_ (fun p h=>h.elim)
  rintro ⟨b,_⟩ z hb
  have hb:b = cellsW q.2.2.2.2.1:=hb
  refine BrP.mk' (fun hc=>?_) (fun hc=>?_)
  ·have hc:(!b) = true:=hc
   have hf:cellsW q.2.2.2.2.1 = false:=by rw [← hb]; simpa using hc
   exact G4 (all_no hm hf)
  have hp:cellsW q.2.2.2.2.1 = true:=by
   have hc:(!b) = false:=hc
   rw [← hb]; simpa using hc
  have step:=all_next hg ha hp
  refine SameV.mk rfl (SameV.mk rfl ?_)
  refine And.intro (Exists.intro (i4 + 1) (And.intro ?_ ⟨h,step⟩)) ?_
  ·rw [← hw]; rfl
  ·show s.2.2.2.2.1.length - (IntKind.wrap .i64 ((i4:Int) + 1)).toNat < s.2.2.2.2.1.length - (i4:Int).toNat
   rw [hw]; omega
 have h:¬ (i4:Int) < (s.2.2.2.2.1.length:Int):=of_decide_eq_false h
 have h:i4 = s.2.2.2.2.1.length:=by omega
 have wstep:s.2.2.2.2.1.all (fun t=>cellsW t.2.2.2.2.1) = true:=by rw [h,List.take_length] at ha; exact ha
 clear h ha hi
 refine SameV.mk rfl (SameV.mk rfl ?_)
 refine LoopP.mk (fun x=>∃ i:Nat,x = ((i:Int),()) ∧ i ≤ s.2.2.2.2.2.1.length ∧ (s.2.2.2.2.2.1.take i).all (fun t=>cellsW t.2.2.1) = true) (fun x=>s.2.2.2.2.2.1.length - x.1.toNat) ⟨0,rfl,Nat.zero_le _,rfl⟩ ?_
 rintro x ⟨i5,rfl,hi,ha⟩
 refine LenL.mk fun _=>?_
 refine BrP.mk' (fun h=>?_) (fun h=>?_)
 ·have h:(i5:Int) < (s.2.2.2.2.2.1.length:Int):=of_decide_eq_true h
  have h:i5 < s.2.2.2.2.2.1.length:=by omega
  have hg:s.2.2.2.2.2.1[i5]? = some s.2.2.2.2.2.1[i5]:=List.getElem?_eq_getElem h
  have hm:s.2.2.2.2.2.1[i5] ∈ s.2.2.2.2.2.1:=List.getElem_mem h
  have hE:∃ q,q = s.2.2.2.2.2.1[i5]:=⟨_,rfl⟩
  obtain ⟨q,hq⟩:=hE
  rw [← hq] at hg hm
  have hw:IntKind.wrap .i64 ((i5:Int) + 1) = ((i5 + 1:Nat):Int):=Fw.wrap64 (by omega) (by omega)
  refine GetL.is i5 (x:=q) rfl hg ?_
  refine CallP.mk _ _ (rarecells_pc q.2.2.1 (c6 q hm)) ?_ (fun p h=>h.elim)
  rintro ⟨b,_⟩ z hb
  have hb:b = cellsW q.2.2.1:=hb
  refine BrP.mk' (fun hc=>?_) (fun hc=>?_)
  ·have hc:(!b) = true:=hc
   have hf:cellsW q.2.2.1 = false:=by rw [← hb]; simpa using hc
   exact G5 (all_no hm hf)
  have hp:cellsW q.2.2.1 = true:=by
   have hc:(!b) = false:=hc
   rw [← hb]; simpa using hc
  have step:=all_next hg ha hp
  refine SameV.mk rfl (SameV.mk rfl ?_)
  refine And.intro (Exists.intro (i5 + 1) (And.intro ?_ ⟨h,step⟩)) ?_
  ·rw [← hw]; rfl
  ·show s.2.2.2.2.2.1.length - (IntKind.wrap .i64 ((i5:Int) + 1)).toNat < s.2.2.2.2.2.1.length - (i5:Int).toNat
   rw [hw]; omega
 have h:¬ (i5:Int) < (s.2.2.2.2.2.1.length:Int):=of_decide_eq_false h
 have h:i5 = s.2.2.2.2.2.1.length:=by omega
 have wend:s.2.2.2.2.2.1.all (fun t=>cellsW t.2.2.1) = true:=by rw [h,List.take_length] at ha; exact ha
 clear h ha hi
 exact FT k1 k2 wu wv wcj wr wd wring wm (by rw [wsp]; simp) (GT wa wmult wdiff wstep wend)
theorem writable_pc (c:Clm) (hl:Lim NN claimT c):PC Tryz.prog 21 sg21 (c,()) (fun y _=>y.1 = writable c) (fun _=>False):=by
 obtain ⟨k,⟨g,r,_⟩,u,v,n,d,⟨cj,ring,_⟩,⟨sk,sm,si,sp,_⟩,im,m,s,_⟩:=c
 exact writable_pc' k g r u v n d cj ring sk sm si sp im m s hl
end Go.Proofs.YtpifnlfmojfgpaaGreatDoor.Rk
end
section
set_option maxRecDepth 10000
set_option maxHeartbeats 400000
namespace Go.Proofs.YtpifnlfmojfgpaaGreatDoor.Rk
open Fw Pw Ct Pk
noncomputable def a39:FAnn where
 loops:=fun | 5=>[.kv 0,.sl 4 (.ls 147 (.cons (.lst (.str)) (.nil))),.sl 5 (.ls 9 (.str)),.sl 6 (.ls 5 (.int .u8)),.sl 7 (.pv (.int .i64))] | _=>[]
def sg39:Sig:=⟨[sA],[.any],[.pv (.lst lineT),bA]⟩
abbrev LSt:=Lns × List Str × Str
def stepT1 (s:LSt) (c:UInt8):LSt:=
 if c = 10 then (s.1 ++ [s.2.1 ++ [s.2.2]],[],[]) else if c = 32 then (s.1,s.2.1 ++ [s.2.2],[]) else (s.1,s.2.1,s.2.2 ++ [c])
def linesF (t:Str):LSt:=t.foldl stepT1 ([],[],[])
structure LStOk (n:Nat) (s:LSt):Prop where
 o:s.1.length ≤ n
 l:∀ l ∈ s.1,l ≠ [] ∧ l.length ≤ n ∧ ∀ q ∈ l,q.length ≤ n
 ps:s.2.1.length ≤ n
 q:∀ q ∈ s.2.1,q.length ≤ n
 p:s.2.2.length ≤ n
theorem LStOk.step {n:Nat} {s:LSt} (h:LStOk n s) (c:UInt8):LStOk (n + 1) (stepT1 s c):=by
 obtain ⟨o,ps,p⟩:=s
 obtain ⟨h1,h2,h3,h4,h5⟩:=h
 dsimp only at h1 h2 h3 h4 h5
 unfold stepT1
 split
 ·refine ⟨by simp; omega,fun l hl=>?_,Nat.zero_le _,by simp,Nat.zero_le _⟩
  rcases List.mem_append.1 hl with hl | hl
  ·exact ⟨(h2 l hl).1,Nat.le_succ_of_le (h2 l hl).2.1,fun q hq=>Nat.le_succ_of_le ((h2 l hl).2.2 q hq)⟩
  ·simp only [List.mem_singleton] at hl
   subst hl
   refine ⟨by simp,by simp; omega,fun q hq=>?_⟩
   rcases List.mem_append.1 hq with hq | hq
   ·exact Nat.le_succ_of_le (h4 q hq)
   ·simp only [List.mem_singleton] at hq; subst hq; exact Nat.le_succ_of_le h5
 ·have hl:∀ l ∈ o,l ≠ [] ∧ l.length ≤ n + 1 ∧ ∀ q ∈ l,q.length ≤ n + 1:=fun l hl=>⟨(h2 l hl).1,Nat.le_succ_of_le (h2 l hl).2.1,fun q hq=>Nat.le_succ_of_le ((h2 l hl).2.2 q hq)⟩
  split
  ·refine ⟨Nat.le_succ_of_le h1,hl,by simp; omega,fun q hq=>?_,Nat.zero_le _⟩
   rcases List.mem_append.1 hq with hq | hq
   ·exact Nat.le_succ_of_le (h4 q hq)
   ·simp only [List.mem_singleton] at hq; subst hq; exact Nat.le_succ_of_le h5
  ·exact ⟨Nat.le_succ_of_le h1,hl,Nat.le_succ_of_le h3,fun q hq=>Nat.le_succ_of_le (h4 q hq),by simp; omega⟩
theorem lines_ok (t:Str) (n:Nat) (h:n ≤ t.length):LStOk n (linesF (t.take n)):=by
 induction n with
 | zero=>exact ⟨Nat.le_refl _,by simp [linesF],Nat.le_refl _,by simp [linesF],Nat.le_refl _⟩
 | succ n ih=>
  have hg:t[n]? = some t[n]:=List.getElem?_eq_getElem (by omega)
  rw [List.take_add_one,hg]
  unfold linesF
  rw [List.foldl_append]
  exact (ih (by omega)).step _
theorem lines_lim {t:Str} (h:t.length ≤ 20000):LimL (linesF t).1:=by
 have h1:=lines_ok t t.length (Nat.le_refl _)
 rw [List.take_length] at h1
 have h2:t.length ≤ NN:=by unfold NN; omega
 exact ⟨fun l hl=>(h1.l l hl).1,Nat.le_trans h1.o h2,fun l hl=>Nat.le_trans (h1.l l hl).2.1 h2,fun l hl p hp=>Nat.le_trans ((h1.l l hl).2.2 p hp) h2⟩
def bts (s:Str):List Int:=s.map fun c=>(c.toNat:Int)
theorem wrapL_snoc (o:Lns) (l:List Str):wrapL (o ++ [l]) = wrapL o ++ [(l,())]:=by simp [wrapL]
theorem bts_snoc (s:Str) (c:UInt8):bts (s ++ [c]) = bts s ++ [(c.toNat:Int)]:=by simp [bts]
theorem step_take {t:Str} {i:Nat} (h:i < t.length):linesF (t.take (i + 1)) = stepT1 (linesF (t.take i)) t[i]:=by
 have hg:t[i]? = some t[i]:=List.getElem?_eq_getElem h
 rw [List.take_add_one,hg]
 unfold linesF
 rw [List.foldl_append]; rfl
theorem byte_is (c:UInt8) (k:Nat) (d:UInt8) (hd:d.toNat = k):((c.toNat:Int) == (k:Int)) = true ↔ c = d:=by
 simp only [beq_iff_eq]
 exact ⟨fun h=>UInt8.toNat_inj.1 (by omega),fun h=>by rw [h,hd]⟩
theorem lines_pc (t:Str) (ht:t.length ≤ 20000):PC Tryz.prog 39 sg39 (t,()) (fun y _=>y = (wrapL (linesF t).1,decide ((linesF t).2.2 = [] ∧ (linesF t).2.1 = []),())) (fun _=>False):=by
 refine PC.of a39 [] (by kernel_rfl) ?_
 repeat refine SameV.mk rfl ?_
 refine LoopP.mk (fun x=>∃ (o:Lns) (ps:List Str) (p:Str) (i:Nat),x = (wrapL o,ps,bts p,(i:Int),()) ∧ i ≤ t.length ∧ linesF (t.take i) = (o,ps,p)) (fun x=>t.length - x.2.2.2.1.toNat) ⟨[],[],[],0,rfl,Nat.zero_le _,rfl⟩ ?_
 rintro x ⟨o,ps,p,i,rfl,hi,hs⟩
 have hok:=lines_ok t i hi
 rw [hs] at hok
 have lo:o.length ≤ i:=hok.o
 have lps:ps.length ≤ i:=hok.ps
 have lp:p.length ≤ i:=hok.p
 refine LenL.mk fun _=>?_
 refine BrP.mk' (fun h=>?_) (fun h=>?_)
 ·have h:(i:Int) < (t.length:Int):=of_decide_eq_true h
  have h:i < t.length:=by omega
  have hg:t[i]? = some t[i]:=List.getElem?_eq_getElem h
  have hst:=step_take h
  rw [hs] at hst
  have hw:IntKind.wrap .i64 ((i:Int) + 1) = ((i + 1:Nat):Int):=Fw.wrap64 (by omega) (by omega)
  have hmu:t.length - (IntKind.wrap .i64 ((i:Int) + 1)).toNat < t.length - (i:Int).toNat:=by rw [hw]; omega
  refine GetL.is i (x:=t[i]) rfl hg ?_
  have hc10:(((t[i].toNat:Nat):Int) == 10) = true ↔ t[i] = 10:=byte_is t[i] 10 10 rfl
  have hc32:(((t[i].toNat:Nat):Int) == 32) = true ↔ t[i] = 32:=byte_is t[i] 32 32 rfl
  refine BrP.mk' (fun hb=>?_) (fun hb=>?_)
  ·have hb:t[i] = 10:=hc10.1 hb
   have hs2:linesF (t.take (i + 1)) = (o ++ [ps ++ [p]],[],[]):=by rw [hst,stepT1,if_pos hb]
   refine BytL.mk p rfl (by unfold big; omega) ?_
   refine AppL.mk' (by show ps.length + 1 ≤ _; omega) ?_
   refine AppL.mk' (by show (wrapL o).length + 1 ≤ _; rw [show (wrapL o).length = o.length by simp [wrapL]]; omega) ?_
   repeat refine SameV.mk rfl ?_
   refine And.intro (Exists.intro (o ++ [ps ++ [p]]) (Exists.intro [] (Exists.intro [] (Exists.intro (i + 1) (And.intro ?_ ⟨h,hs2⟩))))) hmu
   rw [← hw,wrapL_snoc]; rfl
  ·have hb:(((t[i].toNat:Nat):Int) == 10) = false:=hb
   have hb:t[i] ≠ 10:=fun he=>by rw [hc10.2 he] at hb; cases hb
   refine BrP.mk' (fun hd=>?_) (fun hd=>?_)
   ·have hd:t[i] = 32:=hc32.1 hd
    have hs2:linesF (t.take (i + 1)) = (o,ps ++ [p],[]):=by rw [hst,stepT1,if_neg hb,if_pos hd]
    refine BytL.mk p rfl (by unfold big; omega) ?_
    refine AppL.mk' (by show ps.length + 1 ≤ _; omega) ?_
    repeat refine SameV.mk rfl ?_
    refine And.intro (Exists.intro o (Exists.intro (ps ++ [p]) (Exists.intro [] (Exists.intro (i + 1) (And.intro ?_ ⟨h,hs2⟩))))) hmu
    rw [← hw]; rfl
   ·have hd:(((t[i].toNat:Nat):Int) == 32) = false:=hd
    have hd:t[i] ≠ 32:=fun he=>by rw [hc32.2 he] at hd; cases hd
    have hs2:linesF (t.take (i + 1)) = (o,ps,p ++ [t[i]]):=by rw [hst,stepT1,if_neg hb,if_neg hd]
    refine GetL.is i (x:=t[i]) rfl hg ?_
    refine AppL.mk' (by show (bts p).length + 1 ≤ _; rw [show (bts p).length = p.length by simp [bts]]; omega) ?_
    repeat refine SameV.mk rfl ?_
    refine And.intro (Exists.intro o (Exists.intro ps (Exists.intro (p ++ [t[i]]) (Exists.intro (i + 1) (And.intro ?_ ⟨h,hs2⟩))))) hmu
    rw [← hw,bts_snoc]; rfl
 ·have h:¬ (i:Int) < (t.length:Int):=of_decide_eq_false h
  have h:i = t.length:=by omega
  have hs:linesF t = (o,ps,p):=by rw [← hs,h,List.take_length]
  have hpl:(bts p).length = p.length:=by simp [bts]
  refine LenL.mk fun _=>?_
  refine BrP.mk' (fun hb=>?_) (fun hb=>?_)
  ·have hb:(((bts p).length:Int) == 0) = true:=hb
   have hp:p = []:=List.eq_nil_of_length_eq_zero (by rw [hpl,beq_iff_eq] at hb; omega)
   refine LenL.mk fun _=>?_
   show (wrapL o,((ps.length:Int) == 0),()) = _
   rw [hs,hp]
   cases ps with
   | nil=>rfl
   | cons a b=>
    have h0:(((a :: b).length:Int) == 0) = false:=by rw [beq_eq_false_iff_ne,List.length_cons]; omega
    rw [h0]; rfl
  ·have hb:(((bts p).length:Int) == 0) = false:=hb
   have hp:p ≠ []:=fun he=>by rw [he] at hb; cases hb
   show (wrapL o,false,()) = _
   rw [hs]
   simp [hp]
end Go.Proofs.YtpifnlfmojfgpaaGreatDoor.Rk
end
section
namespace Go.Proofs.YtpifnlfmojfgpaaGreatDoor.Rk
open Pw Ct
theorem fold_part:∀ (q:Str) (o:Lns) (ps:List Str) (p:Str),clean q = true → q.foldl stepT1 (o,ps,p) = (o,ps,p ++ q)
 | [],o,ps,p,_=>by simp
 | c :: q,o,ps,p,h=>by
  simp only [clean,List.all_cons,Bool.and_eq_true,bne_iff_ne,ne_eq] at h
  obtain ⟨⟨h1,h2⟩,h3⟩:=h
  rw [List.foldl_cons,stepT1,if_neg h1,if_neg h2]
  rw [fold_part q o ps (p ++ [c]) h3]
  simp
theorem fold_rest:∀ (r:List Str) (o:Lns) (ps:List Str) (p:Str),(∀ q ∈ r,clean q = true) → (r.flatMap (32 :: ·) ++ [10]).foldl stepT1 (o,ps,p) = (o ++ [ps ++ p :: r],[],[])
 | [],o,ps,p,_=>by simp [stepT1]
 | q :: r,o,ps,p,h=>by
  rw [List.flatMap_cons,List.cons_append,List.cons_append,List.foldl_cons]
  have h1:stepT1 (o,ps,p) 32 = (o,ps ++ [p],[]):=rfl
  rw [h1,List.append_assoc,List.foldl_append,fold_part q o (ps ++ [p]) [] (h q (by simp)),List.nil_append,fold_rest r o (ps ++ [p]) q fun x hx=>h x (by simp [hx])]
  simp
theorem fold_line (l:List Str) (hl:l ≠ []) (h:∀ q ∈ l,clean q = true) (o:Lns):(lineS l ++ [10]).foldl stepT1 (o,[],[]) = (o ++ [l],[],[]):=by
 cases l with
 | nil=>exact absurd rfl hl
 | cons q r=>
  rw [lineS,List.append_assoc,List.foldl_append,fold_part q o [] [] (h q (by simp)),List.nil_append,fold_rest r o [] q fun x hx=>h x (by simp [hx])]
  simp
theorem fold_text:∀ (L:Lns) (o:Lns),CleanL L → (textL L).foldl stepT1 (o,[],[]) = (o ++ L,[],[])
 | [],o,_=>by simp [textL]
 | l :: L,o,h=>by
  have h1:=h l (by simp)
  have h2:textL (l :: L) = (lineS l ++ [10]) ++ textL L:=rfl
  rw [h2,List.foldl_append,fold_line l h1.1 h1.2 o,fold_text L (o ++ [l]) fun x hx=>h x (by simp [hx])]
  simp
theorem lines_text {L:Lns} (h:CleanL L):linesF (textL L) = (L,[],[]):=by
 unfold linesF
 rw [fold_text L [] h]; rfl
end Go.Proofs.YtpifnlfmojfgpaaGreatDoor.Rk
end
section
set_option maxRecDepth 10000
set_option maxHeartbeats 4000000
namespace Go.Proofs.YtpifnlfmojfgpaaGreatDoor.Rk
open Fw Pw Ct Pk
noncomputable def a12:FAnn where
 joins:=fun | 7=>some [.kv 2,.kv 7,.sl 38 (.pv (.bool)),.km 0,.km 2] | _=>none
def sg12:Sig:=⟨[sA],[.any],[.pv claimT,iA]⟩
def zeroClm:Clm:=(0,zeroPres,[],[],0,[],([],[],()),(0,0,[],[],()),[],(zeroPres,0,[],()),zeroStr,())
structure IsText (t:Str) (c:Clm):Prop where
 lim:Lim NN claimT c
 w:writable c = true
 t:textL (linesC c) = t
theorem IsText.read {t:Str} {c:Clm} (h:IsText t c):claimS (linesC c) = some c:=claim_round h.lim h.w
theorem IsText.lines {t:Str} {c:Clm} (h:IsText t c):linesF t = (linesC c,[],[]):=by rw [← h.t]; exact lines_text (clean_claim h.w)
def ReadIs (t:Str) (y:Clm × Int × Unit):Prop:=(∃ c,IsText t c ∧ y = (c,0,())) ∨ ((∀ c,¬ IsText t c) ∧ y = (zeroClm,280,()))
theorem rread_long (t:Str) (ht:t.length > 2000000):PC Tryz.prog 12 sg12 (t,()) (fun y _=>y = (zeroClm,2,())) (fun _=>False):=by
 refine PC.of a12 [(21,sg21),(22,sg22),(39,sg39),(40,sg40)] (by kernel_rfl) ?_
 refine LenL.mk fun _=>?_
 refine BrP.mk' (fun h=>?_) (fun h=>?_)
 ·exact (rfl:(zeroClm,(2:Int),()) = (zeroClm,2,()))
 ·have h:¬ (t.length:Int) > 2000000:=of_decide_eq_false h
  omega
theorem rread_pc (t:Str) (ht:t.length ≤ 20000):PC Tryz.prog 12 sg12 (t,()) (fun y _=>ReadIs t y) (fun _=>False):=by
 have hlim:=lines_lim ht
 refine PC.of a12 [(21,sg21),(22,sg22),(39,sg39),(40,sg40)] (by kernel_rfl) ?_
 refine LenL.mk fun _=>?_
 refine BrP.mk' (fun h=>?_) (fun h=>?_)
 ·have h:(t.length:Int) > 2000000:=of_decide_eq_true h
  omega
 refine CallP.mk _ _ (lines_pc t ht) ?_ (fun p h=>h.elim)
 rintro y z rfl
 have hE:∃ L ok,L = (linesF t).1 ∧ ok = decide ((linesF t).2.2 = [] ∧ (linesF t).2.1 = []):=⟨_,_,rfl,rfl⟩
 obtain ⟨L,ok,hL,hok⟩:=hE
 rw [← hL] at hlim
 rw [← hL,← hok]
 refine CallP.mk _ _ (rclaim_pc L hlim ok) ?_ (fun p h=>h.elim)
 rintro ⟨c,_⟩ ⟨z,_⟩ ⟨a',ok',hz,hc,hcl⟩
 have hz:z = rd L a' ok':=hz
 subst hz
 have key:∀ c',IsText t c' → ok' = true ∧ c' = c:=fun c' hi=>by
  have h1:=hi.lines
  refine hcl ?_ c' ?_
  ·rw [hok,h1]; rfl
  ·rw [hL,h1]; exact hi.read
 refine JoinP.mk (fun x=>∃ b:Bool,x = (b,()) ∧ (b = true → ∀ c',¬ IsText t c') ∧ (b = false → IsText t c)) ?_ ?_
 rotate_left
 ·refine BrP.mk' (fun hb=>?_) (fun hb=>?_)
  ·have hb:(!ok') = true:=hb
   refine SameV.mk rfl (SameV.mk rfl (SameV.mk rfl (SameV.mk rfl ?_)))
   refine Exists.intro true (And.intro rfl (And.intro (fun _ c' hi=>?_) (fun h=>Bool.noConfusion h)))
   obtain ⟨h1,_⟩:=key c' hi
   rw [h1] at hb; cases hb
  have hok':ok' = true:=by have hb:(!ok') = false:=hb; simpa using hb
  refine CallP.mk _ _ (writable_pc c hc) ?_ (fun p h=>h.elim)
  rintro ⟨bw,_⟩ z hbw
  have hbw:bw = writable c:=hbw
  refine BrP.mk' (fun hb=>?_) (fun hb=>?_)
  ·have hb:(!bw) = true:=hb
   refine SameV.mk rfl (SameV.mk rfl (SameV.mk rfl (SameV.mk rfl ?_)))
   refine Exists.intro true (And.intro rfl (And.intro (fun _ c' hi=>?_) (fun h=>Bool.noConfusion h)))
   obtain ⟨_,rfl⟩:=key c' hi
   rw [hbw,hi.w] at hb; cases hb
  have hw:writable c = true:=by have hb:(!bw) = false:=hb; rw [← hbw]; simpa using hb
  refine CallP.mk _ _ (textof_pc c hc hw) ?_ (fun p h=>h.elim)
  rintro ⟨tx,_⟩ z htx
  have htx:tx = textL (linesC c):=htx
  refine SameV.mk rfl (SameV.mk rfl (SameV.mk rfl (SameV.mk rfl ?_)))
  refine Exists.intro (!(tx == t)) (And.intro rfl (And.intro (fun hb c' hi=>?_) (fun hb=>?_)))
  ·obtain ⟨_,rfl⟩:=key c' hi
   rw [htx,hi.t] at hb; simp at hb
  ·exact ⟨hc,hw,by rw [← htx]; simpa using hb⟩
 rintro x ⟨b,rfl,h1,h2⟩
 refine BrP.mk' (fun hb=>?_) (fun hb=>?_)
 ·exact Or.inr ⟨h1 hb,rfl⟩
 ·exact Or.inl ⟨c,h2 hb,rfl⟩
end Go.Proofs.YtpifnlfmojfgpaaGreatDoor.Rk
end
section
set_option maxRecDepth 10000
set_option maxHeartbeats 400000
namespace Go.Proofs.YtpifnlfmojfgpaaGreatDoor.Pk
open Fw Pw Ct Rk
def ReadR (w:World) (t:Str) (e:Ending) (w':World):Prop:=∃ (cs:Array Value) (k:Bool) (c:Clm),e = .returned (.tuple #[.agg cs,.bool k]) ∧ Chg Nil w w' ∧ Rp (nw w.heap.size w') w' claimT c cs.toList ∧
 ((k = true ∧ Lim NN claimT c ∧ ∀ c',IsText t c' → c' = c) ∨ (k = false ∧ c = zeroClm ∧ ∀ c',¬ IsText t c'))
theorem rp_zclm (A:Pos) (W:World):Rp A W claimT zeroClm zVals:=
 ⟨[_],_,rfl,rfl,[_,_],_,rfl,⟨[_],_,rfl,rfl,[_],_,rfl,rp_nil,rfl⟩,[_],_,rfl,⟨_,rfl,rfl,Nat.zero_le _⟩,[_],_,rfl,⟨_,rfl,rfl,Nat.zero_le _⟩,[_],_,rfl,rfl,[_],_,rfl,rp_nil,
  [_,_],_,rfl,⟨[_],_,rfl,⟨_,rfl,rfl,Nat.zero_le _⟩,[_],_,rfl,rp_nil,rfl⟩,[_,_,_,_],_,rfl,⟨[_],_,rfl,rfl,[_],_,rfl,rfl,[_],_,rfl,rp_nil,[_],_,rfl,rp_nil,rfl⟩,[_],_,rfl,rp_nil,[_,_,_,_],_,rfl,rp_zmap _ _,
  [_,_,_,_,_,_,_,_,_,_],_,rfl,rp_zstr _ _,rfl⟩
abbrev pan1:List PanicEntry:=[{ v:=.iface 132 (.agg #[]),recovered:=false }]
abbrev pan2:List PanicEntry:=[{ v:=.iface 132 (.agg #[]),recovered:=true }]
theorem endD_ret {R:Ending → World → Prop} {b1 b3:Nat} {W:World} {cs:Array Value} {k:Bool} (h1:W.heap[b1]? = some (.cells cs 43 (0,0))) (hcs:cs.size = 28) (h3:W.heap[b3]? = some (.cells #[.bool k] 4 (0,0)))
  (hR:∀ W',Chg Nil W W' → R (.returned (.tuple #[.agg cs,.bool k])) W'):endD R b1 b3 .returning W:=by
 have hc:Chg Nil W (W.alloc (.cells #[] 132)):=Chg.alloc W _
 refine CallsDIn.mono (read1_D (R:=fun e w'=>(∃ v,e = .returned v) ∧ ∃ (cs:Array Value) (k:Bool),w'.heap[b1]? = some (.cells cs 43 (0,0)) ∧ cs.size = 28 ∧ w'.heap[b3]? = some (.cells #[.bool k] 4 (0,0)) ∧ R (.returned (.tuple #[.agg cs,.bool k])) w')
  (u2:=.returning) (rv:=.nilIface) (t:=false) assert_nil (fun c₀ cs hu=>?_) ?_) fun e u' w' he=>?_
 ·have:recoverD (c₀ :: cs) = none:=by simp [recoverD,hu]
  rw [this]
  refine ⟨rfl,?_⟩
  rw [← hu]
 ·exact ⟨fun h=>(by cases h),fun _=>⟨⟨_,rfl⟩,cs,k,hc.heap h1 fun h=>h,hcs,hc.heap h3 fun h=>h,hR _ hc⟩⟩
 ·obtain ⟨rfl,h1,h2⟩:=he
  exact ⟨h1,rfl,h2⟩
theorem endD_pan {R:Ending → World → Prop} {b1 b3:Nat} {W:World} {cs:Array Value} {k:Bool} (h1:W.heap[b1]? = some (.cells cs 43 (0,0))) (hcs:cs.size = 28) (h3:W.heap[b3]? = some (.cells #[.bool k] 4 (0,0))) (hne:b1 ≠ b3)
  (hR:∀ W',Chg (fun i=>i = b1 ∨ i = b3) W W' → R (.returned (.tuple #[.agg zVals.toArray,.bool false])) W'):endD R b1 b3 (.panicking pan1) W:=by
 have hc:Chg Nil W (W.alloc (.cells #[] 132)):=Chg.alloc W _
 refine CallsDIn.mono (read1_D (R:=fun e w'=>(∃ v,e = .returned v) ∧ ∃ (cs:Array Value) (k:Bool),w'.heap[b1]? = some (.cells cs 43 (0,0)) ∧ cs.size = 28 ∧ w'.heap[b3]? = some (.cells #[.bool k] 4 (0,0)) ∧ R (.returned (.tuple #[.agg cs,.bool k])) w')
  (u2:=.panicking pan2) (rv:=.iface 132 (.agg #[])) (t:=true) assert_in (fun c₀ cs hu=>?_) ?_) fun e u' w' he=>?_
 ·have:recoverD (c₀ :: cs) = some (.iface 132 (.agg #[]),{ c₀ with mode:=.panicking pan2 } :: cs):=by simp [recoverD,hu]
  rw [this]
  exact ⟨rfl,rfl⟩
 ·refine ⟨fun _=>?_,fun h=>by cases h⟩
  refine StoreN.whole (vs:=zVals) (hc.heap h1 fun h=>h) hcs fun W1 k1 hc1 _=>?_
  have k3:=hc1.heap (hc.heap h3 fun h=>h) fun h=>hne h.symm
  refine Store1.at k3 0 (by show 0 < 1; decide) (cs':=#[.bool false]) rfl fun W2 k3' hc2 _=>?_
  refine ⟨⟨_,rfl⟩,zVals.toArray,false,hc2.heap k1 fun h=>hne h,rfl,k3',hR W2 ?_⟩
  have hx:Chg (fun i=>i = b1 ∨ i = b3) W (W.alloc (.cells #[] 132)):=hc.nil
  exact (hx.trans hc1 (fun _ _ h=>h) fun i _ h=>.inl h).trans hc2 (fun _ _ h=>h) fun i _ h=>.inr h
 ·obtain ⟨rfl,h1,h2⟩:=he
  exact ⟨h1,rfl,h2⟩
theorem cell_none {W:World} {d o:Nat} {x:Option (List Deferred)} (h:W.heap[d]? = some (.deferred x)):W.cell? ⟨d,o,none⟩ = none:=by simp [World.cell?,h]
theorem chg_put {W:World} {d:Nat} {o:Obj}:Chg (· = d) W (W.putObj d o):=⟨rfl,rfl,rfl,by simp [World.putObj],fun k hk hs=>by
 show (W.heap.setIfInBounds d o)[k]? = _
 rw [Array.getElem?_setIfInBounds_ne (fun e:d = k=>hs e.symm)]⟩
theorem heap_put {W:World} {d:Nat} {o o':Obj} (h:W.heap[d]? = some o):(W.putObj d o').heap[d]? = some o':=by
 have hlt:=(Array.getElem?_eq_some_iff.1 h).1
 show (W.heap.setIfInBounds d o')[d]? = _
 rw [Array.getElem?_setIfInBounds_self_of_lt hlt]
structure RdE (w:World) (b1 b3:Nat) (W:World):Prop where
 ch:Chg Nil w W
 e1:b1 = w.heap.size
 e3:b3 = w.heap.size + 1
 h1:∃ cs,W.heap[b1]? = some (.cells cs 43 (0,0)) ∧ cs.size = 28
 h3:∃ k,W.heap[b3]? = some (.cells #[.bool k] 4 (0,0))
theorem RdE.pan {w:World} {t:Str} {b1 b3:Nat} {W:World} (h:RdE w b1 b3 W) (hno:∀ c',¬ IsText t c'):endD (ReadR w t) b1 b3 (.panicking pan1) W:=by
 obtain ⟨cs,h1,hcs⟩:=h.h1
 obtain ⟨k,h3⟩:=h.h3
 have e1:=h.e1
 have e3:=h.e3
 refine endD_pan h1 hcs h3 (by omega) fun W' hc=>?_
 refine ⟨zVals.toArray,false,zeroClm,rfl,h.ch.trans hc (fun _ _ h=>h) fun i hi hs=>?_,rp_zclm _ _,.inr ⟨rfl,rfl,hno⟩⟩
 rcases hs with hs | hs <;> omega
theorem endM_pan {w:World} {t:Str} {b1 b3 d:Nat} {W:World} (h:RdE w b1 b3 W) (hd:W.heap[d]? = some (.deferred (some []))) (hw:w.heap.size ≤ d) (hno:∀ c',¬ IsText t c') :
  endM (ReadR w t) b1 b3 (Fw.mark d :: ({ target:=.fn (.func 79) #[(.pointer (some (Addr.mk b1 0 none))),(.pointer (some (Addr.mk b3 0 none)))],args:=#[] }:Deferred) :: []) (.panicking pan1) W:=by
 refine .inr ⟨d,rfl,hd,RdE.pan ⟨?_,h.e1,h.e3,?_,?_⟩ hno⟩
 ·exact h.ch.trans chg_put (fun _ _ h=>h) fun i hi e=>by have e:i = d:=e; omega
 ·obtain ⟨cs,h1,hcs⟩:=h.h1
  exact ⟨cs,chg_put.heap h1 (fun e=>by have e:b1 = d:=e; rw [e,hd] at h1; cases h1),hcs⟩
 ·obtain ⟨k,h3⟩:=h.h3
  exact ⟨k,chg_put.heap h3 fun e=>by have e:b3 = d:=e; rw [e,hd] at h3; cases h3⟩
theorem endM_ret {w:World} {t:Str} {b1 b3 d n:Nat} {W:World} {cs:Array Value} {c:Clm} (hch:Chg Nil w W) (h1:W.heap[b1]? = some (.cells cs 43 (0,0))) (hcs:cs.size = 28) (h3:W.heap[b3]? = some (.cells #[.bool true] 4 (0,0)))
  (hd:W.heap[d]? = some (.deferred (some []))) (hw:w.heap.size ≤ d) (hn:w.heap.size ≤ n) (hr:Rp (nw n W) W claimT c cs.toList) (hl:Lim NN claimT c) (his:∀ c',IsText t c' → c' = c) :
  endM (ReadR w t) b1 b3 (Fw.mark d :: ({ target:=.fn (.func 79) #[(.pointer (some (Addr.mk b1 0 none))),(.pointer (some (Addr.mk b3 0 none)))],args:=#[] }:Deferred) :: []) .returning W:=by
 have n1:¬ b1 = d:=fun e=>by rw [e,hd] at h1; cases h1
 have n3:¬ b3 = d:=fun e=>by rw [e,hd] at h3; cases h3
 have hp:Chg (· = d) W (W.putObj d (.deferred none)):=chg_put
 refine .inr ⟨d,rfl,hd,endD_ret (hp.heap h1 n1) hcs (hp.heap h3 n3) fun W' hc=>⟨cs,true,c,rfl,?_,?_,.inl ⟨rfl,hl,his⟩⟩⟩
 ·exact (hch.trans hp (fun _ _ h=>h) fun i hi e=>by have e:i = d:=e; omega).then hc
 ·have hs1:=hp.size
  have hs2:=hc.size
  refine hr.ext fun g o hg=>⟨⟨by have:=hg.1; omega,by have:=hg.2; omega⟩,?_⟩
  have k1:W'.cell? ⟨g,o,none⟩ = (W.putObj d (.deferred none)).cell? ⟨g,o,none⟩:=World.cell?_of_block (hc.block g (by have:=hg.2; omega) fun h=>h)
  rw [k1]
  by_cases he:g = d
  ·subst he
   rw [cell_none hd,cell_none (heap_put hd)]
  ·exact World.cell?_of_block (hp.block g hg.2 he)
theorem seq_ok (s p:ByteArray) (w:World):Calls Tryz.prog 82 #[.string s,.string p] w fun e w'=>∃ bs bp bv:Nat,e = .returned (.func (.func 158) #[] #[.pointer (some ⟨bp,0,none⟩),.pointer (some ⟨bs,0,none⟩),.pointer (some ⟨bv,0,none⟩)]) ∧
  bs = w.heap.size ∧ bp = w.heap.size + 1 ∧ bv = w.heap.size + 2 ∧ Chg Nil w w' ∧ w'.heap.size = w.heap.size + 3 ∧
  w'.heap[bp]? = some (.cells #[.string p] 9 (0,0)) ∧ w'.heap[bs]? = some (.cells #[.string s] 9 (0,0)) ∧ w'.heap[bv]? = some (.cells #[.int .i64 0] 3 (0,0)):=by
 refine strings_SplitSeq.calls s p ?_
 unfold strings_SplitSeq.sh
 refine strings_splitSeq.calls s p 0 ?_
 unfold strings_splitSeq.sh
 refine New.mk fun b1 W1 hb1 hn1 hs1 hc1=>?_
 refine New.mk fun b3 W2 hb3 hn3 hs3 hc3=>?_
 refine New.mk fun b5 W3 hb5 hn5 hs5 hc5=>?_
 exact ⟨(⟨b3,0,none⟩,⟨b1,0,none⟩,⟨b5,0,none⟩,()),rfl,b1,b3,b5,rfl,hb1,by omega,by omega,(hc1.then hc3).then hc5,by omega,hc5.heap hn3 fun h=>h,hc5.heap (hc3.heap hn1 fun h=>h) fun h=>h,hn5⟩
end Go.Proofs.YtpifnlfmojfgpaaGreatDoor.Pk
end
section
set_option maxRecDepth 100000
set_option maxHeartbeats 1000000
namespace Go.Proofs.YtpifnlfmojfgpaaGreatDoor.Pk
open Fw Pw Ct Rk Go.RowKit
theorem nt51:Tryz.f51.ntmps = 20:=rfl
theorem size63:(Tryz.prog.info? 63).map (·.size) = some 2:=by kernel_rfl
theorem copy_used (b:Nat) (w:World) (h0:w.cell? ⟨b,0,none⟩ = some (.pointer (some ⟨b,0,none⟩))) :
  Calls Tryz.prog 51 #[.pointer (some ⟨b,0,none⟩)] w fun e w'=>e = .returned (.tuple #[]) ∧ w' = w:=by
 obtain ⟨j,hj,_⟩:=Option.map_eq_some_iff.1 size63
 have mixed:Tryz.prog.follows .mixedOrders = true:=by kernel_rfl
 have t72:=Tryz.underlying63; have a72:=Tryz.isAgg63; have z72:=Tryz.sizeOf63; have v72:=Tryz.zeroValue63; have u72:=run_underlying t72
 have t70:=Tryz.underlying60; have a70:=Tryz.isAgg60; have z70:=Tryz.sizeOf60; have v70:=Tryz.zeroValue60; have u70:=run_underlying t70
 have t4:=Tryz.underlying4; have a4:=Tryz.isAgg4; have z4:=Tryz.sizeOf4; have v4:=Tryz.zeroValue4; have u4:=run_underlying t4
 have t164:=Tryz.underlying157; have a164:=Tryz.isAgg157; have z164:=Tryz.sizeOf157; have v164:=Tryz.zeroValue157; have u164:=run_underlying t164
 go_enter Tryz.func51,nt51
 go_wp2
 rw [Lib.run_neq_ptr_same w _ t70 hj]
 go_wp2
 go_end0
 exact ⟨rfl,rfl⟩
theorem copy_fresh (b:Nat) (w:World) (h0:w.cell? ⟨b,0,none⟩ = some (.pointer none)) (hsh:w.shape? b = some (63,2)) (hfz:w.frozen? ⟨b,0,none⟩ = false) :
  Calls Tryz.prog 51 #[.pointer (some ⟨b,0,none⟩)] w fun e w'=>e = .returned (.tuple #[]) ∧ w' = w.setCell ⟨b,0,none⟩ (.pointer (some ⟨b,0,none⟩)):=by
 obtain ⟨j,hj,hjs⟩:=Option.map_eq_some_iff.1 size63
 have mixed:Tryz.prog.follows .mixedOrders = true:=by kernel_rfl
 have t72:=Tryz.underlying63; have a72:=Tryz.isAgg63; have z72:=Tryz.sizeOf63; have v72:=Tryz.zeroValue63; have u72:=run_underlying t72
 have t70:=Tryz.underlying60; have a70:=Tryz.isAgg60; have z70:=Tryz.sizeOf60; have v70:=Tryz.zeroValue60; have u70:=run_underlying t70
 have t4:=Tryz.underlying4; have a4:=Tryz.isAgg4; have z4:=Tryz.sizeOf4; have v4:=Tryz.zeroValue4; have u4:=run_underlying t4
 have t164:=Tryz.underlying157; have a164:=Tryz.isAgg157; have z164:=Tryz.sizeOf157; have v164:=Tryz.zeroValue157; have u164:=run_underlying t164
 go_enter Tryz.func51,nt51
 go_wp2
 rw [Lib.run_to_unsafe w ⟨b,0,none⟩ t70 t164 hj (by rw [hjs]; decide) hsh (Nat.zero_lt_succ 1)]
 simp only [Result.andThen]
 rw [Oper.upon_value]
 go_wp2
 rw [run_callFunc_extern Tryz.func100 (by kernel_rfl) (by kernel_rfl) (by kernel_rfl) (e:=Extern.AbiNoEscape.same) (by kernel_rfl)]
 rw [Lib.run_noEscape]
 simp only [Result.andThen]
 rw [Oper.upon_value]
 go_wp2
 rw [Lib.run_from_unsafe w ⟨b,0,none⟩ t164 t70 hj hsh (by kernel_rfl)]
 simp only [Result.andThen]
 rw [Oper.upon_value]
 go_wp2
 go_end0
 exact ⟨rfl,rfl⟩
def u8s (l:List UInt8):List Int:=l.map fun x=>(x.toNat:Int)
def Bld (B b:Nat) (l:List UInt8) (w:World):Prop:=
 B ≤ b ∧ ∃ (p:Option Addr) (s:Sl),w.heap[b]? = some (.cells #[.pointer p,s.v] 63 (0,0)) ∧ (p = none ∨ p = some ⟨b,0,none⟩) ∧ OwnT w 5 (.sc (.int .u8)) s (u8s l) ∧ ∀ i,s.own i → B ≤ i
def BSet (B b:Nat) (w:World):Nat → Prop:=fun k=>k = b ∨ (B ≤ k ∧ ∃ cs fr,w.heap[k]? = some (.cells cs 5 fr))
def ChgB (B b:Nat) (w w':World):Prop:=Chg (BSet B b w) w w'
theorem ChgB.refl (B b:Nat) (w:World):ChgB B b w w:=Chg.refl w
theorem ChgB.trans {B b:Nat} {w w1 w2:World} (h:ChgB B b w w1) (k:ChgB B b w1 w2):ChgB B b w w2:=
 Chg.trans h k (fun _ _ h=>h) fun i hi ht=>by
  by_cases hs:BSet B b w i
  ·exact hs
  ·have:=h.block i hi hs
   rcases ht with ht | ⟨h1,cs,fr,h2⟩
   ·exact .inl ht
   ·exact .inr ⟨h1,cs,fr,by rw [← this]; exact h2⟩
theorem ChgB.nil {B b:Nat} {w w1:World} (h:Chg Nil w w1):ChgB B b w w1:=Chg.nil h
theorem ChgB.one {B b:Nat} {w w1:World} (h:Chg (· = b) w w1):ChgB B b w w1:=h.mono fun _ _ h=>.inl h
theorem ChgB.kept {B b:Nat} {l:List UInt8} {w w1:World} (h:ChgB B b w w1) (hb:Bld B b l w) {k:Nat} {o:Obj} (hk:w.heap[k]? = some o) (ho:∀ cs t fr,o = .cells cs t fr → t ≠ 63 ∧ t ≠ 5):w1.heap[k]? = some o:=by
 refine Chg.heap h hk ?_
 obtain ⟨_,p,s,h1,_⟩:=hb
 rintro (rfl | ⟨_,cs,fr,h2⟩)
 ·rw [h1] at hk; cases hk
  exact (ho _ _ _ rfl).1 rfl
 ·rw [h2] at hk; cases hk
  exact (ho _ _ _ rfl).2 rfl
theorem ChgB.keepO {B b:Nat} {l:List UInt8} {w w1:World} (h:ChgB B b w w1) (hb:Bld B b l w):KeepO KpB w w1:=fun k o ho hk=>h.kept hb hk (by
 obtain ⟨cs,t,fr,rfl,h1,h2,_⟩:=ho
 rintro _ _ _ ⟨⟩
 exact ⟨h1,h2⟩)
theorem ChgB.keepL {B b:Nat} {l:List UInt8} {w w1:World} (h:ChgB B b w w1) (hb:Bld B b l w):KeepL w w1:=fun k o hk ho=>h.kept hb hk (by
 rintro cs t fr rfl
 cases ho)
theorem Bld.drop {B b:Nat} {l:List UInt8} {w w1:World} (hb:Bld B b l w) {S:Nat → Prop} (h:Chg S w w1) (hs:∀ k,S k → ∀ cs t fr,w.heap[k]? = some (.cells cs t fr) → t ≠ 63 ∧ t ≠ 5):Bld B b l w1:=by
 obtain ⟨h0,p,s,h1,h2,h3,h4⟩:=hb
 refine ⟨h0,p,s,h.heap h1 fun hk=>?_,h2,h3.chg h fun a ha hk=>?_,h4⟩
 ·exact (hs _ hk _ _ _ h1).1 rfl
 ·obtain ⟨cur,hc⟩:=h3.elem ⟨a,ha,rfl⟩
  exact (hs _ hk _ _ _ hc).2 rfl
theorem flat_u8 (l:List UInt8):(u8s l).flatMap (Ty.sc (.int .u8)).cells = Lib.byteCells l:=by
 unfold u8s Lib.byteCells
 induction l with
 | nil=>rfl
 | cons a l ih=>rw [List.map_cons,List.flatMap_cons,ih]; rfl
theorem Bld.toAt {B b:Nat} {l:List UInt8} {w:World} (hb:Bld B b l w):Lib.IsBuilder 63 5 B b (Lib.byteCells l) w:=by
 obtain ⟨h0,p,s,h1,h2,h3,h4⟩:=hb
 have hrow:w.ownsRow B 5 1 s.v (Lib.byteCells l).length (Lib.byteCells l):=by
  have hr:=h3.row
  have hn:s.n = (Lib.byteCells l).length:=by rw [h3.len,u8s,List.length_map,Lib.byteCells_length]
  rw [flat_u8,hn] at hr
  refine ⟨hr.1,?_⟩
  rcases hr.2 with h | ⟨g,cap,cur,hv,_,h5⟩
  ·exact .inl h
  ·refine .inr ⟨g,cap,cur,hv,h4 g ⟨⟨g,0,none⟩,?_,rfl⟩,h5⟩
   simp only [Sl.v,Value.slice.injEq] at hv; exact hv.1
 have hat:Lib.BuilderAt 63 5 B b (.pointer p) (Lib.byteCells l) w:=⟨h0,s.v,h1,hrow,Lib.ownBlock_ne hrow h1 (by decide)⟩
 rcases h2 with rfl | rfl
 ·exact .inl hat
 ·exact .inr hat
theorem copy_ok {B b:Nat} {l:List UInt8} {w:World} (hb:Bld B b l w):Calls Tryz.prog 51 #[.pointer (some ⟨b,0,none⟩)] w fun e w'=>e = .returned (.tuple #[]) ∧ Bld B b l w' ∧ ChgB B b w w':=by
 have hat:=hb.toAt
 obtain ⟨h0,p,s,h1,h2,h3,h4⟩:=hb
 rcases h2 with rfl | rfl
 ·have hat:Lib.BuilderAt 63 5 B b (.pointer none) (Lib.byteCells l) w:=by
   rcases hat with h | h
   ·exact h
   ·have:=h.cell0
    rw [show w.cell? ⟨b,0,none⟩ = some (.pointer none) from cellOf0 h1] at this
    cases this
  refine (copy_fresh b w hat.cell0 hat.shape hat.frozen0).mono ?_
  rintro e w' ⟨rfl,rfl⟩
  have hc:Chg (· = b) w (w.setCell ⟨b,0,none⟩ (.pointer (some ⟨b,0,none⟩))):=Chg.setCell w _ rfl
  refine ⟨rfl,⟨h0,_,s,?_,.inr rfl,h3.chg hc fun a ha hk=>?_,h4⟩,ChgB.one hc⟩
  ·have:=heap_setCell_same w b 0 #[.pointer none,s.v] 63 (.pointer (some ⟨b,0,none⟩)) h1
   exact this
  ·have hk:a.block = b:=hk
   obtain ⟨cur,hcur⟩:=h3.elem ⟨a,ha,hk⟩
   rw [h1] at hcur; cases hcur
 ·refine (copy_used b w (cellOf0 h1)).mono ?_
  rintro e w' ⟨rfl,rfl⟩
  exact ⟨rfl,⟨h0,_,s,h1,.inr rfl,h3,h4⟩,ChgB.refl _ _ _⟩
theorem info5:∃ i,Tryz.prog.info? 5 = some i ∧ i.zero = some (.int .u8 0) ∧ i.size = 1 ∧ i.bytes = 1:=by
 have h:(Tryz.prog.info? 5).map (fun i=>(i.zero,i.size,i.bytes)) = some (some (.int .u8 0),1,1):=by kernel_rfl
 obtain ⟨i,hi,h2⟩:=Option.map_eq_some_iff.1 h
 simp only [Prod.mk.injEq] at h2
 exact ⟨i,hi,h2.1,h2.2.1,h2.2.2⟩
theorem u8s_app (l m:List UInt8):u8s (l ++ m) = u8s l ++ u8s m:=by unfold u8s; rw [List.map_append]
theorem own_base {B:Nat} {w:World} {s:Sl} {xs:List Int} (h:OwnT w 5 (.sc (.int .u8)) s xs) (hB:∀ i,s.own i → B ≤ i):w.ownsRow B 5 1 s.v s.n (xs.flatMap (Ty.sc (.int .u8)).cells):=by
 have hr:=h.row
 refine ⟨hr.1,?_⟩
 rcases hr.2 with h | ⟨g,cap,cur,hv,_,h5⟩
 ·exact .inl h
 ·refine .inr ⟨g,cap,cur,hv,hB g ⟨⟨g,0,none⟩,?_,rfl⟩,h5⟩
  simp only [Sl.v,Value.slice.injEq] at hv; exact hv.1
theorem append_str {B:Nat} {w:World} {s:Sl} {l:List UInt8} (h:OwnT w 5 (.sc (.int .u8)) s (u8s l)) (hB:∀ i,s.own i → B ≤ i) (hBw:B ≤ w.heap.size) (x:ByteArray) (hb:l.length + x.size ≤ 140737488355328) {K:Sl → World → Prop}
  (k:∀ s' w',OwnT w' 5 (.sc (.int .u8)) s' (u8s (l ++ x.data.toList)) → Chg s.own w w' → (∀ i,s'.own i → B ≤ i) → K s' w') :
  RunT Tryz.prog (.sc .sl) (Builtin.append_ #[61,9] 61 #[s.v,.string x]) w K:=by
 obtain ⟨i,i1,i2,i3,i4⟩:=info5
 have hn:s.n = l.length:=by rw [h.len,u8s,List.length_map]
 obtain ⟨v',w',h1,h2,h3,_⟩:=Lib.run_append_own_string (P:=Tryz.prog) w B 61 9 61 5 i Tryz.underlying61 Tryz.underlying9 i1 i2 i3 i4 s.v s.n _ (own_base h hB) x (by rw [hn]; simp only [maxLen]; omega) (by rw [hn]; exact hb) hBw
 have hx:(u8s l).flatMap (Ty.sc (.int .u8)).cells ++ Lib.strCells x = (u8s (l ++ x.data.toList)).flatMap (Ty.sc (.int .u8)).cells:=by
  rw [u8s_app,List.flatMap_append,flat_u8,flat_u8]; rfl
 rw [hx] at h2
 have hl:(u8s (l ++ x.data.toList)).length = s.n + x.size:=by rw [u8s,List.length_map,List.length_append,hn]; rfl
 have hg:Chg s.own w w':=Chg.grown h3 fun k hk=>by
  unfold Value.ownBlock at hk
  split at hk
  ·rename_i a _ _ hv
   cases hk
   simp only [Sl.v,Value.slice.injEq] at hv
   exact ⟨a,hv.1,rfl⟩
  ·cases hk
 rcases h2.2 with ⟨rfl,h0⟩ | ⟨g,cap,cur,rfl,hg',h5,h6,h7,h8,h9⟩
 ·exact ⟨⟨none,0,0⟩,w',h1,k _ _ ⟨⟨by rw [h2.1,h0]; rfl,.inl ⟨rfl,rfl⟩⟩,by rw [hl,h0]⟩ hg fun i hi=>by
   obtain ⟨a,ha,_⟩:=hi
   cases ha⟩
 ·exact ⟨⟨some ⟨g,0,none⟩,s.n + x.size,cap⟩,w',h1,k _ _ ⟨⟨h2.1,.inr ⟨g,cap,cur,rfl,Nat.zero_le _,h5,h6,h7,h8,h9⟩⟩,by rw [hl]⟩ hg fun i hi=>by
   obtain ⟨a,ha,rfl⟩:=hi
   cases ha; exact hg'⟩
theorem Bld.lt {B b:Nat} {l:List UInt8} {w:World} (hb:Bld B b l w):b < w.heap.size:=by
 obtain ⟨_,p,s,h1,_⟩:=hb
 exact lt_of_heap h1
theorem own_ne {w:World} {b:Nat} {p:Value} {s:Sl} {l:List Int} (h1:w.heap[b]? = some (.cells #[p,s.v] 63 (0,0))) (h3:OwnT w 5 (.sc (.int .u8)) s l):¬ s.own b:=fun ho=>by
 obtain ⟨cur,hcur⟩:=h3.elem ho
 rw [h1] at hcur; cases hcur
theorem own_set {B b:Nat} {w w1:World} {s:Sl} {l:List Int} (h3:OwnT w 5 (.sc (.int .u8)) s l) (h4:∀ i,s.own i → B ≤ i) (hc:Chg s.own w w1):ChgB B b w w1:=hc.mono fun i _ hi=>by
 obtain ⟨cur,hcur⟩:=h3.elem hi
 exact .inr ⟨h4 i hi,_,_,hcur⟩
theorem write_ok {B b:Nat} {l:List UInt8} {w:World} (hb:Bld B b l w) (x:ByteArray) (hl:l.length + x.size ≤ 140737488355328) :
  Calls Tryz.prog 18 #[.pointer (some ⟨b,0,none⟩),.string x] w fun e w'=>e = .returned (.tuple #[.int .i64 x.size,.nilIface]) ∧ Bld B b (l ++ x.data.toList) w' ∧ ChgB B b w w':=by
 have hlt:=hb.lt
 refine __strings_Builder__WriteString.calls (some ⟨b,0,none⟩) x ?_
 unfold __strings_Builder__WriteString.sh
 refine Calls.mono (copy_ok hb) fun e W1 he=>?_
 obtain ⟨rfl,⟨h0,p,s,h1,h2,h3,h4⟩,hc1⟩:=he
 have hlt1:=hc1.size
 refine ⟨(),rfl,?_⟩
 refine NilCk.mk (LoadT.sc (s:=.sl) (x:=s) (by rw [cellOf h1]; rfl) ?_)
 refine append_str h3 h4 (by omega) x hl fun s' W2 h3' hc2 h4'=>NilCk.mk ?_
 have h1':=hc2.heap h1 (own_ne h1 h3)
 refine Store1.at h1' 1 (by show 1 < 2; decide) (cs':=#[.pointer p,s'.v]) rfl fun W3 h5 hc3 hs3=>?_
 refine ⟨rfl,⟨h0,p,s',h5,h2,h3'.chg hc3 fun a ha hk=>?_,h4'⟩,hc1.trans ((own_set h3 h4 hc2).trans (ChgB.one hc3))⟩
 have hk:a.block = b:=hk
 obtain ⟨cur,hcur⟩:=h3'.elem ⟨a,ha,hk⟩
 rw [h1'] at hcur; cases hcur
theorem wbyte_ok {B b:Nat} {l:List UInt8} {w:World} (hb:Bld B b l w) (hl:l.length + 1 ≤ 140737488355328) :
  Calls Tryz.prog 19 #[.pointer (some ⟨b,0,none⟩),.int .u8 10] w fun e w'=>e = .returned .nilIface ∧ Bld B b (l ++ [10]) w' ∧ ChgB B b w w':=by
 have hlt:=hb.lt
 refine __strings_Builder__WriteByte.calls (some ⟨b,0,none⟩) 10 ?_
 unfold __strings_Builder__WriteByte.sh
 refine Calls.mono (copy_ok hb) fun e W1 he=>?_
 obtain ⟨rfl,⟨h0,p,s,h1,h2,h3,h4⟩,hc1⟩:=he
 have hlt1:=hc1.size
 refine ⟨(),rfl,?_⟩
 refine NilCk.mk (LoadT.sc (s:=.sl) (x:=s) (by rw [cellOf h1]; rfl) ?_)
 refine New.mk fun b2 W2 hb2 hn2 hs2 hc2=>?_
 have h1:=hc2.heap h1 fun h=>h
 have h3:=h3.chg hc2 fun _ _ h=>h
 have hu:u8s (l ++ [10]) = u8s l ++ [10]:=by rw [u8s_app]; rfl
 have hul:(u8s l).length = l.length:=by rw [u8s,List.length_map]
 refine OwnT.append (e:=5) (t:=.sc (.int .u8)) (bytes:=1) (by kernel_rfl) rfl (by decide) h3 [10] rfl (by decide) (fun j v hj=>?_) (by show ((u8s l).length + 1) * 1 ≤ _; rw [hul]; omega) (by show (u8s l).length + 1 ≤ _; rw [hul]; simp only [maxLen]; omega) fun s' W3 h3' hc3 h4'=>NilCk.mk ?_
 ·rcases j with _ | j
  ·have hj:some (Value.int .u8 10) = some v:=hj
   rw [← hj,cellOf hn2]; rfl
  ·have hj:([]:List Value)[j]? = some v:=hj
   simp at hj
 have h1':=hc3.heap h1 (own_ne h1 h3)
 refine Store1.at h1' 1 (by show 1 < 2; decide) (cs':=#[.pointer p,s'.v]) rfl fun W4 h5 hc4 hs3=>?_
 refine ⟨rfl,⟨h0,p,s',h5,h2,?_,fun i hi=>?_⟩,hc1.trans ((ChgB.nil hc2).trans ((own_set h3 h4 hc3).trans (ChgB.one hc4)))⟩
 ·rw [hu]
  refine h3'.chg hc4 fun a ha hk=>?_
  have hk:a.block = b:=hk
  obtain ⟨cur,hcur⟩:=h3'.elem ⟨a,ha,hk⟩
  rw [h1'] at hcur; cases hcur
 ·rcases h4' i hi with h | h
  ·exact h4 i h
  ·omega
theorem len_ok {B b:Nat} {l:List UInt8} {w:World} (hb:Bld B b l w):Calls Tryz.prog 17 #[.pointer (some ⟨b,0,none⟩)] w fun e w'=>e = .returned (.int .i64 l.length) ∧ w' = w:=
 (Tryz.Builder_Len B b _ w hb.toAt).mono fun e w' h=>by rw [Lib.byteCells_length] at h; exact h
theorem str_ok {B b:Nat} {l:List UInt8} {w:World} (hb:Bld B b l w):Calls Tryz.prog 20 #[.pointer (some ⟨b,0,none⟩)] w fun e w'=>e = .returned (.string ⟨l.toArray⟩) ∧ Below B w w' ∧ ∀ (k:Nat) (o:Obj),w.heap[k]? = some o → (∀ cs t fr,o = .cells cs t fr → t ≠ 63 ∧ t ≠ 5) → w'.heap[k]? = some o:=by
 have hlt:=hb.lt
 have h0:=hb.1
 refine (Tryz.Builder_String_any_k B b l w (Lib.IsBuilderF.of hb.toAt) (by omega)).mono ?_
 rintro e w' ⟨rfl,_,h2,h3⟩
 refine ⟨rfl,h2,fun k o hk ho=>h3 k o hk (fun he=>?_) fun c fz he=>?_⟩
 ·cases he
  obtain ⟨_,p,s,h1,_⟩:=hb
  rw [h1] at hk; cases hk
  exact (ho _ _ _ rfl).1 rfl
 ·exact (ho _ _ _ he).2 rfl
end Go.Proofs.YtpifnlfmojfgpaaGreatDoor.Pk
end
section
set_option maxRecDepth 10000
set_option maxHeartbeats 4000000
namespace Go.Proofs.YtpifnlfmojfgpaaGreatDoor.Pk
open Fw Pw Ct Rk
theorem two_len (h w:Str) (hh:h.length ≤ 100) (hw:w.length ≤ 20020):(textL [[h,w]]).length ≤ 20200:=by
 simp only [textL,List.flatMap_cons,List.flatMap_nil,lineS,List.length_append,List.length_cons,List.length_nil]; omega
theorem if_len {p:Prop} [Decidable p] {L:Lns} {n:Nat} (h:(textL L).length ≤ n):(textL (if p then [] else L)).length ≤ n:=by
 split
 ·simp [textL]
 ·exact h
theorem if_len' {b:Bool} {L:Lns} {n:Nat} (h:b = false → (textL L).length ≤ n):(textL (if b then [] else L)).length ≤ n:=by
 cases b
 ·exact h rfl
 ·simp [textL]
theorem strL_len {s:Strc} (hl:Lim NN strT s) (hw:strW s = true):(textL (strL s)).length ≤ 400000000000000:=by
 obtain ⟨l1,l2,l3,l4,l5,l6,_⟩:=hl
 simp only [strW,Bool.and_eq_true,List.all_eq_true] at hw
 obtain ⟨⟨⟨⟨w1,w2⟩,w3⟩,w4⟩,w5⟩:=hw
 have n3:s.2.2.1.length ≤ 20001:=l3.1
 have n4:s.2.2.2.1.length ≤ 20001:=l4.1
 have n5:s.2.2.2.2.1.length ≤ 20001:=l5.1
 have n6:s.2.2.2.2.2.1.length ≤ 20001:=l6.1
 have mone:∀ d ∈ s.2.2.1,(textL (autL sMult d)).length ≤ 9000000000:=fun d hd=>autL_len (by decide) (l3.2 d hd) (w2 d hd)
 have dfone:∀ d ∈ s.2.2.2.1,(textL [[sDiff,wordS d]]).length ≤ 20200:=fun d hd=>by
  have h1:d.length ≤ 20001:=l4.2 d hd
  have h2:=wordS_len h1
  exact two_len _ _ (by decide) (by omega)
 have tone:∀ d ∈ s.2.2.2.2.1,(textL (stepL d)).length ≤ 500000000:=fun d hd=>by
  obtain ⟨a1,a2,a3,a4,a5,_⟩:=l5.2 d hd
  have h1:=cellsL_len (h:=sProof) (by decide) a5
  have h2:=tail_len [d.1,d.2.1,d.2.2.1,d.2.2.2.1] fun n hn=>by
   simp only [List.mem_cons,List.not_mem_nil,or_false] at hn
   rcases hn with rfl | rfl | rfl | rfl <;> assumption
  show (textL ((sStep :: itoas [d.1,d.2.1,d.2.2.1,d.2.2.2.1]) :: cellsL sProof d.2.2.2.2.1)).length ≤ _
  rw [line_text]
  simp only [List.length_append,List.length_cons,List.length_nil] at h2 ⊢
  omega
 have eone:∀ d ∈ s.2.2.2.2.2.1,(textL (endL d)).length ≤ 500000000:=fun d hd=>by
  obtain ⟨a1,a2,a5,_⟩:=l6.2 d hd
  have h1:=cellsL_len (h:=sProof) (by decide) a5
  have h2:=tail_len [d.1,d.2.1] fun n hn=>by
   simp only [List.mem_cons,List.not_mem_nil,or_false] at hn
   rcases hn with rfl | rfl <;> assumption
  show (textL ((sEnd :: itoas [d.1,d.2.1]) :: cellsL sProof d.2.2.1)).length ≤ _
  rw [line_text]
  simp only [List.length_append,List.length_cons,List.length_nil] at h2 ⊢
  omega
 have b1:=autL_len (h:=sAccept) (by decide) l2 w1
 have b2:=flat_bound (autL sMult) _ s.2.2.1 mone
 have b3:=flat_bound (fun d=>[[sDiff,wordS d]]) _ s.2.2.2.1 dfone
 have b4:=flat_bound stepL _ s.2.2.2.2.1 tone
 have b5:=flat_bound endL _ s.2.2.2.2.2.1 eone
 have e3:∀ l:List Str,l.map (fun d=>[sDiff,wordS d]) = l.flatMap (fun d=>[[sDiff,wordS d]]):=fun l=>by
  induction l with
  | nil=>rfl
  | cons a l ih=>rw [List.map_cons,List.flatMap_cons,ih]; rfl
 unfold strL
 rw [e3]
 simp only [textL_app,List.length_append]
 omega
theorem text_len {c:Clm} (hl:Lim NN claimT c) (hw:writable c = true):(textL (linesC c)).length ≤ 1000000000000000:=by
 obtain ⟨k,⟨g,r,pu⟩,u,v,n,d,⟨cj,ring,au⟩,⟨sk,sm,si,sp,su⟩,im,⟨mp,md,mi,mu⟩,st,cu⟩:=c
 obtain ⟨lk,⟨lg,lr,_⟩,lu,lv,ln,ld,⟨lcj,lring,_⟩,⟨lsk,lsm,lsi,lsp,_⟩,lim,⟨lmp,lmd,lmi,_⟩,lst,_⟩:=hl
 simp only [writable,Bool.and_eq_true,decide_eq_true_eq] at hw
 obtain ⟨⟨⟨⟨⟨⟨⟨⟨⟨⟨w1,w2⟩,w3⟩,w4⟩,w5⟩,w6⟩,w7⟩,w8⟩,w9⟩,w10⟩,w11⟩:=hw
 have w1:(1:Int) ≤ k:=w1
 have w2:k ≤ (9:Int):=w2
 have hkl:=kindW_len w1 w2
 have lu:u.length ≤ 20001:=lu
 have lv:v.length ≤ 20001:=lv
 have lcj:cj.length ≤ 20001:=lcj
 have nr:r.length ≤ 20001:=lr.1
 have nsp:sp.length ≤ 20001:=lsp.1
 have nmi:mi.length ≤ 20001:=lmi.1
 have rsi:RowOk si:=⟨lsi.1,lsi.2⟩
 have rim:RowOk im:=⟨lim.1,lim.2⟩
 have oner:∀ d ∈ r,(textL (fRel d)).length ≤ 20200:=fun d hd=>by
  have h1:d.length ≤ 20001:=lr.2 d hd
  exact two_len _ _ (by decide) (by omega)
 have onesp:∀ d ∈ sp,(textL (fPerm d)).length ≤ 450000:=fun d hd=>row_txt (by decide) ⟨(lsp.2 d hd).1,(lsp.2 d hd).2⟩
 have onemi:∀ d ∈ mi,(textL (fPoint d)).length ≤ 450000:=fun d hd=>row_txt (by decide) ⟨(lmi.2 d hd).1,(lmi.2 d hd).2⟩
 have c1:=two_len sClaim (kindW k) (by decide) (by omega)
 have c2:=row_txt (h:=sGens) (by decide) (row_one lg)
 have c3:=Nat.le_trans (flat_bound fRel _ r oner) (Nat.mul_le_mul_left _ nr)
 have c4:=if_len (p:=u = []) (two_len sU u (by decide) (by omega))
 have c5:=if_len (p:=v = []) (two_len sV v (by decide) (by omega))
 have c6:=if_len (p:=n = 0) (row_txt (h:=sN) (by decide) (row_one ln))
 have c7:=cellsL_len (h:=sCell) (by decide) ld
 have c8:=if_len (p:=cj = []) (two_len sConj cj (by decide) (by omega))
 have c9:=cellsL_len (h:=sRing) (by decide) lring
 have c10:=if_len (p:=sk = 0 ∧ sm = 0) (row_txt (h:=sSep) (by decide) (row_two lsk lsm))
 have c11:=if_len (p:=si = []) (row_txt (h:=sImage) (by decide) rsi)
 have c12:=Nat.le_trans (flat_bound fPerm _ sp onesp) (Nat.mul_le_mul_left _ nsp)
 have c13:=if_len (p:=im = []) (row_txt (h:=sValue) (by decide) rim)
 have c14:=row_txt (h:=sDegree) (by decide) (row_one lmd)
 have c15:=Nat.le_trans (flat_bound fPoint _ mi onemi) (Nat.mul_le_mul_left _ nmi)
 have c16:=if_len' (b:=noStr st) fun _=>strL_len lst w11
 have c17:=if_len' (b:=noMap (mp,md,mi,mu)) (L:=[sDegree,Go.Lib.itoa md] :: mi.map (fun l=>sPoint :: itoas l)) (n:=450000 + 450000 * 20001) fun _=>by
  have:textL ([sDegree,Go.Lib.itoa md] :: mi.map (fun l=>sPoint :: itoas l)) = textL [sDegree :: itoas [md]] ++ textL (mi.flatMap fPoint):=by
   rw [show fPoint = fun d=>[sPoint :: itoas d] from rfl,flat_map]
   rw [← textL_app]; rfl
  rw [this,List.length_append]; exact Nat.add_le_add c14 c15
 have hL:textL (linesC (k,(g,r,pu),u,v,n,d,(cj,ring,au),(sk,sm,si,sp,su),im,(mp,md,mi,mu),st,cu)) = textL [[sClaim,kindW k]] ++ (textL [sGens :: itoas [g]] ++ (textL (r.flatMap fRel) ++ (textL (if u = [] then [] else [[sU,u]]) ++ (textL (if v = [] then [] else [[sV,v]]) ++
   (textL (if n = 0 then [] else [sN :: itoas [n]]) ++ (textL (cellsL sCell d) ++ (textL (if cj = [] then [] else [[sConj,cj]]) ++ (textL (cellsL sRing ring) ++ (textL (if sk = 0 ∧ sm = 0 then [] else [sSep :: itoas [sk,sm]]) ++ (textL (if si = [] then [] else [sImage :: itoas si]) ++ (textL (sp.flatMap fPerm) ++
   (textL (if im = [] then [] else [sValue :: itoas im]) ++ (textL (if noMap (mp,md,mi,mu) then [] else [sDegree,Go.Lib.itoa md] :: mi.map (fun l=>sPoint :: itoas l)) ++ (textL (if noStr st then [] else strL st) ++ textL [[sDone]])))))))))))))):=by
  rw [show fPerm = fun d=>[sPerm :: itoas d] from rfl,flat_map,flat_rel]
  simp only [← textL_app]
  unfold linesC frontL sepL mapL
  simp only [List.append_assoc,List.cons_append,List.nil_append]
  rfl
 rw [hL]
 have c18:(textL [[sDone]]).length ≤ 5:=Nat.le_refl _
 simp only [List.length_append]
 exact Nat.le_trans (Nat.add_le_add c1 (Nat.add_le_add c2 (Nat.add_le_add c3 (Nat.add_le_add c4 (Nat.add_le_add c5 (Nat.add_le_add c6 (Nat.add_le_add c7 (Nat.add_le_add c8 (Nat.add_le_add c9 (Nat.add_le_add c10 (Nat.add_le_add c11 (Nat.add_le_add c12 (Nat.add_le_add c13 (Nat.add_le_add c17 (Nat.add_le_add c16 c18))))))))))))))) (by decide)
end Go.Proofs.YtpifnlfmojfgpaaGreatDoor.Pk
end
section
set_option maxRecDepth 10000
namespace Go.Proofs.YtpifnlfmojfgpaaGreatDoor
open Fw
noncomputable def cert_Text.ann:Ann where
 loops:=fun | _=>[]
 joins:=fun | _=>none
noncomputable def cert_Text.body:Code:=match Tryz.f6.body with | some c=>c | none=>.skip
def cert_Text.sh (p0_0:Int) (p0_1:Int) (p0_2:Sl) (p0_3:ByteArray) (p0_4:ByteArray) (p0_5:Int) (p0_6:Sl) (p0_7:ByteArray) (p0_8:Sl) (p0_9:Int) (p0_10:Int) (p0_11:Sl) (p0_12:Sl) (p0_13:Sl) (p0_14:Int) (p0_15:Sl) (p0_16:Int) (p0_17:Sl) (p0_18:Int) (p0_19:Sl) (p0_20:Int) (p0_21:Int) (p0_22:Sl) (p0_23:Sl) (p0_24:Sl) (p0_25:Sl) (p0_26:Sl) (p0_27:Sl) (R:Ending → World → Prop) (w:World):Prop:=
 New w (.cells #[(.int .i64 p0_0),(.int .i64 p0_1),(.slice p0_2.a p0_2.n p0_2.c),(.string p0_3),(.string p0_4),(.int .i64 p0_5),(.slice p0_6.a p0_6.n p0_6.c),(.string p0_7),(.slice p0_8.a p0_8.n p0_8.c),(.int .i64 p0_9),(.int .i64 p0_10),(.slice p0_11.a p0_11.n p0_11.c),(.slice p0_12.a p0_12.n p0_12.c),(.slice p0_13.a p0_13.n p0_13.c),(.int .i64 p0_14),(.slice p0_15.a p0_15.n p0_15.c),(.int .i64 p0_16),(.slice p0_17.a p0_17.n p0_17.c),(.int .i64 p0_18),(.slice p0_19.a p0_19.n p0_19.c),(.int .i64 p0_20),(.int .i64 p0_21),(.slice p0_22.a p0_22.n p0_22.c),(.slice p0_23.a p0_23.n p0_23.c),(.slice p0_24.a p0_24.n p0_24.c),(.slice p0_25.a p0_25.n p0_25.c),(.slice p0_26.a p0_26.n p0_26.c),(.slice p0_27.a p0_27.n p0_27.c)] 43) fun b1 w2=>
 New w2 (.cells #[(.string (ByteArray.mk #[]))] 9) fun b3 w4=>
 New w4 (.cells #[(.int .i64 0)] 45) fun b5 w6=>
 LoadT (.agg [.int .i64,.int .i64,.sl,.str,.str,.int .i64,.sl,.str,.sl,.int .i64,.int .i64,.sl,.sl,.sl,.int .i64,.sl,.int .i64,.sl,.int .i64,.sl,.int .i64,.int .i64,.sl,.sl,.sl,.sl,.sl,.sl]) w6 (Addr.mk b1 0 none) fun x7=>
 CallT Tryz.prog 15 #[(.agg #[(.int .i64 x7.1),(.int .i64 x7.2.1),(.slice x7.2.2.1.a x7.2.2.1.n x7.2.2.1.c),(.string x7.2.2.2.1),(.string x7.2.2.2.2.1),(.int .i64 x7.2.2.2.2.2.1),(.slice x7.2.2.2.2.2.2.1.a x7.2.2.2.2.2.2.1.n x7.2.2.2.2.2.2.1.c),(.string x7.2.2.2.2.2.2.2.1),(.slice x7.2.2.2.2.2.2.2.2.1.a x7.2.2.2.2.2.2.2.2.1.n x7.2.2.2.2.2.2.2.2.1.c),(.int .i64 x7.2.2.2.2.2.2.2.2.2.1),(.int .i64 x7.2.2.2.2.2.2.2.2.2.2.1),(.slice x7.2.2.2.2.2.2.2.2.2.2.2.1.a x7.2.2.2.2.2.2.2.2.2.2.2.1.n x7.2.2.2.2.2.2.2.2.2.2.2.1.c),(.slice x7.2.2.2.2.2.2.2.2.2.2.2.2.1.a x7.2.2.2.2.2.2.2.2.2.2.2.2.1.n x7.2.2.2.2.2.2.2.2.2.2.2.2.1.c),(.slice x7.2.2.2.2.2.2.2.2.2.2.2.2.2.1.a x7.2.2.2.2.2.2.2.2.2.2.2.2.2.1.n x7.2.2.2.2.2.2.2.2.2.2.2.2.2.1.c),(.int .i64 x7.2.2.2.2.2.2.2.2.2.2.2.2.2.2.1),(.slice x7.2.2.2.2.2.2.2.2.2.2.2.2.2.2.2.1.a x7.2.2.2.2.2.2.2.2.2.2.2.2.2.2.2.1.n x7.2.2.2.2.2.2.2.2.2.2.2.2.2.2.2.1.c),(.int .i64 x7.2.2.2.2.2.2.2.2.2.2.2.2.2.2.2.2.1),(.slice x7.2.2.2.2.2.2.2.2.2.2.2.2.2.2.2.2.2.1.a x7.2.2.2.2.2.2.2.2.2.2.2.2.2.2.2.2.2.1.n x7.2.2.2.2.2.2.2.2.2.2.2.2.2.2.2.2.2.1.c),(.int .i64 x7.2.2.2.2.2.2.2.2.2.2.2.2.2.2.2.2.2.2.1),(.slice x7.2.2.2.2.2.2.2.2.2.2.2.2.2.2.2.2.2.2.2.1.a x7.2.2.2.2.2.2.2.2.2.2.2.2.2.2.2.2.2.2.2.1.n x7.2.2.2.2.2.2.2.2.2.2.2.2.2.2.2.2.2.2.2.1.c),(.int .i64 x7.2.2.2.2.2.2.2.2.2.2.2.2.2.2.2.2.2.2.2.2.1),(.int .i64 x7.2.2.2.2.2.2.2.2.2.2.2.2.2.2.2.2.2.2.2.2.2.1),(.slice x7.2.2.2.2.2.2.2.2.2.2.2.2.2.2.2.2.2.2.2.2.2.2.1.a x7.2.2.2.2.2.2.2.2.2.2.2.2.2.2.2.2.2.2.2.2.2.2.1.n x7.2.2.2.2.2.2.2.2.2.2.2.2.2.2.2.2.2.2.2.2.2.2.1.c),(.slice x7.2.2.2.2.2.2.2.2.2.2.2.2.2.2.2.2.2.2.2.2.2.2.2.1.a x7.2.2.2.2.2.2.2.2.2.2.2.2.2.2.2.2.2.2.2.2.2.2.2.1.n x7.2.2.2.2.2.2.2.2.2.2.2.2.2.2.2.2.2.2.2.2.2.2.2.1.c),(.slice x7.2.2.2.2.2.2.2.2.2.2.2.2.2.2.2.2.2.2.2.2.2.2.2.2.1.a x7.2.2.2.2.2.2.2.2.2.2.2.2.2.2.2.2.2.2.2.2.2.2.2.2.1.n x7.2.2.2.2.2.2.2.2.2.2.2.2.2.2.2.2.2.2.2.2.2.2.2.2.1.c),(.slice x7.2.2.2.2.2.2.2.2.2.2.2.2.2.2.2.2.2.2.2.2.2.2.2.2.2.1.a x7.2.2.2.2.2.2.2.2.2.2.2.2.2.2.2.2.2.2.2.2.2.2.2.2.2.1.n x7.2.2.2.2.2.2.2.2.2.2.2.2.2.2.2.2.2.2.2.2.2.2.2.2.2.1.c),(.slice x7.2.2.2.2.2.2.2.2.2.2.2.2.2.2.2.2.2.2.2.2.2.2.2.2.2.2.1.a x7.2.2.2.2.2.2.2.2.2.2.2.2.2.2.2.2.2.2.2.2.2.2.2.2.2.2.1.n x7.2.2.2.2.2.2.2.2.2.2.2.2.2.2.2.2.2.2.2.2.2.2.2.2.2.2.1.c),(.slice x7.2.2.2.2.2.2.2.2.2.2.2.2.2.2.2.2.2.2.2.2.2.2.2.2.2.2.2.1.a x7.2.2.2.2.2.2.2.2.2.2.2.2.2.2.2.2.2.2.2.2.2.2.2.2.2.2.2.1.n x7.2.2.2.2.2.2.2.2.2.2.2.2.2.2.2.2.2.2.2.2.2.2.2.2.2.2.2.1.c)])] (.sc .bool) w6 (fun r8 w9=>
  Br (!r8)
   (Store1 w9 (Addr.mk b3 0 none) (.string (ByteArray.mk #[])) fun w11=>
   Store1 w11 (Addr.mk b5 0 none) (.int .i64 280) fun w12=>
   LoadT (.sc .str) w12 (Addr.mk b3 0 none) fun x13=>
   LoadT (.sc (.int .i64)) w12 (Addr.mk b5 0 none) fun x14=>
   R (.returned (.tuple #[(.string x13),(.int .i64 x14)])) w12)
   (New w9 (.cells #[(.pointer none),(.slice none 0 0)] 63) fun b15 w16=>
   LoadT (.agg [.int .i64,.int .i64,.sl,.str,.str,.int .i64,.sl,.str,.sl,.int .i64,.int .i64,.sl,.sl,.sl,.int .i64,.sl,.int .i64,.sl,.int .i64,.sl,.int .i64,.int .i64,.sl,.sl,.sl,.sl,.sl,.sl]) w16 (Addr.mk b1 0 none) fun x17=>
   CallT Tryz.prog 16 #[(.agg #[(.int .i64 x17.1),(.int .i64 x17.2.1),(.slice x17.2.2.1.a x17.2.2.1.n x17.2.2.1.c),(.string x17.2.2.2.1),(.string x17.2.2.2.2.1),(.int .i64 x17.2.2.2.2.2.1),(.slice x17.2.2.2.2.2.2.1.a x17.2.2.2.2.2.2.1.n x17.2.2.2.2.2.2.1.c),(.string x17.2.2.2.2.2.2.2.1),(.slice x17.2.2.2.2.2.2.2.2.1.a x17.2.2.2.2.2.2.2.2.1.n x17.2.2.2.2.2.2.2.2.1.c),(.int .i64 x17.2.2.2.2.2.2.2.2.2.1),(.int .i64 x17.2.2.2.2.2.2.2.2.2.2.1),(.slice x17.2.2.2.2.2.2.2.2.2.2.2.1.a x17.2.2.2.2.2.2.2.2.2.2.2.1.n x17.2.2.2.2.2.2.2.2.2.2.2.1.c),(.slice x17.2.2.2.2.2.2.2.2.2.2.2.2.1.a x17.2.2.2.2.2.2.2.2.2.2.2.2.1.n x17.2.2.2.2.2.2.2.2.2.2.2.2.1.c),(.slice x17.2.2.2.2.2.2.2.2.2.2.2.2.2.1.a x17.2.2.2.2.2.2.2.2.2.2.2.2.2.1.n x17.2.2.2.2.2.2.2.2.2.2.2.2.2.1.c),(.int .i64 x17.2.2.2.2.2.2.2.2.2.2.2.2.2.2.1),(.slice x17.2.2.2.2.2.2.2.2.2.2.2.2.2.2.2.1.a x17.2.2.2.2.2.2.2.2.2.2.2.2.2.2.2.1.n x17.2.2.2.2.2.2.2.2.2.2.2.2.2.2.2.1.c),(.int .i64 x17.2.2.2.2.2.2.2.2.2.2.2.2.2.2.2.2.1),(.slice x17.2.2.2.2.2.2.2.2.2.2.2.2.2.2.2.2.2.1.a x17.2.2.2.2.2.2.2.2.2.2.2.2.2.2.2.2.2.1.n x17.2.2.2.2.2.2.2.2.2.2.2.2.2.2.2.2.2.1.c),(.int .i64 x17.2.2.2.2.2.2.2.2.2.2.2.2.2.2.2.2.2.2.1),(.slice x17.2.2.2.2.2.2.2.2.2.2.2.2.2.2.2.2.2.2.2.1.a x17.2.2.2.2.2.2.2.2.2.2.2.2.2.2.2.2.2.2.2.1.n x17.2.2.2.2.2.2.2.2.2.2.2.2.2.2.2.2.2.2.2.1.c),(.int .i64 x17.2.2.2.2.2.2.2.2.2.2.2.2.2.2.2.2.2.2.2.2.1),(.int .i64 x17.2.2.2.2.2.2.2.2.2.2.2.2.2.2.2.2.2.2.2.2.2.1),(.slice x17.2.2.2.2.2.2.2.2.2.2.2.2.2.2.2.2.2.2.2.2.2.2.1.a x17.2.2.2.2.2.2.2.2.2.2.2.2.2.2.2.2.2.2.2.2.2.2.1.n x17.2.2.2.2.2.2.2.2.2.2.2.2.2.2.2.2.2.2.2.2.2.2.1.c),(.slice x17.2.2.2.2.2.2.2.2.2.2.2.2.2.2.2.2.2.2.2.2.2.2.2.1.a x17.2.2.2.2.2.2.2.2.2.2.2.2.2.2.2.2.2.2.2.2.2.2.2.1.n x17.2.2.2.2.2.2.2.2.2.2.2.2.2.2.2.2.2.2.2.2.2.2.2.1.c),(.slice x17.2.2.2.2.2.2.2.2.2.2.2.2.2.2.2.2.2.2.2.2.2.2.2.2.1.a x17.2.2.2.2.2.2.2.2.2.2.2.2.2.2.2.2.2.2.2.2.2.2.2.2.1.n x17.2.2.2.2.2.2.2.2.2.2.2.2.2.2.2.2.2.2.2.2.2.2.2.2.1.c),(.slice x17.2.2.2.2.2.2.2.2.2.2.2.2.2.2.2.2.2.2.2.2.2.2.2.2.2.1.a x17.2.2.2.2.2.2.2.2.2.2.2.2.2.2.2.2.2.2.2.2.2.2.2.2.2.1.n x17.2.2.2.2.2.2.2.2.2.2.2.2.2.2.2.2.2.2.2.2.2.2.2.2.2.1.c),(.slice x17.2.2.2.2.2.2.2.2.2.2.2.2.2.2.2.2.2.2.2.2.2.2.2.2.2.2.1.a x17.2.2.2.2.2.2.2.2.2.2.2.2.2.2.2.2.2.2.2.2.2.2.2.2.2.2.1.n x17.2.2.2.2.2.2.2.2.2.2.2.2.2.2.2.2.2.2.2.2.2.2.2.2.2.2.1.c),(.slice x17.2.2.2.2.2.2.2.2.2.2.2.2.2.2.2.2.2.2.2.2.2.2.2.2.2.2.2.1.a x17.2.2.2.2.2.2.2.2.2.2.2.2.2.2.2.2.2.2.2.2.2.2.2.2.2.2.2.1.n x17.2.2.2.2.2.2.2.2.2.2.2.2.2.2.2.2.2.2.2.2.2.2.2.2.2.2.2.1.c)])] (.sc (.clo 44 1)) w16 (fun r18 w19=>
    RangeF Tryz.prog 44 #[] #[(.pointer (some r18.1))] [.sc .str] w19 (fun x21 w22 Kc23 Kx24=>
     CallT Tryz.prog 17 #[(.pointer (some (Addr.mk b15 0 none)))] (.sc (.int .i64)) w22 (fun r28 w29=>
       Br (decide (((IntKind.wrap .i64 ((IntKind.wrap .i64 (r28 + ((x21.1.size:Nat):Int))) + 1)):Int) > 2000000))
        (Store1 w29 (Addr.mk b3 0 none) (.string (ByteArray.mk #[])) fun w31=>
        Store1 w31 (Addr.mk b5 0 none) (.int .i64 2) fun w32=>
        Kx24 .ret w32)
        (CallN Tryz.prog 18 #[(.pointer (some (Addr.mk b15 0 none))),(.string x21.1)] [.sc (.int .i64),.sc .raw] w29 (fun r33 w34=>
         CallT Tryz.prog 19 #[(.pointer (some (Addr.mk b15 0 none))),(.int .u8 10)] (.sc .raw) w34 (fun r36 w37=>
          Kc23 w37) (fun h38 w37=>False)) (fun h35 w34=>False))) (fun h30 w29=>False))
     (fun j25 d26 w27=>match j25 with
     | none=>
       CallT Tryz.prog 20 #[(.pointer (some (Addr.mk b15 0 none)))] (.sc .str) w27 (fun r39 w40=>
        Store1 w40 (Addr.mk b3 0 none) (.string r39) fun w43=>
        Store1 w43 (Addr.mk b5 0 none) (.int .i64 0) fun w44=>
        RetM (Fw.mark d26 :: []) w44 fun z45=>
        LoadT (.sc .str) z45 (Addr.mk b3 0 none) fun x46=>
        LoadT (.sc (.int .i64)) z45 (Addr.mk b5 0 none) fun x47=>
        R (.returned (.tuple #[(.string x46),(.int .i64 x47)])) z45) (fun h41 w40=>RetM (Fw.mark d26 :: []) w40 fun z42=>R (.panicked h41) z42)
     | some (.exit i)=>
      False
     | some .ret=>
       RetM (Fw.mark d26 :: []) w27 fun z48=>
       LoadT (.sc .str) z48 (Addr.mk b3 0 none) fun x49=>
       LoadT (.sc (.int .i64)) z48 (Addr.mk b5 0 none) fun x50=>
       R (.returned (.tuple #[(.string x49),(.int .i64 x50)])) z48
     | some _=>False)) (fun h20 w19=>R (.panicked h20) w19))) (fun h10 w9=>R (.panicked h10) w9)
theorem cert_Text.calls (p0_0:Int) (p0_1:Int) (p0_2:Sl) (p0_3:ByteArray) (p0_4:ByteArray) (p0_5:Int) (p0_6:Sl) (p0_7:ByteArray) (p0_8:Sl) (p0_9:Int) (p0_10:Int) (p0_11:Sl) (p0_12:Sl) (p0_13:Sl) (p0_14:Int) (p0_15:Sl) (p0_16:Int) (p0_17:Sl) (p0_18:Int) (p0_19:Sl) (p0_20:Int) (p0_21:Int) (p0_22:Sl) (p0_23:Sl) (p0_24:Sl) (p0_25:Sl) (p0_26:Sl) (p0_27:Sl) {R:Ending → World → Prop} {w:World} (h:cert_Text.sh p0_0 p0_1 p0_2 p0_3 p0_4 p0_5 p0_6 p0_7 p0_8 p0_9 p0_10 p0_11 p0_12 p0_13 p0_14 p0_15 p0_16 p0_17 p0_18 p0_19 p0_20 p0_21 p0_22 p0_23 p0_24 p0_25 p0_26 p0_27 R w):Calls Tryz.prog 6 #[(.agg #[(.int .i64 p0_0),(.int .i64 p0_1),(.slice p0_2.a p0_2.n p0_2.c),(.string p0_3),(.string p0_4),(.int .i64 p0_5),(.slice p0_6.a p0_6.n p0_6.c),(.string p0_7),(.slice p0_8.a p0_8.n p0_8.c),(.int .i64 p0_9),(.int .i64 p0_10),(.slice p0_11.a p0_11.n p0_11.c),(.slice p0_12.a p0_12.n p0_12.c),(.slice p0_13.a p0_13.n p0_13.c),(.int .i64 p0_14),(.slice p0_15.a p0_15.n p0_15.c),(.int .i64 p0_16),(.slice p0_17.a p0_17.n p0_17.c),(.int .i64 p0_18),(.slice p0_19.a p0_19.n p0_19.c),(.int .i64 p0_20),(.int .i64 p0_21),(.slice p0_22.a p0_22.n p0_22.c),(.slice p0_23.a p0_23.n p0_23.c),(.slice p0_24.a p0_24.n p0_24.c),(.slice p0_25.a p0_25.n p0_25.c),(.slice p0_26.a p0_26.n p0_26.c),(.slice p0_27.a p0_27.n p0_27.c)])] w R:=calls_of_wpc mixed Tryz.func6 (by kernel_rfl) (by kernel_rfl) ((show _ = wpc Tryz.prog cert_Text.ann cert_Text.body (fnKs Tryz.prog Tryz.f6 R) [] (env0 #[(.agg #[(.int .i64 p0_0),(.int .i64 p0_1),(.slice p0_2.a p0_2.n p0_2.c),(.string p0_3),(.string p0_4),(.int .i64 p0_5),(.slice p0_6.a p0_6.n p0_6.c),(.string p0_7),(.slice p0_8.a p0_8.n p0_8.c),(.int .i64 p0_9),(.int .i64 p0_10),(.slice p0_11.a p0_11.n p0_11.c),(.slice p0_12.a p0_12.n p0_12.c),(.slice p0_13.a p0_13.n p0_13.c),(.int .i64 p0_14),(.slice p0_15.a p0_15.n p0_15.c),(.int .i64 p0_16),(.slice p0_17.a p0_17.n p0_17.c),(.int .i64 p0_18),(.slice p0_19.a p0_19.n p0_19.c),(.int .i64 p0_20),(.int .i64 p0_21),(.slice p0_22.a p0_22.n p0_22.c),(.slice p0_23.a p0_23.n p0_23.c),(.slice p0_24.a p0_24.n p0_24.c),(.slice p0_25.a p0_25.n p0_25.c),(.slice p0_26.a p0_26.n p0_26.c),(.slice p0_27.a p0_27.n p0_27.c)])]) w by kernel_rfl).mp h)
end Go.Proofs.YtpifnlfmojfgpaaGreatDoor
end
