/- Parts of a proof, laid one behind the other by our own merge.py: PkText PkRdL PkRd PkRdM PkReadP SnWords Sh5 SnInv. -/
import Derived.Test.YtpifnlfmojfgpaaGreatDoorCr14
import Derived.Test.YtpifnlfmojfgpaaGreatDoorCr7
import Derived.Test.YtpifnlfmojfgpaaGreatDoorProg
import Derived.KernelRfl
set_option linter.unusedVariables false
set_option linter.unusedSimpArgs false
section
set_option maxRecDepth 10000
set_option maxHeartbeats 2000000
namespace Go.Proofs.YtpifnlfmojfgpaaGreatDoor.Pk
open Fw Pw Ct Rk
def textR (c:Clm):Str × Int × Unit:=if writable c then (if (textL (linesC c)).length ≤ 2000000 then (textL (linesC c),0,()) else ([],2,())) else ([],280,())
theorem lines16 (c:Clm) (x:ClmV) (w:World):Calls Tryz.prog 16 #[.agg (x.cs c)] w fun e w'=>∃ b,e = .returned (.func (.func 44) #[] #[ptr b]) ∧ b = w.heap.size ∧ w'.heap[b]? = some (.cells (x.cs c) 43 (0,0)) ∧ Chg Nil w w' ∧ w'.heap.size = b + 1:=by
 refine cert_lines.calls c.1 c.2.1.1 x.r x.u x.v c.2.2.2.2.1 x.d x.cj x.ring (cSep c).1 (cSep c).2.1 x.si x.sp x.im (cMap c).1.1 x.mr (cMap c).2.1 x.mi (cStr c).1.1 x.s.r (cStr c).2.1.1 (cStr c).2.1.2.1 x.s.acc x.s.nx x.s.mu x.s.df x.s.st x.s.en ?_
 unfold cert_lines.sh
 refine New.mk fun b W1 hb hn hs hc=>?_
 exact ⟨b,rfl,hb,hn,hc,hs⟩
theorem writable_call {W:World} (hg:GOk W) {c:Clm} (hl:Lim NN claimT c) {x:ClmV} (h:Rp (allP W) W claimT c (x.cs c).toList) {K:Bool → World → Prop} {Kp:List PanicEntry → World → Prop} (k:∀ W',Chg Nil W W' → K (writable c) W') :
  CallT Tryz.prog 15 #[.agg (x.cs c)] (.sc .bool) W K Kp:=by
 refine Calls.mono (pc_bool (ps:=[claimT]) (out:=[.any]) (pwritable_pc c hl) (fun a b hq=>hq) (vs:=[.agg (x.cs c)]) ⟨(x.cs c).toList,_,_,rfl,h,rfl,rfl⟩ hg) fun e W' he=>?_
 obtain ⟨rfl,hc,_⟩:=he
 exact ⟨_,rfl,k W' hc⟩
theorem nb_of {X:Array Value} {n:TypeId} {F:Nat × Nat} (h1:n ≠ 63) (h2:n ≠ 5):∀ cs t fr,Obj.cells X n F = .cells cs t fr → t ≠ 63 ∧ t ≠ 5:=fun cs t fr h=>by
 injection h with _ h3 _
 subst h3
 exact ⟨h1,h2⟩
def KS (n:Nat) (W:World) (k:Nat):Prop:=n ≤ k ∧ ∀ cs t fr,W.heap[k]? = some (Obj.cells cs t fr) → t = 4
theorem KS.of_dr {n:Nat} {W W':World} (h:DrB n W W'):Chg (KS n W) W W':=h.mono fun k _ hk=>by
 obtain ⟨h1,cs,fr,h2⟩:=hk
 refine ⟨h1,fun cs' t fr' h3=>?_⟩
 rw [h2] at h3; cases h3; rfl
theorem KS.of_turn {n:Nat} {W W':World} (h:Turn n W W'):Chg (KS n W) W W':=⟨h.os,h.tape,h.output,h.size,fun k hk hs=>by
 by_cases hn:k < n
 ·exact h.old k hn hk
 ·obtain ⟨o,ho⟩:∃ o,W.heap[k]? = some o:=⟨_,Array.getElem?_eq_getElem hk⟩
  rw [ho]
  refine h.keep k o ho fun r hr=>hs ⟨by omega,fun cs t fr hc=>?_⟩
  rw [ho,hr] at hc; cases hc⟩
theorem Bld.keep {n B b:Nat} {l:List UInt8} {W W':World} (hb:Bld B b l W) (hk:Chg (KS n W) W W'):Bld B b l W':=hb.drop hk fun k hs cs t fr h=>by
 have:=hs.2 _ _ _ h
 subst this
 exact ⟨by decide,by decide⟩
structure TxS (w:World) (b3 b5 q:Nat) (cs:Array Value) (e:Int) (W:World):Prop where
 ch:Chg Nil w W
 s:W.heap[b3]? = some (.cells #[.string ⟨#[]⟩] 9 (0,0))
 e:W.heap[b5]? = some (.cells #[.int .i64 e] 45 (0,0))
 q:W.heap[q]? = some (.cells cs 43 (0,0))
theorem TxS.keep {w:World} {b3 b5 q n:Nat} {cs:Array Value} {e:Int} {W W':World} (h:TxS w b3 b5 q cs e W) (hk:Chg (KS n W) W W') (hn:w.heap.size ≤ n):TxS w b3 b5 q cs e W':=
 ⟨h.ch.trans hk (fun _ _ h=>h) fun i hi hs=>by have:=hs.1; omega,hk.heap h.s fun hs=>absurd (hs.2 _ _ _ h.s) (by decide),hk.heap h.e fun hs=>absurd (hs.2 _ _ _ h.e) (by decide),hk.heap h.q fun hs=>absurd (hs.2 _ _ _ h.q) (by decide)⟩
theorem TxS.chgB {w:World} {b3 b5 q b:Nat} {cs:Array Value} {e:Int} {l:List UInt8} {W W':World} (h:TxS w b3 b5 q cs e W) (hb:Bld w.heap.size b l W) (hk:ChgB w.heap.size b W W'):TxS w b3 b5 q cs e W':=
 ⟨h.ch.trans hk (fun _ _ h=>h) fun i hi hs=>by
   have:=hb.1
   rcases hs with hs | hs
   ·omega
   ·have:=hs.1; omega,
  hk.kept hb h.s (nb_of (by decide) (by decide)),hk.kept hb h.e (nb_of (by decide) (by decide)),hk.kept hb h.q (nb_of (by decide) (by decide))⟩
theorem gok_chg {w W:World} (hg:GOk w) (h:Chg Nil w W):GOk W:=hg.keep h.size fun g hlt=>h.block g (by have:=hg.size; omega) fun h=>h
theorem TxS.cd {w:World} {b3 b5 q:Nat} {c:Clm} {x:ClmV} {e:Int} {W:World} (h:TxS w b3 b5 q (x.cs c) e W) {A:Pos} (hlow:∀ g o,A g o → g < w.heap.size) (hg:GOk w):CD A w q c x W:=
 ⟨fun g o ha=>World.cell?_of_block (h.ch.block g (hlow g o ha) fun h=>h),⟨fun g o ha=>Nat.lt_of_lt_of_le (hlow g o ha) h.ch.size,gok_chg hg h.ch⟩,⟨43,(0,0),h.q⟩⟩
theorem two_keep {b3 b5:Nat} {W W1 W2:World} {v3 v5 v5':Array Value} (h3:W.heap[b3]? = some (.cells v3 9 (0,0))) (h5:W.heap[b5]? = some (.cells v5 45 (0,0))) (c3:Chg (· = b3) W W1) (c5:Chg (· = b5) W1 W2):KeepL W W2 ∧ KeepO KpB W W2:=by
 have hc:Chg (fun k=>k = b3 ∨ k = b5) W W2:=c3.trans c5 (fun _ _ h=>.inl h) fun _ _ h=>.inr h
 refine ⟨fun k o hk ho=>hc.heap hk ?_,fun k o ho hk=>hc.heap hk ?_⟩
 ·rintro (rfl | rfl)
  ·rw [h3] at hk; cases hk; cases ho
  ·rw [h5] at hk; cases hk; cases ho
 ·obtain ⟨cs,t,fr,rfl,n1,n2,n3,n4⟩:=ho
  rintro (rfl | rfl)
  ·rw [h3] at hk; cases hk; exact n3 rfl
  ·rw [h5] at hk; cases hk; exact n4 rfl
theorem textL_take {L:Lns} {i:Nat} {l:List Str} (h:L[i]? = some l):textL (L.take (i + 1)) = textL (L.take i) ++ (lineS l ++ [10]):=by
 rw [List.take_add_one,h,textL_app]; simp [textL]
theorem textL_take_le (L:Lns) (i:Nat):(textL (L.take i)).length ≤ (textL L).length:=by
 have h:textL L = textL (L.take i) ++ textL (L.drop i):=by rw [← textL_app,List.take_append_drop]
 rw [h,List.length_append]; omega
theorem text_ok {A:Pos} {w:World} {c:Clm} {x:ClmV} (hr:Rp A w claimT c (x.cs c).toList) (hv:x.R A w c) (hlow:∀ g o,A g o → g < w.heap.size) (hg:GOk w) (hl:Lim NN claimT c) :
  Calls Tryz.prog 6 #[.agg (x.cs c)] w fun e w'=>∃ b:ByteArray,e = .returned (.tuple #[.string b,.int .i64 (textR c).2.1]) ∧ b.data.toList = (textR c).1 ∧ Chg Nil w w':=by
 refine cert_Text.calls c.1 c.2.1.1 x.r x.u x.v c.2.2.2.2.1 x.d x.cj x.ring (cSep c).1 (cSep c).2.1 x.si x.sp x.im (cMap c).1.1 x.mr (cMap c).2.1 x.mi (cStr c).1.1 x.s.r (cStr c).2.1.1 (cStr c).2.1.2.1 x.s.acc x.s.nx x.s.mu x.s.df x.s.st x.s.en ?_
 unfold cert_Text.sh
 refine New.mk fun b1 W1 hb1 hn1 hs1 hc1=>?_
 refine New.mk fun b3 W2 hb3 hn3 hs3 hc3=>?_
 refine New.mk fun b5 W3 hb5 hn5 hs5 hc5=>?_
 have hcN:Chg Nil w W3:=(hc1.then hc3).then hc5
 have h13:W3.heap[b1]? = some (.cells (x.cs c) 43 (0,0)):=hc5.heap (hc3.heap hn1 fun h=>h) fun h=>h
 have h33:W3.heap[b3]? = some (.cells #[.string ⟨#[]⟩] 9 (0,0)):=hc5.heap hn3 fun h=>h
 have h53:W3.heap[b5]? = some (.cells #[.int .i64 0] 45 (0,0)):=hn5
 have hne:b3 ≠ b5:=by omega
 have hw3:w.heap.size ≤ b3:=by have:=hc1.size; omega
 have hw5:w.heap.size ≤ b5:=by have:=hc1.size; omega
 clear hn1 hn3 hn5
 have fin:∀ (W:World) (s:ByteArray) (e:Int),Chg Nil w W → W.heap[b3]? = some (.cells #[.string s] 9 (0,0)) → W.heap[b5]? = some (.cells #[.int .i64 e] 45 (0,0)) → s.data.toList = (textR c).1 → e = (textR c).2.1 →
   LoadT (.sc .str) W (Addr.mk b3 0 none) fun x13=>LoadT (.sc (.int .i64)) W (Addr.mk b5 0 none) fun x14=>∃ b:ByteArray,(Ending.returned (.tuple #[(.string x13),(.int .i64 x14)])) = .returned (.tuple #[.string b,.int .i64 (textR c).2.1]) ∧ b.data.toList = (textR c).1 ∧ Chg Nil w W:=by
  intro W s e hc h3 h5 hs he
  refine LoadT.sc (s:=.str) (x:=s) (by rw [cellOf0 h3]; rfl) (LoadT.sc (s:=.int .i64) (x:=e) (by rw [cellOf0 h5]; rfl) ⟨s,by rw [he],hs,hc⟩)
 refine LoadT.mk (.agg [.int .i64,.int .i64,.sl,.str,.str,.int .i64,.sl,.str,.sl,.int .i64,.int .i64,.sl,.sl,.sl,.int .i64,.sl,.int .i64,.sl,.int .i64,.sl,.int .i64,.int .i64,.sl,.sl,.sl,.sl,.sl,.sl]) (x:=(c.1,c.2.1.1,x.r,x.u,x.v,c.2.2.2.2.1,x.d,x.cj,x.ring,(cSep c).1,(cSep c).2.1,x.si,x.sp,x.im,(cMap c).1.1,x.mr,(cMap c).2.1,x.mi,(cStr c).1.1,x.s.r,(cStr c).2.1.1,(cStr c).2.1.2.1,x.s.acc,x.s.nx,x.s.mu,x.s.df,x.s.st,x.s.en,())) (fun k u hu=>by rw [cellOf h13,← Array.getElem?_toList]; exact hu) ?_
 refine writable_call (gok_chg hg hcN) hl (rp_all (fun g o h=>Nat.lt_of_lt_of_le (hlow g o h) hcN.size) (hr.ext (Pw.Chg.all hcN fun g o h=>⟨hlow g o h,fun h=>h⟩))) fun W4 hc4=>?_
 have h14:=hc4.heap h13 fun h=>h
 have h34:=hc4.heap h33 fun h=>h
 have h54:=hc4.heap h53 fun h=>h
 have hcN4:=hcN.then hc4
 refine Br.mk (fun hb=>?_) (fun hb=>?_)
 ·have hb:writable c = false:=by simpa using hb
  refine Store1.at h34 0 (by show 0 < 1; decide) (cs':=#[.string ⟨#[]⟩]) rfl fun W5 h35 hc6 hs6=>?_
  have h55:=hc6.heap h54 fun h=>hne h.symm
  refine Store1.at h55 0 (by show 0 < 1; decide) (cs':=#[.int .i64 280]) rfl fun W6 h56 hc7 hs7=>?_
  have h36:=hc7.heap h35 fun h=>hne h
  have hT:textR c = ([],280,()):=by unfold textR; rw [hb]; rfl
  refine fin W6 _ _ ((hcN4.trans hc6 (fun _ _ h=>h) fun i hi h=>?_).trans hc7 (fun _ _ h=>h) fun i hi h=>?_) h36 h56 (by rw [hT]) (by rw [hT])
  ·have h:i = b3:=h
   omega
  ·have h:i = b5:=h
   omega
 have hw:writable c = true:=by simpa using hb
 refine New.mk fun b15 W5 hb15 hn15 hs15 hc6=>?_
 have h15:=hc6.heap h14 fun h=>h
 refine LoadT.mk (.agg [.int .i64,.int .i64,.sl,.str,.str,.int .i64,.sl,.str,.sl,.int .i64,.int .i64,.sl,.sl,.sl,.int .i64,.sl,.int .i64,.sl,.int .i64,.sl,.int .i64,.int .i64,.sl,.sl,.sl,.sl,.sl,.sl]) (x:=(c.1,c.2.1.1,x.r,x.u,x.v,c.2.2.2.2.1,x.d,x.cj,x.ring,(cSep c).1,(cSep c).2.1,x.si,x.sp,x.im,(cMap c).1.1,x.mr,(cMap c).2.1,x.mi,(cStr c).1.1,x.s.r,(cStr c).2.1.1,(cStr c).2.1.2.1,x.s.acc,x.s.nx,x.s.mu,x.s.df,x.s.st,x.s.en,())) (fun k u hu=>by rw [cellOf h15,← Array.getElem?_toList]; exact hu) ?_
 refine Calls.mono (lines16 c x W5) fun e W6 he=>?_
 obtain ⟨q,rfl,hqe,hq,hc7,hs7⟩:=he
 refine ⟨(⟨q,0,none⟩,()),rfl,?_⟩
 have hcN6:=(hcN4.then hc6).then hc7
 have h36:=hc7.heap (hc6.heap h34 fun h=>h) fun h=>h
 have h56:=hc7.heap (hc6.heap h54 fun h=>h) fun h=>h
 have h156:=hc7.heap hn15 fun h=>h
 have hB0:Bld w.heap.size b15 [] W6:=⟨by have:=hcN4.size; omega,none,⟨none,0,0⟩,h156,.inl rfl,OwnT.nil W6 5 _,fun i hi=>by
  obtain ⟨a,ha,_⟩:=hi
  cases ha⟩
 have hT0:TxS w b3 b5 q (x.cs c) 0 W6:=⟨hcN6,h36,h56,hq⟩
 have hlen:=text_len hl hw
 have hn6:w.heap.size ≤ W6.heap.size:=hcN6.size
 refine ⟨(linesC c).map fun l=>((⟨(lineS l).toArray⟩:ByteArray),()),CD A w q c x,DrB,KpB,fun _=>True,fun i W=>(textL ((linesC c).take i)).length ≤ 2000000 ∧ Bld w.heap.size b15 (textL ((linesC c).take i)) W ∧ TxS w b3 b5 q (x.cs c) 0 W,
  fun cd W=>cd = .ret ∧ 2000000 < (textL (linesC c)).length ∧ TxS w b3 b5 q (x.cs c) 2 W,lines_gives hv hl hw,fun _ _=>trivial,fun r h=>(by obtain ⟨_,_,_,h,_⟩:=h; cases h),fun W W' h=>h.keepL,
  fun i W W' h hd=>⟨h.1,h.2.1.keep (KS.of_dr hd),h.2.2.keep (KS.of_dr hd) (by omega)⟩,fun cd W W' h hd=>⟨h.1,h.2.1,h.2.2.keep (KS.of_dr hd) (by omega)⟩,
  fun i W h=>h.2.2.cd hlow hg,fun cd W h=>h.2.2.cd hlow hg,fun i W W' h ht=>⟨h.1,h.2.1.keep (KS.of_turn ht),h.2.2.keep (KS.of_turn ht) hn6⟩,fun cd W W' h ht=>⟨h.1,h.2.1,h.2.2.keep (KS.of_turn ht) hn6⟩,
  ⟨(by show 0 ≤ 2000000; decide),hB0,hT0⟩,?_,?_,?_⟩
 ·rintro i ⟨xb,_⟩ W hx ⟨hi,hB,hT⟩
  rw [List.getElem?_map,Option.map_eq_some_iff] at hx
  obtain ⟨l,hll,hxb⟩:=hx
  have hxb:xb = ⟨(lineS l).toArray⟩:=(Prod.mk.inj hxb).1.symm
  have hxd:xb.data.toList = lineS l:=by rw [hxb]
  have hxs:xb.size = (lineS l).length:=size_of hxd
  have htk:=textL_take hll
  have htl:=textL_take_le (linesC c) (i + 1)
  rw [htk,List.length_append,List.length_append,List.length_cons,List.length_nil] at htl
  obtain ⟨T,hTe⟩:∃ T,T = textL ((linesC c).take i):=⟨_,rfl⟩
  rw [← hTe] at hi hB htk htl
  refine Calls.mono (len_ok hB) fun e W1 he=>?_
  obtain ⟨rfl,hWW⟩:=he
  rw [hWW]
  refine ⟨(T.length:Int),rfl,?_⟩
  have hwr:IntKind.wrap .i64 (IntKind.wrap .i64 ((T.length:Int) + ((xb.size:Nat):Int)) + 1) = ((T.length + (lineS l).length + 1:Nat):Int):=by
   have h1:IntKind.wrap .i64 ((T.length:Int) + (((lineS l).length:Nat):Int)) = (T.length:Int) + (((lineS l).length:Nat):Int):=Fw.wrap64 (by omega) (by omega)
   rw [hxs,h1,Fw.wrap64 (by omega) (by omega)]; omega
  refine Br.mk (fun hgt=>?_) (fun hle=>?_)
  ·have hgt:((T.length + (lineS l).length + 1:Nat):Int) > 2000000:=by rw [← hwr]; exact of_decide_eq_true hgt
   refine Store1.at hT.s 0 (by show 0 < 1; decide) (cs':=#[.string ⟨#[]⟩]) rfl fun W2 h3 hc8 hs8=>?_
   have h5:=hc8.heap hT.e fun h=>hne h.symm
   refine Store1.at h5 0 (by show 0 < 1; decide) (cs':=#[.int .i64 2]) rfl fun W3 h5' hc9 hs9=>?_
   obtain ⟨k1,k2⟩:=two_keep (v5':=#[]) hT.s hT.e hc8 hc9
   refine ⟨k1,k2,rfl,by omega,⟨(hT.ch.trans hc8 (fun _ _ h=>h) fun i hi h=>?_).trans hc9 (fun _ _ h=>h) fun i hi h=>?_,hc9.heap h3 fun h=>hne h,h5',hc9.heap (hc8.heap hT.q fun h=>?_) fun h=>?_⟩⟩
   ·have h:i = b3:=h
    omega
   ·have h:i = b5:=h
    omega
   ·have h:q = b3:=h
    have:=hT.q
    rw [h,hT.s] at this
    injection this with this
    injection this with _ h2 _
    exact absurd h2 (by decide)
   ·have h:q = b5:=h
    have:=hT.q
    rw [h,hT.e] at this
    injection this with this
    injection this with _ h2 _
    exact absurd h2 (by decide)
  ·have hle:¬ ((T.length + (lineS l).length + 1:Nat):Int) > 2000000:=by rw [← hwr]; exact of_decide_eq_false hle
   refine Calls.mono (write_ok hB xb (by omega)) fun e W2 he=>?_
   obtain ⟨rfl,hB2,hk2⟩:=he
   refine ⟨((xb.size:Int),.nilIface,()),rfl,?_⟩
   refine Calls.mono (wbyte_ok hB2 (by rw [List.length_append,hxd]; omega)) fun e W3 he=>?_
   obtain ⟨rfl,hB3,hk3⟩:=he
   refine ⟨.nilIface,rfl,?_⟩
   have hk:=hk2.trans hk3
   refine ⟨hk.keepL hB,hk.keepO hB,?_,?_,hT.chgB hB hk⟩
   ·rw [htk,List.length_append,List.length_append,List.length_cons,List.length_nil]; omega
   ·rw [htk,← List.append_assoc,← hxd]; exact hB3
 ·rintro d W hd hdB ⟨hi,hB,hT⟩
  rw [List.length_map,List.take_length] at hi hB
  dsimp only
  have hR:textR c = (textL (linesC c),0,()):=by unfold textR; rw [hw,if_pos rfl,if_pos hi]
  refine Calls.mono (str_ok hB) fun e W1 he=>?_
  obtain ⟨rfl,hbel,hkp⟩:=he
  refine ⟨⟨(textL (linesC c)).toArray⟩,rfl,?_⟩
  have h3:=hkp b3 _ hT.s (nb_of (by decide) (by decide))
  have h5:=hkp b5 _ hT.e (nb_of (by decide) (by decide))
  have hd1:=hkp d _ hd (fun _ _ _ h=>by cases h)
  have hbc:Chg (fun k=>w.heap.size ≤ k) W W1:=⟨hbel.os,hbel.tape,hbel.output,hbel.size,fun k _ hn=>hbel.block k (by omega)⟩
  have hc8:Chg Nil w W1:=hT.ch.trans hbc (fun _ _ h=>h) fun i hi h=>by
   have h:w.heap.size ≤ i:=h
   omega
  refine Store1.at h3 0 (by show 0 < 1; decide) (cs':=#[.string ⟨(textL (linesC c)).toArray⟩]) rfl fun W2 h3' hc9 hs9=>?_
  have h5':=hc9.heap h5 fun h=>hne h.symm
  have hd2:=hc9.heap hd1 fun h=>by
   have h:d = b3:=h
   rw [h,h3] at hd1; cases hd1
  refine Store1.at h5' 0 (by show 0 < 1; decide) (cs':=#[.int .i64 0]) rfl fun W3 h5'' hc10 hs10=>?_
  have h3'':=hc10.heap h3' fun h=>hne h
  have hd3:=hc10.heap hd2 fun h=>by
   have h:d = b5:=h
   rw [h,h5'] at hd2; cases hd2
  refine retM_marks [d] W3 ⟨by simp,fun r hr=>by
   have hr:r = d:=by simpa using hr
   rw [hr]; exact hd3⟩ fun z hz=>?_
  refine fin z _ _ ((((hc8.trans hc9 (fun _ _ h=>h) fun i hi h=>?_).trans hc10 (fun _ _ h=>h) fun i hi h=>?_)).trans hz (fun _ _ h=>h) fun i hi h=>?_) (hz.heap h3'' fun h=>?_) (hz.heap h5'' fun h=>?_) (by rw [hR]) (by rw [hR])
  ·have h:i = b3:=h
   omega
  ·have h:i = b5:=h
   omega
  ·have h:i = d:=by simpa using h
   omega
  ·have h:b3 = d:=by simpa using h
   rw [← h,h3''] at hd3; cases hd3
  ·have h:b5 = d:=by simpa using h
   rw [← h,h5''] at hd3; cases hd3
 ·rintro cd d W hd hdB ⟨rfl,hgt,hT⟩
  dsimp only
  have hR:textR c = ([],2,()):=by unfold textR; rw [hw,if_pos rfl,if_neg (by omega)]
  refine retM_marks [d] W ⟨by simp,fun r hr=>by
   have hr:r = d:=by simpa using hr
   rw [hr]; exact hd⟩ fun z hz=>?_
  refine fin z _ _ (hT.ch.trans hz (fun _ _ h=>h) fun i hi h=>?_) (hz.heap hT.s fun h=>?_) (hz.heap hT.e fun h=>?_) (by rw [hR]) (by rw [hR])
  ·have h:i = d:=by simpa using h
   omega
  ·have h:b3 = d:=by simpa using h
   rw [← h,hT.s] at hd; cases hd
  ·have h:b5 = d:=by simpa using h
   rw [← h,hT.e] at hd; cases hd
theorem textR_len (c:Clm):(textR c).1.length ≤ 2000000:=by
 unfold textR
 split
 ·split
  ·assumption
  ·exact Nat.zero_le _
 ·exact Nat.zero_le _
def sg6:Sig:=⟨[.pv claimT],[.any],[.pv .str,.pv tI]⟩
theorem text_pc (c:Clm) (hl:Lim NN claimT c):PC Tryz.prog 6 sg6 (c,()) (fun y _=>y = textR c) (fun _=>False):=by
 refine pc_mk (ps:=[claimT]) (rs:=[.str,tI]) (x:=(c,())) (Q:=fun y _=>y = textR c) (by kernel_rfl) fun A w vs hp hlow hg=>?_
 obtain ⟨us,v,vs',rfl,hr,hv,hvs⟩:=hp
 have hvs:vs' = []:=hvs
 have hv:v = .agg us.toArray:=hv
 subst hvs
 obtain ⟨x,rfl,hx⟩:=clm_open hr
 subst hv
 refine (text_ok hr hx hlow hg hl).mono fun e w' he=>?_
 obtain ⟨b,rfl,hb,hc⟩:=he
 have hbl:=textR_len c
 obtain ⟨t,n,hT⟩:∃ t n,textR c = (t,n,()):=⟨_,_,rfl⟩
 rw [hT] at hb hbl ⊢
 refine ⟨A,(t,n,()),[.string b,.int .i64 n],rfl,rfl,⟨_,_,_,rfl,⟨b,rfl,hb,?_⟩,rfl,_,_,_,rfl,rfl,rfl,rfl⟩,hc,fun _ _ h=>h,fun g o h=>.inl h⟩
 have hbl:t.length ≤ 2000000:=hbl
 show t.length ≤ 4611686018427387904
 omega
end Go.Proofs.YtpifnlfmojfgpaaGreatDoor.Pk
end
section
set_option maxRecDepth 10000
set_option maxHeartbeats 400000
namespace Go.Proofs.YtpifnlfmojfgpaaGreatDoor.Pk
open Fw Pw Ct Rk
theorem lines_ne (c:Clm):linesC c ≠ []:=by unfold linesC frontL; simp
theorem IsText.cut {t t0:Str} {c:Clm} (h:IsText t c) (ht:t = t0 ++ [10]):claimS (cutL t0) = some c:=by
 obtain ⟨t',h1,h2⟩:=cut_text (clean_claim h.w) (lines_ne c)
 have h3:t' ++ [10] = t0 ++ [10]:=h1.symm.trans (h.t.trans ht)
 have h4:t' = t0:=List.append_cancel_right h3
 rw [← h4,h2]; exact h.read
theorem IsText.ends {t:Str} {c:Clm} (h:IsText t c):Go.Lib.hasSuffix t [10] = true:=by
 obtain ⟨t',h1,h2⟩:=cut_text (clean_claim h.w) (lines_ne c)
 rw [← h.t,h1]
 unfold Go.Lib.hasSuffix
 rw [List.isSuffixOf_iff_suffix]
 exact ⟨t',rfl⟩
theorem suffix_cut {t:Str} (h:Go.Lib.hasSuffix t [10] = true):t = t.take (t.length - 1) ++ [10] ∧ 0 < t.length:=by
 unfold Go.Lib.hasSuffix at h
 rw [List.isSuffixOf_iff_suffix] at h
 obtain ⟨p,hp⟩:=h
 subst hp
 have:(p ++ [10]).length - 1 = p.length:=by simp
 rw [this,List.take_left]
 exact ⟨rfl,by simp⟩
theorem claim_front {L:Lns} (h:frontS L = none):∀ c,claimS L ≠ some c:=fun c hc=>by unfold claimS at hc; rw [h] at hc; cases hc
theorem claim_some {L:Lns} {c:Clm} (h:claimS L = some c):∃ f m s,frontS L = some f ∧ middleS f.1.2.1 f.2 = some m ∧ lastS f.1.2.1 m.2 = some s ∧ s.2 = [[sDone]] ∧
  c = (f.1.1,f.1.2.1,f.1.2.2.1,f.1.2.2.2.1,f.1.2.2.2.2.1,f.1.2.2.2.2.2,m.1.1,m.1.2.1,m.1.2.2.1,m.1.2.2.2,s.1,()):=by
 unfold claimS at h
 simp only [Option.bind_eq_some_iff] at h
 obtain ⟨f,h1,m,h2,s,h3,h4⟩:=h
 split at h4
 ·rename_i hd
  exact ⟨f,m,s,h1,h2,h3,hd,(Option.some.inj h4).symm⟩
 ·cases h4
theorem claim_middle {L R:Lns} {k n:Int} {p:Pres} {u v:Str} {d:List Cell} (hf:∀ o,frontS L = some o → o = ((k,p,u,v,n,d),R)) (hm:middleS p R = none):∀ c,claimS L ≠ some c:=fun c hc=>by
 obtain ⟨f,m,s,h1,h2,h3,h4,_⟩:=claim_some hc
 have:=hf _ h1
 subst this
 rw [hm] at h2; cases h2
theorem claim_last {L R R2:Lns} {k n:Int} {p:Pres} {u v:Str} {d:List Cell} {y} (hf:∀ o,frontS L = some o → o = ((k,p,u,v,n,d),R)) (hm:∀ o,middleS p R = some o → o = (y,R2)) (hl:lastS p R2 = none):∀ c,claimS L ≠ some c:=fun c hc=>by
 obtain ⟨f,m,s,h1,h2,h3,h4,_⟩:=claim_some hc
 have:=hf _ h1
 subst this
 have:=hm _ h2
 subst this
 rw [hl] at h3; cases h3
theorem claim_end {L R R2 R3:Lns} {k n:Int} {p:Pres} {u v:Str} {d:List Cell} {a:annT.den} {s:sepT.den} {im:List Int} {mp:Map} {st:Strc} (hf:∀ o,frontS L = some o → o = ((k,p,u,v,n,d),R)) (hm:∀ o,middleS p R = some o → o = ((a,s,im,mp),R2))
  (hl:∀ o,lastS p R2 = some o → o = (st,R3)):∀ c,claimS L = some c → c = (k,p,u,v,n,d,a,s,im,mp,st,()) ∧ R3 = [[sDone]]:=fun c hc=>by
 obtain ⟨f,m,s',h1,h2,h3,h4,h5⟩:=claim_some hc
 have:=hf _ h1
 subst this
 have:=hm _ h2
 subst this
 have:=hl _ h3
 subst this
 exact ⟨h5,h4⟩
theorem last_no {p:Pres} {L:Lns} (h:(takeF sAccept L).2.1 = false):(takeF sAccept L).2.2 = L ∧ ∀ o,lastS p L = some o → o = (zeroStr,L):=by
 refine ⟨?_,fun o ho=>?_⟩
 ·cases L with
  | nil=>rfl
  | cons l R=>
   simp only [takeF] at h ⊢
   split at h
   ·cases h
   ·rename_i hn
    rw [if_neg hn]
 ·unfold lastS at ho
  rw [h] at ho
  simpa using ho.symm
theorem last_yes {p:Pres} {L R:Lns} {st:Strc} (h:(takeF sAccept L).2.1 = true) (hs:∀ o,structS p (takeF sAccept L).1 (takeF sAccept L).2.2 = some o → o = (st,R)):∀ o,lastS p L = some o → o = (st,R):=fun o ho=>by
 unfold lastS at ho
 rw [if_pos h] at ho
 exact hs o ho
theorem last_none {p:Pres} {L:Lns} (h:(takeF sAccept L).2.1 = true) (hs:structS p (takeF sAccept L).1 (takeF sAccept L).2.2 = none):lastS p L = none:=by
 unfold lastS
 rw [if_pos h]; exact hs
theorem done_take:takeF sDone [[sDone]] = ([],true,[]):=by simp [takeF]
theorem lim_cut {t:Str} (h:t.length ≤ 20000):LimL (cutL t):=by
 have hNN:NN = 20001:=rfl
 exact ⟨cut_full t,by have:=cut_len t; omega,fun l hl=>by have:=(cut_parts t l hl).1; omega,fun l hl p hp=>by have:=(cut_parts t l hl).2 p hp; omega⟩
theorem OwnT.kept {w w':World} {e:TypeId} {t:Ty} {s:Sl} {xs:List t.den} (h:OwnT w e t s xs) (hk:∀ (a:Addr) cur,s.a = some a → w.heap[a.block]? = some (.cells cur e (0,0)) → w'.heap[a.block]? = some (.cells cur e (0,0))):OwnT w' e t s xs:=by
 refine ⟨⟨h.row.1,?_⟩,h.len⟩
 rcases h.row.2 with hn | ⟨g,cap,cur,h1,h2,h3,h4⟩
 ·exact .inl hn
 ·refine .inr ⟨g,cap,cur,h1,h2,?_,h4⟩
  simp only [Value.slice.injEq] at h1
  exact hk ⟨g,0,none⟩ cur h1.1 h3
def strsOf (l:List Str):Array Value:=(l.map fun s=>Value.string ⟨s.toArray⟩).toArray
structure RdL (w:World) (b1 b3 b13 b11 n:Nat) (L:Lns) (i:Nat) (W:World):Prop where
 ch:Chg Nil w W
 hn:n ≤ W.heap.size
 h1:W.heap[b1]? = some (.cells zVals.toArray 43 (0,0))
 h3:W.heap[b3]? = some (.cells #[.bool false] 4 (0,0))
 h13:W.heap[b13]? = some (.cells #[.pointer (some ⟨b11,0,none⟩)] 135 (0,0))
 rows:∃ (s:Sl) (sls:List Sl),W.heap[b11]? = some (.cells (s.v :: zVals).toArray 140 (0,0)) ∧ OwnT W 22 (.sc .sl) s sls ∧ (∀ a,s.a = some a → n ≤ a.block) ∧ sls.length = i ∧
  ∀ (j:Nat) l,L[j]? = some l → j < i → ∃ g,sls[j]? = some ⟨some ⟨g,0,none⟩,l.length,l.length⟩ ∧ n ≤ g ∧ W.heap[g]? = some (.cells (strsOf l) 9 (0,0))
theorem RdL.keep {w:World} {b1 b3 b13 b11 n i:Nat} {L:Lns} {W W':World} (h:RdL w b1 b3 b13 b11 n L i W) (hc:Chg Nil w W') (hs:n ≤ W'.heap.size)
  (hk:∀ (k:Nat) (cs:Array Value) (t:TypeId),W.heap[k]? = some (.cells cs t (0,0)) → (k < n → t ≠ 9) → W'.heap[k]? = some (.cells cs t (0,0))):RdL w b1 b3 b13 b11 n L i W':=by
 obtain ⟨s,sls,r1,r2,r3,r4,r5⟩:=h.rows
 refine ⟨hc,hs,hk _ _ _ h.h1 fun _=>by decide,hk _ _ _ h.h3 fun _=>by decide,hk _ _ _ h.h13 fun _=>by decide,s,sls,hk _ _ _ r1 fun _=>by decide,OwnT.kept r2 fun a cur ha hh=>hk _ _ _ hh fun _=>by decide,r3,r4,fun j l hj hji=>?_⟩
 obtain ⟨g,g1,g2,g3⟩:=r5 j l hj hji
 exact ⟨g,g1,g2,hk _ _ _ g3 fun hlt=>by omega⟩
theorem RdL.turn {w:World} {b1 b3 b13 b11 n i:Nat} {L:Lns} {W W':World} (h:RdL w b1 b3 b13 b11 n L i W) (hw:w.heap.size ≤ n) (ht:Turn n W W'):RdL w b1 b3 b13 b11 n L i W':=
 h.keep (h.ch.trans (T:=fun k=>n ≤ k) ⟨ht.os,ht.tape,ht.output,ht.size,fun k hk hn=>ht.old k (by omega) hk⟩ (fun _ _ h=>h) fun i hi h=>by have h:n ≤ i:=h; omega) (Nat.le_trans h.hn ht.size) fun k cs t hh _=>ht.keep k _ hh fun r=>by simp
theorem RdL.dr {w:World} {b1 b3 b13 b11 n i bs m:Nat} {L:Lns} {W W':World} (h:RdL w b1 b3 b13 b11 n L i W) (hw:w.heap.size ≤ bs) (hb:bs < n) (ht:SpD bs m W W'):RdL w b1 b3 b13 b11 n L i W':=by
 obtain ⟨⟨cs,hcs⟩,hc,hsz⟩:=ht
 refine h.keep (h.ch.trans hc (fun _ _ h=>h) fun i hi h=>by have h:i = bs:=h; omega) (by rw [hsz]; exact h.hn) fun k cs' t hh hk=>?_
 exact hc.heap hh fun e=>by
  have e:k = bs:=e
  rw [e,hcs] at hh
  injection hh with hh
  injection hh with _ h2 _
  exact hk (by omega) h2.symm
theorem ok136:slOk Tryz.prog 136 22 1 24 = true:=by kernel_rfl
theorem rp_rows {w:World} {b1 b3 b13 b11 n:Nat} {L:Lns} {W:World} (h:RdL w b1 b3 b13 b11 n L L.length W) (hL:LimL L):∃ s:Sl,W.heap[b11]? = some (.cells (s.v :: zVals).toArray 140 (0,0)) ∧ Rp (nw n W) W tWs L [s.v]:=by
 obtain ⟨s,sls,r1,r2,r3,r4,r5⟩:=h.rows
 refine ⟨s,r1,s.a,s.n,s.c,rfl,?_,?_,?_,fun i l hl=>?_⟩
 ·rw [r2.len,r4]
 ·rcases r2.block with ⟨h1,h2⟩ | ⟨g,cur,h1,h2,h3,h4,h5,h6⟩
  ·rw [r2.len,h2]; exact Nat.zero_le _
  ·exact h3
 ·rcases r2.row.2 with ⟨h1,h2⟩ | ⟨g,cap,cur,h1,h2,h3,h4,h5,h6⟩
  ·simp only [Value.slice.injEq] at h1
   rw [h1.2.2]; exact Nat.zero_le _
  ·simp only [Value.slice.injEq] at h1
   rw [h1.2.2]; exact h5
 ·have hlt:i < L.length:=(List.getElem?_eq_some_iff.1 hl).1
  obtain ⟨g,g1,g2,g3⟩:=r5 i l hl hlt
  have hlm:l ∈ L:=List.mem_of_getElem? hl
  rcases r2.block with ⟨h1,h2⟩ | ⟨gr,cur,h1,h2,h3,h4,h5,h6⟩
  ·rw [h2] at g1; simp at g1
  refine ⟨gr,0,[Sl.v ⟨some ⟨g,0,none⟩,l.length,l.length⟩],h1,⟨some ⟨g,0,none⟩,l.length,l.length,rfl,rfl,Nat.le_refl _,?_,fun j x hx=>?_⟩,fun j v hv=>?_⟩
  ·have:=hL.parts l hlm
   have hNN:NN = 20001:=rfl
   unfold maxLen; omega
  ·refine ⟨g,0,[.string ⟨x.toArray⟩],rfl,⟨⟨x.toArray⟩,rfl,by simp,?_⟩,fun m v hv=>?_⟩
   ·have:=hL.part l hlm x (List.mem_of_getElem? hx)
    have hNN:NN = 20001:=rfl
    unfold big; omega
   ·cases m with
    | succ m=>simp at hv
    | zero=>
     simp only [List.getElem?_cons_zero,Option.some.injEq] at hv
     subst hv
     refine ⟨⟨g2,lt_of_heap g3⟩,?_⟩
     have hc:=cell_of_row W g (0 + j * 1 + 0) _ 9 (0,0) g3
     rw [show PT.sz .str = 1 from rfl,hc]
     simp [strsOf,hx]
  ·cases j with
   | succ j=>simp at hv
   | zero=>
    simp only [List.getElem?_cons_zero,Option.some.injEq] at hv
    subst hv
    refine ⟨⟨r3 _ h1,lt_of_heap h2⟩,?_⟩
    have hc:=r2.rd.cell1 (t:=.sl) h1 g1
    rw [mk_add] at hc
    exact hc
theorem bytes_strs (l:List ByteArray):(l.map Value.string).toArray = strsOf (l.map (·.data.toList)):=by
 unfold strsOf
 rw [List.map_map]
 congr 1
theorem round_ok {w:World} {b1 b3 b13 b11 n i:Nat} {L:Lns} {W:World} (hg:GOk w) (hL:LimL L) (h:RdL w b1 b3 b13 b11 n L i W) (hw:w.heap.size ≤ n) (hlt:b1 < n ∧ b3 < n ∧ b13 < n ∧ b11 < n) (h11:w.heap.size ≤ b11) (x:ByteArray) (hx:L[i]? = some (spl 32 x.data.toList)) (hxs:x.size ≤ 2000000)
  {K:World → Prop} (hK:∀ W',KeepL W W' → KeepO SpB W W' → RdL w b1 b3 b13 b11 n L (i + 1) W' → K W') :
  ∃ S28:World → Prop,S28 W.drew ∧
      (LoadS S28 (.sc .ptr) (Addr.mk b13 0 none) fun x29=>
      LoadS S28 (.sc .ptr) (Addr.mk b13 0 none) fun x30=>
      NilCk x30 fun a31=>
      LoadS S28 (.sc .sl) ((a31.add 0).add 0) fun x32=>
      CallT Tryz.prog 83 #[(.string x),(.string (ByteArray.mk #[32]))] (.sc .sl) W.drew (fun r33 w34=>
        ∃ S36:World → Prop,(∀ w,S36 w → S28 w) ∧ S36 w34 ∧
        (New w34 (.cells #[(.slice r33.a r33.n r33.c)] 22) fun b37 w38=>
         ∃ S39:World → Prop,(∀ w,S39 w → S36 w) ∧ S39 w38 ∧
         (RunT Tryz.prog (.sc .sl) (Builtin.append_ #[136,136] 136 #[(.slice x32.a x32.n x32.c),(.slice (some (Addr.mk b37 0 none)) 1 1)]) w38 fun r40 w41=>
          ∃ S42:World → Prop,(∀ w,S42 w → S39 w) ∧ S42 w41 ∧
          (NilCk x29 fun a43=>
          Store1 w41 ((a43.add 0).add 0) (.slice r40.a r40.n r40.c) fun w44=>
           K w44)))) (fun h35 w34=>False)):=by
 obtain ⟨s,sls,r1,r2,r3,r4,r5⟩:=h.rows
 have hd:Chg Nil W W.drew:=Chg.drew W
 have hNN:NN = 20001:=rfl
 refine ⟨fun w'=>w'.heap[b13]? = some (.cells #[.pointer (some ⟨b11,0,none⟩)] 135 (0,0)) ∧ w'.heap[b11]? = some (.cells (s.v :: zVals).toArray 140 (0,0)),⟨h.h13,r1⟩,?_⟩
 refine LoadS.sc (s:=.ptr) (x:=some ⟨b11,0,none⟩) (fun w' hw=>by rw [cellOf0 hw.1]; rfl) ?_
 refine LoadS.sc (s:=.ptr) (x:=some ⟨b11,0,none⟩) (fun w' hw=>by rw [cellOf0 hw.1]; rfl) ?_
 refine ⟨_,rfl,?_⟩
 refine LoadS.sc (s:=.sl) (x:=s) (fun w' hw=>by rw [add0,add0,cellOf0 hw.2]; rfl) ?_
 refine Calls.mono (split_ok x 32 (gok_chg hg (h.ch.then hd)) hxs) fun e W1 he=>?_
 obtain ⟨l,hl,rfl,rfl⟩:=he
 refine ⟨_,rfl,?_⟩
 have hc1:Chg Nil W (W.drew.alloc (.cells (l.map Value.string).toArray 9)):=hd.then (Chg.alloc _ _)
 refine ⟨fun w'=>w'.heap[b13]? = some (.cells #[.pointer (some ⟨b11,0,none⟩)] 135 (0,0)) ∧ w'.heap[b11]? = some (.cells (s.v :: zVals).toArray 140 (0,0)),fun _ h=>h,⟨hc1.heap h.h13 fun h=>h,hc1.heap r1 fun h=>h⟩,?_⟩
 have hparts:(W.drew.alloc (.cells (l.map Value.string).toArray 9)).heap[W.drew.heap.size]? = some (.cells (strsOf (spl 32 x.data.toList)) 9 (0,0)):=by
  rw [← hl,← bytes_strs]; exact heap_alloc_new _ _
 obtain ⟨W1,hW1⟩:∃ W1,W1 = W.drew.alloc (.cells (l.map Value.string).toArray 9):=⟨_,rfl⟩
 rw [← hW1] at hc1 hparts ⊢
 have hsz1:W1.heap.size = W.heap.size + 1:=by rw [hW1]; simp
 have hgs:W.drew.heap.size = W.heap.size:=rfl
 rw [hgs] at hparts ⊢
 have hll:l.length = (spl 32 x.data.toList).length:=by rw [← hl,List.length_map]
 refine New.mk fun b37 W2 hb37 hn37 hs37 hc2=>?_
 have hc02:=hc1.then hc2
 refine ⟨fun w'=>w'.heap[b13]? = some (.cells #[.pointer (some ⟨b11,0,none⟩)] 135 (0,0)) ∧ w'.heap[b11]? = some (.cells (s.v :: zVals).toArray 140 (0,0)),fun _ h=>h,⟨hc02.heap h.h13 fun h=>h,hc02.heap r1 fun h=>h⟩,?_⟩
 have hi:i < L.length:=(List.getElem?_eq_some_iff.1 hx).1
 have hil:i ≤ 20001:=by have:=hL.len; omega
 refine OwnT.append (t:=.sc .sl) (m:=1) ok136 rfl (by decide) (r2.chg hc02 fun _ _ h=>h) [⟨some ⟨W.heap.size,0,none⟩,l.length,l.length⟩] rfl (by decide) (fun j v hv=>by rw [cellOf hn37]; simpa [Ty.cells] using hv) (by rw [r4]; omega) (by rw [r4]; unfold maxLen; omega) fun s' W3 ho hc3 hown=>?_
 have b11n:¬ s.own b11:=fun ⟨a,ha,hb⟩=>by have:=r3 a ha; omega
 have own_ge:∀ k,s.own k → n ≤ k:=fun k ⟨a,ha,hb⟩=>by have:=r3 a ha; omega
 refine ⟨fun w'=>w'.heap[b13]? = some (.cells #[.pointer (some ⟨b11,0,none⟩)] 135 (0,0)) ∧ w'.heap[b11]? = some (.cells (s.v :: zVals).toArray 140 (0,0)),fun _ h=>h,⟨hc3.heap (hc02.heap h.h13 fun h=>h) fun hh=>by have:=own_ge _ hh; omega,hc3.heap (hc02.heap r1 fun h=>h) b11n⟩,?_⟩
 have k11:=hc3.heap (hc02.heap r1 fun h=>h) b11n
 refine ⟨_,rfl,?_⟩
 dsimp only
 rw [add0,add0]
 refine Store1.at (b:=b11) k11 0 (by simp) (cs':=(s'.v :: zVals).toArray) rfl fun W4 q11 hc4 hs4=>?_
 have c24:Chg (fun k=>s.own k ∨ k = b11) W W4:=(hc02.trans hc3 (fun _ _ h=>h.elim) fun _ _ h=>.inl h).trans hc4 (fun _ _ h=>h) fun _ _ h=>.inr h
 have old:∀ (k:Nat) (o:Obj),W.heap[k]? = some o → (∀ cs,o ≠ .cells cs 22 (0,0)) → (∀ cs,o ≠ .cells cs 140 (0,0)) → W4.heap[k]? = some o:=fun k o hk h22 h140=>c24.heap hk fun hh=>by
  rcases hh with hh | hh
  ·obtain ⟨cur,hcur⟩:=r2.elem hh
   rw [hk] at hcur
   exact h22 cur (Option.some.inj hcur)
  ·rw [hh,r1] at hk
   exact h140 _ (Option.some.inj hk).symm
 refine hK W4 (fun k o hk ho=>old k o hk (fun cs e=>by rw [e] at ho; cases ho) (fun cs e=>by rw [e] at ho; cases ho)) (fun k o ho hk=>old k o hk ?_ ?_) ⟨?_,?_,old _ _ h.h1 (fun cs e=>by injection e with _ e _; exact absurd e (by decide)) (fun cs e=>by injection e with _ e _; exact absurd e (by decide)),old _ _ h.h3 (fun cs e=>by injection e with _ e _; exact absurd e (by decide)) (fun cs e=>by injection e with _ e _; exact absurd e (by decide)),
  old _ _ h.h13 (fun cs e=>by injection e with _ e _; exact absurd e (by decide)) (fun cs e=>by injection e with _ e _; exact absurd e (by decide)),s',_,q11,OwnT.chg ho hc4 fun a ha hh=>?_,fun a ha=>?_,?_,fun j ll hj hji=>?_⟩
 ·intro cs e
  obtain ⟨cs',t,fr,e',ht⟩:=ho
  rw [e'] at e
  injection e with _ e _
  rcases ht with ht | ht <;> (rw [ht] at e; exact absurd e (by decide))
 ·intro cs e
  obtain ⟨cs',t,fr,e',ht⟩:=ho
  rw [e'] at e
  injection e with _ e _
  rcases ht with ht | ht <;> (rw [ht] at e; exact absurd e (by decide))
 ·refine h.ch.trans c24 (fun _ _ h=>h) fun i hi hh=>?_
  rcases hh with hh | hh
  ·have:=own_ge _ hh; omega
  ·omega
 ·exact Nat.le_trans h.hn c24.size
 ·have hh:a.block = b11:=hh
  rcases hown _ ⟨a,ha,rfl⟩ with hh' | hh'
  ·have:=own_ge _ hh'; omega
  ·have:=h.hn; have:=hs37; omega
 ·rcases hown _ ⟨a,ha,rfl⟩ with hh' | hh'
  ·exact own_ge _ hh'
  ·have:=h.hn; have:=hs37; omega
 ·rw [List.length_append,r4]; rfl
 ·by_cases hji':j < i
  ·obtain ⟨g,g1,g2,g3⟩:=r5 j ll hj hji'
   refine ⟨g,?_,g2,old _ _ g3 (fun cs e=>by injection e with _ e _; exact absurd e (by decide)) (fun cs e=>by injection e with _ e _; exact absurd e (by decide))⟩
   rw [List.getElem?_append_left (by rw [r4]; exact hji')]; exact g1
  ·have hj':j = i:=by omega
   subst hj'
   rw [hx] at hj
   have hj:=(Option.some.inj hj).symm
   subst hj
   refine ⟨W.heap.size,?_,h.hn,?_⟩
   ·rw [List.getElem?_append_right (by omega),r4,Nat.sub_self,← hll]; rfl
   ·have p2:=hc2.heap hparts fun h=>h
    have p3:=hc3.heap p2 fun hh=>by
     obtain ⟨a,ha,hb⟩:=hh
     have:=r2.lt a ha
     omega
    exact hc4.heap p3 fun e=>by have e:W.heap.size = b11:=e; have:=h.hn; omega
end Go.Proofs.YtpifnlfmojfgpaaGreatDoor.Pk
end
section
set_option maxRecDepth 10000
set_option maxHeartbeats 1000000
namespace Go.Proofs.YtpifnlfmojfgpaaGreatDoor.Pk
open Fw Pw Ct Rk
structure Pst (w:World) (b1 b3 b13 b11 n d:Nat) (W:World):Prop where
 ch:Chg Nil w W
 hn:n ≤ W.heap.size
 e1:b1 = w.heap.size
 e3:b3 = w.heap.size + 1
 h1:∃ cs,W.heap[b1]? = some (.cells cs 43 (0,0)) ∧ cs.size = 28
 h3:∃ k,W.heap[b3]? = some (.cells #[.bool k] 4 (0,0))
 h13:W.heap[b13]? = some (.cells #[.pointer (some ⟨b11,0,none⟩)] 135 (0,0))
 hd:W.heap[d]? = some (.deferred (some []))
 g:GOk W
structure Ids (w:World) (b1 b3 b13 b11 n d:Nat):Prop where
 n1:b1 ≠ b11
 n3:b3 ≠ b11
 n13:b13 ≠ b11
 nd:d ≠ b11
 low:w.heap.size ≤ b11
 lt:b11 < n
 dn:w.heap.size ≤ d
 wn:w.heap.size ≤ n
 ng:ngl ≤ w.heap.size
theorem Pst.keep {w:World} {b1 b3 b13 b11 n d k:Nat} {W W':World} (h:Pst w b1 b3 b13 b11 n d W) (i:Ids w b1 b3 b13 b11 n d) (hk:KeepX b11 k W W') (hg:GOk W'):Pst w b1 b3 b13 b11 n d W':=by
 have hc:=hk.chg
 obtain ⟨cs,h1,hcs⟩:=h.h1
 obtain ⟨kk,h3⟩:=h.h3
 exact ⟨h.ch.trans hc (fun _ _ h=>h) fun j hj e=>by have e:j = b11:=e; have:=i.low; omega,Nat.le_trans h.hn hc.size,h.e1,h.e3,⟨cs,hc.heap h1 i.n1,hcs⟩,⟨kk,hc.heap h3 i.n3⟩,hc.heap h.h13 i.n13,hc.heap h.hd i.nd,hg⟩
theorem Pst.rde {w:World} {b1 b3 b13 b11 n d:Nat} {W:World} (h:Pst w b1 b3 b13 b11 n d W):RdE w b1 b3 W:=⟨h.ch,h.e1,h.e3,h.h1,h.h3⟩
theorem tr_cons {A:Pos} {w:World} {h t:AT} {x:h.den × t.den} {us us':List Value} (hl:us.length = h.sz) (h1:TR Tryz.prog A w h x.1 us .no) (h2:TR Tryz.prog A w t x.2 us' .no):TR Tryz.prog A w (.cons h t) x (us ++ us') .no:=
 ⟨us,us',.no,.no,rfl,hl,h1,h2,Ow.dis_no,.refl _,.refl _⟩
theorem tr_ls {A:Pos} {w:World} {e:TypeId} {t:PT}:TR Tryz.prog A w (.ls e t) [] [.slice none 0 0] .no:=⟨⟨none,0,0⟩,rfl,rp_nil,.inl rfl,fun a h=>by cases h⟩
abbrev frontP:PT:=.cons tWs (.cons tI (.cons presT (.cons .str (.cons .str (.cons tI (.cons tCs .nil))))))
theorem big_open {A:Pos} {W:World} {k n:Int} {p:Pres} {u v:Str} {d:List Cell} {a:annT.den} {s:sepT.den} {im:List Int} {m:Map} {us:List Value} (h:Rp A W bigT (k,p,u,v,n,d,a,s,im,m,()) us) {st:Strc} {ss:List Value} (hs:Rp A W strT st ss) :
  Rp A W claimT (k,p,u,v,n,d,a,s,im,m,st,()) (us ++ ss):=by
 obtain ⟨u1,r1,rfl,h1,u2,r2,rfl,h2,u3,r3,rfl,h3,u4,r4,rfl,h4,u5,r5,rfl,h5,u6,r6,rfl,h6,u7,r7,rfl,h7,u8,r8,rfl,h8,u9,r9,rfl,h9,u10,r10,rfl,h10,h11⟩:=h
 have h11:r10 = []:=h11
 subst h11
 have e:(u1 ++ (u2 ++ (u3 ++ (u4 ++ (u5 ++ (u6 ++ (u7 ++ (u8 ++ (u9 ++ (u10 ++ [])))))))))) ++ ss = u1 ++ (u2 ++ (u3 ++ (u4 ++ (u5 ++ (u6 ++ (u7 ++ (u8 ++ (u9 ++ (u10 ++ (ss ++ [])))))))))):=by simp [List.append_assoc]
 rw [e]
 exact ⟨u1,_,rfl,h1,u2,_,rfl,h2,u3,_,rfl,h3,u4,_,rfl,h4,u5,_,rfl,h5,u6,_,rfl,h6,u7,_,rfl,h7,u8,_,rfl,h8,u9,_,rfl,h9,u10,_,rfl,h10,ss,[],rfl,hs,rfl⟩
def zMid:List Value:=[.string ⟨#[]⟩,.slice none 0 0,.int .i64 0,.int .i64 0,.slice none 0 0,.slice none 0 0,.slice none 0 0,.int .i64 0,.slice none 0 0,.int .i64 0,.slice none 0 0]
def zStr:List Value:=[.int .i64 0,.slice none 0 0,.int .i64 0,.int .i64 0,.slice none 0 0,.slice none 0 0,.slice none 0 0,.slice none 0 0,.slice none 0 0,.slice none 0 0]
theorem zvals_eq (v:Value):v :: zVals = [v,.int .i64 0,.int .i64 0,.slice none 0 0,.string ⟨#[]⟩,.string ⟨#[]⟩,.int .i64 0,.slice none 0 0] ++ (zMid ++ zStr):=rfl
theorem front_in {A:Pos} {W:World} {L:Lns} {v:Value} (h:Rp A W tWs L [v]):TR Tryz.prog A W frontT (L,0,0,[],[],[],0,[],()) [v,.int .i64 0,.int .i64 0,.slice none 0 0,.string ⟨#[]⟩,.string ⟨#[]⟩,.int .i64 0,.slice none 0 0] .no:=
 tr_cons (us:=[v]) rfl h (tr_cons (us:=[_]) rfl rfl (tr_cons (us:=[_]) rfl rfl (tr_cons (us:=[_]) rfl tr_ls (tr_cons (us:=[_]) rfl ⟨_,rfl,rfl,Nat.zero_le _⟩ (tr_cons (us:=[_]) rfl ⟨_,rfl,rfl,Nat.zero_le _⟩ (tr_cons (us:=[_]) rfl rfl (tr_cons (us:=[_]) rfl rp_nil rfl)))))))
theorem front_out {A A':Pos} {W:World} {R:Lns} {k n:Int} {p:Pres} {u v:Str} {d:List Cell} {us:List Value} {ω:Ow} (h:TR Tryz.prog A' W frontO (R,k,p,u,v,n,d,()) us ω) (hA:∀ g o,A' g o → A g o):Rp A W frontP (R,k,p,u,v,n,d,()) us:=by
 obtain ⟨u1,r1,_,_,rfl,_,h1,⟨u2,r2,_,_,rfl,_,h2,⟨u3,r3,_,_,rfl,_,h3,⟨u4,r4,_,_,rfl,_,h4,⟨u5,r5,_,_,rfl,_,h5,⟨u6,r6,_,_,rfl,_,h6,⟨u7,r7,_,_,rfl,_,h7,h8,_⟩,_⟩,_⟩,_⟩,_⟩,_⟩,_⟩:=h
 refine Rp.ext (A:=A') (w:=W) (fun g o hg=>⟨hA g o hg,rfl⟩) ?_
 exact ⟨u1,_,rfl,h1,u2,_,rfl,h2,u3,_,rfl,h3,u4,_,rfl,h4,u5,_,rfl,h5,u6,_,rfl,h6,u7,_,rfl,h7,h8⟩
theorem mid_in {A:Pos} {W:World} {R:Lns} {k n:Int} {p:Pres} {u v:Str} {d:List Cell} {us:List Value} (h:Rp A W frontP (R,k,p,u,v,n,d,()) us) :
  TR Tryz.prog A W middleT (R,k,p,u,v,n,d,([],[],()),(0,0,[],[],()),[],((0,[],()),0,[],()),()) (us ++ zMid) .no:=by
 obtain ⟨u1,r1,rfl,h1,u2,r2,rfl,h2,u3,r3,rfl,h3,u4,r4,rfl,h4,u5,r5,rfl,h5,u6,r6,rfl,h6,u7,r7,rfl,h7,h8⟩:=h
 have h8:r7 = []:=h8
 subst h8
 simp only [List.append_assoc,List.nil_append]
 refine tr_cons h1.len h1 (tr_cons h2.len h2 (tr_cons h3.len h3 (tr_cons h4.len h4 (tr_cons h5.len h5 (tr_cons h6.len h6 (tr_cons h7.len h7 ?_))))))
 refine tr_cons (us:=[_,_]) rfl ⟨[_],_,rfl,⟨_,rfl,rfl,Nat.zero_le _⟩,[_],_,rfl,rp_nil,rfl⟩ (tr_cons (us:=[_,_,_,_]) rfl ⟨[_],_,rfl,rfl,[_],_,rfl,rfl,[_],_,rfl,rp_nil,[_],_,rfl,rp_nil,rfl⟩ (tr_cons (us:=[_]) rfl rp_nil (tr_cons (us:=[_,_,_,_]) rfl (rp_zmap _ _) rfl)))
theorem mid_out {A A':Pos} {W:World} {R:Lns} {k n:Int} {p:Pres} {u v:Str} {d:List Cell} {a:annT.den} {s:sepT.den} {im:List Int} {m:Map} {us:List Value} {ω:Ow} (h:TR Tryz.prog A' W middleT (R,k,p,u,v,n,d,a,s,im,m,()) us ω) (hA:∀ g o,A' g o → A g o) :
  ∃ u0 ub,us = u0 ++ ub ∧ Rp A W tWs R u0 ∧ Rp A W bigT (k,p,u,v,n,d,a,s,im,m,()) ub:=by
 obtain ⟨u1,r1,_,_,rfl,_,h1,⟨u2,r2,_,_,rfl,_,h2,⟨u3,r3,_,_,rfl,_,h3,⟨u4,r4,_,_,rfl,_,h4,⟨u5,r5,_,_,rfl,_,h5,⟨u6,r6,_,_,rfl,_,h6,⟨u7,r7,_,_,rfl,_,h7,⟨u8,r8,_,_,rfl,_,h8,⟨u9,r9,_,_,rfl,_,h9,⟨u10,r10,_,_,rfl,_,h10,⟨u11,r11,_,_,rfl,_,h11,h12,_⟩,_⟩,_⟩,_⟩,_⟩,_⟩,_⟩,_⟩,_⟩,_⟩,_⟩:=h
 refine ⟨u1,_,rfl,Rp.ext (A:=A') (w:=W) (fun g o hg=>⟨hA g o hg,rfl⟩) h1,Rp.ext (A:=A') (w:=W) (fun g o hg=>⟨hA g o hg,rfl⟩) ?_⟩
 exact ⟨u2,_,rfl,h2,u3,_,rfl,h3,u4,_,rfl,h4,u5,_,rfl,h5,u6,_,rfl,h6,u7,_,rfl,h7,u8,_,rfl,h8,u9,_,rfl,h9,u10,_,rfl,h10,u11,_,rfl,h11,h12⟩
theorem str_in {A:Pos} {W:World} {R:Lns} {b:bigT.den} {u0 ub:List Value} (h:Rp A W tWs R u0) (hb:Rp A W bigT b ub):TR Tryz.prog A W structT (R,b,(0,[],()),(0,0,[],[],()),[],[],[],[],()) (u0 ++ (ub ++ zStr)) .no:=by
 refine tr_cons h.len h (tr_cons hb.len hb ?_)
 exact tr_cons (us:=[_,_]) rfl ⟨[_],_,rfl,rfl,[_],_,rfl,rp_nil,rfl⟩ (tr_cons (us:=[_,_,_,_]) rfl ⟨[_],_,rfl,rfl,[_],_,rfl,rfl,[_],_,rfl,rp_nil,[_],_,rfl,rp_nil,rfl⟩ (tr_cons (us:=[_]) rfl tr_ls (tr_cons (us:=[_]) rfl tr_ls (tr_cons (us:=[_]) rfl tr_ls (tr_cons (us:=[_]) rfl tr_ls rfl)))))
theorem str_out {A A':Pos} {W:World} {R:Lns} {b:bigT.den} {st:Strc} {us:List Value} {ω:Ow} (h:TR Tryz.prog A' W structO (R,b,st,()) us ω) (hA:∀ g o,A' g o → A g o) :
  ∃ u0 ub ss,us = u0 ++ (ub ++ ss) ∧ Rp A W tWs R u0 ∧ Rp A W bigT b ub ∧ Rp A W strT st ss:=by
 obtain ⟨u1,r1,_,_,rfl,_,h1,⟨u2,r2,_,_,rfl,_,h2,⟨u3,r3,_,_,rfl,_,h3,h4,_⟩,_⟩,_⟩:=h
 have h4:r3 = []:=h4
 subst h4
 exact ⟨u1,u2,u3,by simp,Rp.ext (A:=A') (w:=W) (fun g o hg=>⟨hA g o hg,rfl⟩) h1,Rp.ext (A:=A') (w:=W) (fun g o hg=>⟨hA g o hg,rfl⟩) h2,Rp.ext (A:=A') (w:=W) (fun g o hg=>⟨hA g o hg,rfl⟩) h3⟩
theorem take_ok {w:World} {b1 b3 b13 b11 n d:Nat} (i:Ids w b1 b3 b13 b11 n d) {W:World} (h:Pst w b1 b3 b13 b11 n d W) (hn:ngl ≤ b11) {L:Lns} (hL:LimL L) (h0:Str) (hh:h0 ≠ []) (b0:ByteArray) (hb:b0.data.toList = h0) (hbl:h0.length ≤ 20) {u0 rest:List Value} (hr:Rp (nw n W) W tWs L u0) (hbx:Box b11 W (u0 ++ rest))
  {K:Sl × Bool × Unit → World → Prop} {Kp:List PanicEntry → World → Prop}
  (k:∀ W' s u0',Pst w b1 b3 b13 b11 n d W' → KeepX b11 1 W W' → Rp (nw n W') W' tW (takeF h0 L).1 [Sl.v s] → Rp (nw n W') W' tWs (takeF h0 L).2.2 u0' → Box b11 W' (u0' ++ rest) → K (s,(takeF h0 L).2.1,()) W') :
  CallN Tryz.prog 86 #[.pointer (some ⟨b11,0,none⟩),.string b0] [.sc .sl,.sc .bool] W K Kp:=by
 have hl0:u0.length = 1:=hr.len
 refine Calls.mono (box_call (T:=lnsA) (T':=lnsA) (ps:=[.str]) (rs:=[tW,.bool]) (x:=L) (y:=(h0,())) (take_pc h0 L hL.full hh) (fun q h=>h.elim) (us:=u0) (vs:=[.string b0]) hr hl0 hbx.left hn i.lt h.hn
  ⟨[.string b0],_,_,rfl,⟨b0,rfl,hb,by show h0.length ≤ 4611686018427387904; omega⟩,rfl,rfl⟩ h.g rfl) fun e W' he=>?_
 obtain ⟨hk,hg,he⟩:=he
 cases e with
 | panicked ch=>obtain ⟨_,q,hq⟩:=he; exact hq.elim
 | outgrown=>exact he.elim
 | returned v=>
  obtain ⟨A',⟨y1,y2,yu⟩,⟨z1,z2⟩,ra,us',ω',hA,⟨q1,q2⟩,rfl,hpv,htr,hul,hbx'⟩:=he
  have q2:z1 = (takeF h0 L).2.2:=q2
  subst q2
  have q1:(y1,y2,yu) = ((takeF h0 L).1,(takeF h0 L).2.1,()):=q1
  injection q1 with q1 q3
  injection q3 with q3 _
  subst q1; subst q3
  obtain ⟨us1,v1,vs1,rfl,p1,p2,us2,v2,vs2,rfl,p3,p4,p5⟩:=hpv
  have p2:us1 = [v1]:=p2
  have p4:us2 = [v2]:=p4
  have p5:vs2 = []:=p5
  have p3:us2 = [.bool (takeF h0 L).2.1]:=p3
  subst p2; subst p5
  rw [p4] at p3
  have p3:v2 = .bool (takeF h0 L).2.1:=by simpa using p3
  subst p3
  obtain ⟨s,hs,p1⟩:=rp_list p1
  have hs:v1 = s.v:=by simpa using hs
  subst hs
  refine ⟨(s,(takeF h0 L).2.1,()),rfl,k W' s us' (h.keep i hk hg) hk (Rp.ext (fun g o hg=>⟨hA g o hg,rfl⟩) p1) (Rp.ext (fun g o hg=>⟨hA g o hg,rfl⟩) htr) (hbx.app (by rw [hl0]; exact hk) hbx' (hul.trans hl0.symm))⟩
end Go.Proofs.YtpifnlfmojfgpaaGreatDoor.Pk
end
section
set_option maxRecDepth 10000
set_option maxHeartbeats 2000000
namespace Go.Proofs.YtpifnlfmojfgpaaGreatDoor.Pk
open Fw Pw Ct Rk
theorem after_chg {W W':World} {A':Pos} {ω':Ow} (h:After (allP W) W .no A' W' ω'):Chg Nil W W':=
 ⟨h.fr.os,h.fr.tape,h.fr.output,h.fr.size,fun k hk _=>h.fr.block k hk fun o hop=>by
  rcases hop with (hop | hop) | ⟨hop | hop,_⟩
  ·omega
  ·exact hop
  ·omega
  ·exact hop⟩
theorem must_ok (t:Bool) {W:World} (hg:GOk W) {K:World → Prop} {Kp:List PanicEntry → World → Prop} (k:t = true → ∀ W',Chg Nil W W' → K W') (kp:t = false → ∀ W',Chg Nil W W' → Kp pan1 W'):CallN Tryz.prog 80 #[.bool t] [] W (fun _ w2=>K w2) Kp:=
 must_calls t (A:=allP W) (fun g o h=>h) hg (fun ht A' W' ha=>k ht W' (after_chg ha)) fun ht A' u W' hu ha=>by
  obtain ⟨vs',r1,r2⟩:=hu
  have r1:vs' = []:=r1
  have r2:u = .agg vs'.toArray:=r2
  subst r1; subst r2
  exact kp ht W' (after_chg ha)
theorem Pst.nil {w:World} {b1 b3 b13 b11 n d:Nat} {W W':World} (h:Pst w b1 b3 b13 b11 n d W) (hc:Chg Nil W W'):Pst w b1 b3 b13 b11 n d W':=by
 obtain ⟨cs,h1,hcs⟩:=h.h1
 obtain ⟨kk,h3⟩:=h.h3
 exact ⟨h.ch.then hc,Nat.le_trans h.hn hc.size,h.e1,h.e3,⟨cs,hc.heap h1 fun h=>h,hcs⟩,⟨kk,hc.heap h3 fun h=>h⟩,hc.heap h.h13 fun h=>h,hc.heap h.hd fun h=>h,gok_chg h.g hc⟩
theorem Box.nil {b:Nat} {W W':World} {vs:List Value} (h:Box b W vs) (hc:Chg Nil W W') (hb:b < W.heap.size):Box b W' vs:=fun j v hj=>by
 obtain ⟨h1,h2⟩:=h j v hj
 have hk:=hc.block b hb fun h=>h
 exact ⟨(World.cell?_of_block hk).trans h1,by rw [← h2]; simp only [World.frozen?,hk]⟩
theorem nw_nil {n:Nat} {W W':World} (h:Chg Nil W W'):∀ g o,nw n W g o → nw n W' g o ∧ W'.cell? ⟨g,o,none⟩ = W.cell? ⟨g,o,none⟩:=
 fun g o hg=>⟨⟨hg.1,Nat.lt_of_lt_of_le hg.2 h.size⟩,World.cell?_of_block (h.block g hg.2 fun h=>h)⟩
structure J53 (w:World) (b1 b3 b13 b11 n d:Nat) (L:Lns) (c:Clm) (R:Lns) (W:World):Prop where
 p:Pst w b1 b3 b13 b11 n d W
 mem:∃ u0 us,Rp (nw n W) W tWs R u0 ∧ Rp (nw n W) W claimT c us ∧ Box b11 W (u0 ++ us)
 lim:LimL R
 lc:Lim NN claimT c
 is:∀ c',claimS L = some c' → c' = c ∧ R = [[sDone]]
theorem Pst.store3 {w:World} {b1 b3 b13 b11 n d:Nat} {W:World} (h:Pst w b1 b3 b13 b11 n d W) (i:Ids w b1 b3 b13 b11 n d) (hne:b13 ≠ b3) (v:Bool) {K:World → Prop}
  (k:∀ W',Pst w b1 b3 b13 b11 n d W' → Chg (· = b3) W W' → W'.heap[b3]? = some (.cells #[.bool v] 4 (0,0)) → K W'):Store1 W (Addr.mk b3 0 none) (.bool v) K:=by
 obtain ⟨cs,h1,hcs⟩:=h.h1
 obtain ⟨kk,h3⟩:=h.h3
 have e1:=h.e1
 have e3:=h.e3
 refine Store1.at h3 0 (by show 0 < 1; decide) (cs':=#[.bool v]) rfl fun W' q3 hc hs=>k W' ⟨h.ch.trans hc (fun _ _ h=>h) fun j hj e=>by have e:j = b3:=e; omega,Nat.le_trans h.hn hc.size,e1,e3,⟨cs,hc.heap h1 fun e=>by have e:b1 = b3:=e; omega,hcs⟩,⟨v,q3⟩,hc.heap h.h13 fun e=>hne e,hc.heap h.hd fun e=>?_,?_⟩ hc q3
 ·have e:d = b3:=e
  have hd:=h.hd
  rw [e,h3] at hd; cases hd
 ·refine h.g.keep hc.size fun g hlt=>hc.block g (Nat.lt_of_lt_of_le hlt h.g.size) ?_
  intro e
  have e:g = b3:=e
  have:=i.ng
  omega
theorem Box.blk {b:Nat} {W W':World} {vs:List Value} (h:Box b W vs) (hk:W'.heap[b]? = W.heap[b]?):Box b W' vs:=fun j v hj=>by
 obtain ⟨h1,h2⟩:=h j v hj
 exact ⟨(World.cell?_of_block hk).trans h1,by rw [← h2]; simp only [World.frozen?,hk]⟩
structure J72 (w:World) (b1 b3 b13 b11 n d:Nat) (c:Clm) (W:World):Prop where
 p:Pst w b1 b3 b13 b11 n d W
 mem:∃ v us,Rp (nw n W) W claimT c us ∧ Box b11 W (v :: us)
theorem J72.nil {w:World} {b1 b3 b13 b11 n d:Nat} {c:Clm} {W W':World} (h:J72 w b1 b3 b13 b11 n d c W) (hc:Chg Nil W W') (hlt:b11 < n):J72 w b1 b3 b13 b11 n d c W':=by
 obtain ⟨v,us,h1,h2⟩:=h.mem
 have:=h.p.hn
 exact ⟨h.p.nil hc,v,us,h1.ext (nw_nil hc),h2.nil hc (by omega)⟩
theorem lim0:Lim NN tI 0:=⟨by decide,by decide⟩
theorem read_ok (t:ByteArray) (ht:t.size ≤ 20000) {w:World} (hg:GOk w):Calls Tryz.prog 38 #[.string t] w (ReadR w t.data.toList):=by
 have hts:=size_of (b:=t) rfl
 refine read_calls ?_
 unfold cert_read.sh
 refine New.mk fun b1 W1 hb1 hn1 hs1 hc1=>?_
 refine New.mk fun b3 W2 hb3 hn3 hs3 hc3=>?_
 have hc2:=hc1.then hc3
 have hn12:=hc3.heap hn1 fun h=>h
 have e3:b3 = w.heap.size + 1:=by omega
 rw [← hb1,show b1 + 1 = b3 by omega]
 refine Calls.mono (Tryz.strings_HasSuffix t ⟨#[10]⟩ W2 (by omega)) fun e W3 he=>?_
 obtain ⟨rfl,rfl⟩:=he
 refine ⟨_,rfl,?_⟩
 refine must_ok _ (gok_chg hg hc2) (fun hsuf W4 hc4=>?_) (fun hsuf W4 hc4=>?_)
 rotate_left
 ·refine .inl ⟨rfl,RdE.pan (t:=t.data.toList) ⟨hc2.then hc4,hb1,e3,⟨_,hc4.heap hn12 fun h=>h,rfl⟩,⟨_,hc4.heap hn3 fun h=>h⟩⟩ fun c' hi=>?_⟩
  have:=Pk.IsText.ends hi
  have hsuf:Go.Lib.hasSuffix t.data.toList [10] = false:=hsuf
  rw [hsuf] at this; cases this
 have hsuf:Go.Lib.hasSuffix t.data.toList [10] = true:=hsuf
 obtain ⟨hcut,hpos⟩:=suffix_cut hsuf
 have hn14:=hc4.heap hn12 fun h=>h
 have hn34:=hc4.heap hn3 fun h=>h
 refine New.mk fun b11 W5 hb11 hn11 hs11 hc5=>?_
 refine New.mk fun b13 W6 hb13 hn13 hs13 hc6=>?_
 refine Store1.at hn13 0 (by show 0 < 1; decide) (cs':=#[.pointer (some ⟨b11,0,none⟩)]) rfl fun W7 h137 hc7 hs7=>?_
 have hcw6:=((hc2.then hc4).then hc5).then hc6
 have hcw7:Chg Nil w W7:=hcw6.trans hc7 (fun _ _ h=>h) fun j hj e=>by
  have e:j = b13:=e
  have:=hc2.size; have:=hc4.size; have:=hc5.size
  omega
 have s2:=hc2.size
 have s4:=hc4.size
 have k1:=hc7.heap (hc6.heap (hc5.heap hn14 fun h=>h) fun h=>h) fun e=>by have e:b1 = b13:=e; omega
 have k3:=hc7.heap (hc6.heap (hc5.heap hn34 fun h=>h) fun h=>h) fun e=>by have e:b3 = b13:=e; omega
 have k11:=hc7.heap (hc6.heap hn11 fun h=>h) fun e=>by have e:b11 = b13:=e; omega
 have hw1:IntKind.wrap .i64 (((t.size:Nat):Int) - 1) = ((t.size - 1:Nat):Int):=by rw [Fw.wrap64 (by omega) (by omega)]; omega
 rw [hw1]
 refine ⟨_,_,run_str_to t (t.size - 1) (by omega) W7,?_⟩
 obtain ⟨t0,ht0⟩:∃ t0,t0 = t.extract 0 (t.size - 1):=⟨_,rfl⟩
 rw [← ht0]
 have ht0d:t0.data.toList = t.data.toList.take (t.data.toList.length - 1):=by rw [ht0,extract_take,← hts]
 have hcut':t.data.toList = t0.data.toList ++ [10]:=by rw [ht0d]; exact hcut
 have hts0:=size_of (b:=t0) rfl
 have ht0s:t0.size ≤ 20000:=by rw [hts0,ht0d,List.length_take]; omega
 obtain ⟨L,hL⟩:∃ L,L = cutL t0.data.toList:=⟨_,rfl⟩
 have hLim:LimL L:=by rw [hL]; exact lim_cut (by omega)
 have hno:(∀ c,claimS L ≠ some c) → ∀ c',¬ IsText t.data.toList c':=fun h c' hi=>h c' (by rw [hL]; exact Pk.IsText.cut hi hcut')
 refine Calls.mono (seq_ok t0 ⟨#[10]⟩ W7) fun e W8 he=>?_
 obtain ⟨bs,bp,bv,rfl,hbs,hbp,hbv,hc8,hs8,gp,gs,gv⟩:=he
 refine ⟨(⟨bp,0,none⟩,⟨bs,0,none⟩,⟨bv,0,none⟩,()),rfl,?_⟩
 obtain ⟨n,hn⟩:∃ n,n = W8.heap.size:=⟨_,rfl⟩
 have h70:RdL w b1 b3 b13 b11 n L 0 W8:=⟨hcw7.then hc8,by omega,hc8.heap k1 fun h=>h,hc8.heap k3 fun h=>h,hc8.heap h137 fun h=>h,⟨none,0,0⟩,[],hc8.heap k11 fun h=>h,OwnT.nil W8 22 _,fun a ha=>(by cases ha),rfl,fun j l _ hji=>absurd hji (Nat.not_lt_zero j)⟩
 have hwn:w.heap.size ≤ n:=by have:=hcw7.size; have:=hc8.size; omega
 have hlt:b1 < n ∧ b3 < n ∧ b13 < n ∧ b11 < n:=by
  have:=hc4.size; have:=hc8.size
  refine ⟨?_,?_,?_,?_⟩ <;> omega
 have h11w:w.heap.size ≤ b11:=by omega
 have hbsw:w.heap.size ≤ bs:=by have:=hcw7.size; omega
 have hbsn:bs < n:=by omega
 refine ⟨(spl 10 t0.data.toList).map strV,fun _=>True,SpD bs,SpB,_,fun i W=>RdL w b1 b3 b13 b11 n L i W,fun _ _=>False,splitseq_gives (by omega) (by omega) 10 t0 (by omega),?_,fun r h=>(by obtain ⟨_,_,_,h,_⟩:=h; cases h),?_,fun i W W' h hd=>h.dr hbsw hbsn hd,fun cd W W' h hd=>h.elim,
  fun i W h=>trivial,fun cd W h=>trivial,fun i W W' h ht=>h.turn hwn (by rw [hn]; exact ht),fun cd W W' h ht=>h.elim,h70,?_,?_,fun cd d W hd hdB h=>h.elim⟩
 ·intro W' hT
  exact ⟨hT.keep _ _ gp fun r=>by simp,hT.keep _ _ gs fun r=>by simp,hT.keep _ _ gv fun r=>by simp⟩
 ·intro W W' hd k o hk ho
  obtain ⟨⟨cs,hcs⟩,hc,_⟩:=hd
  refine hc.heap hk fun e=>?_
  have e:k = bs:=e
  rw [e,hcs] at hk
  cases hk; cases ho
 ·rintro i ⟨xb,_⟩ W hx hI
  rw [List.getElem?_map,Option.map_eq_some_iff] at hx
  obtain ⟨l,hll,hxb⟩:=hx
  have hxb:xb = ⟨l.toArray⟩:=(Prod.mk.inj hxb).1.symm
  have hxd:xb.data.toList = l:=by rw [hxb]
  have hLi:L[i]? = some (spl 32 xb.data.toList):=by rw [hL,hxd]; unfold cutL; rw [List.getElem?_map,hll]; rfl
  have hxl:xb.size ≤ 2000000:=by
   have:=spl_part 10 t0.data.toList l (List.mem_of_getElem? hll)
   have:=size_of hxd
   omega
  exact round_ok hg hLim hI hwn hlt h11w xb hLi hxl fun W' k1 k2 k3=>⟨k1,k2,k3⟩
 ·intro d W hd hdB hI
  have hxl:((spl 10 t0.data.toList).map strV).length = L.length:=by rw [hL]; unfold cutL; rw [List.length_map,List.length_map]
  rw [hxl] at hI
  obtain ⟨s,r11,rs⟩:=rp_rows hI hLim
  dsimp only
  have ids:Ids w b1 b3 b13 b11 n d:=⟨by omega,by omega,by omega,by omega,h11w,hlt.2.2.2,by omega,hwn,hg.size⟩
  have hp:Pst w b1 b3 b13 b11 n d W:=⟨hI.ch,hI.hn,hb1,e3,⟨_,hI.h1,rfl⟩,⟨_,hI.h3⟩,hI.h13,hd,gok_chg hg hI.ch⟩
  have ng11:ngl ≤ b11:=Nat.le_trans hg.size h11w
  have ne13:b13 ≠ b3:=by omega
  rw [zvals_eq] at r11
  have hbx0:=Box.of r11
  have pan:∀ W',Pst w b1 b3 b13 b11 n d W' → (∀ c,claimS L ≠ some c) → endM (ReadR w t.data.toList) b1 b3 (Fw.mark d :: ({ target:=.fn (.func 79) #[(.pointer (some (Addr.mk b1 0 none))),(.pointer (some (Addr.mk b3 0 none)))],args:=#[] }:Deferred) :: []) (.panicking pan1) W':=fun W' hp' hc=>endM_pan hp'.rde hp'.hd ids.dn (hno hc)
  clear hI r11 hdB hd
  -- front
  refine LoadT.sc (s:=.ptr) (x:=some ⟨b11,0,none⟩) (by rw [cellOf0 hp.h13]; rfl) ?_
  refine Calls.mono (box_call (T:=frontT) (T':=frontO) (ps:=[]) (rs:=[]) (x:=(L,0,0,[],[],[],0,[],())) (y:=()) (front_pc number_pc L hLim) (fun q h=>h.2) (vs:=[]) (front_in rs) rfl hbx0.left ng11 ids.lt hp.hn rfl hp.g rfl) fun e W1 he=>?_
  obtain ⟨hk1,hg1,he⟩:=he
  have hp1:=hp.keep ids hk1 hg1
  cases e with
  | outgrown=>exact he.elim
  | panicked ch=>obtain ⟨rfl,q,hq,_⟩:=he; exact pan W1 hp1 (claim_front hq)
  | returned v1=>
  obtain ⟨A1,ya1,⟨z1,zz1⟩,ra1,us1,ω1,hA1,⟨R,k,p,u,v,nn,dd,hz,hF⟩,rfl,hpv1,htr1,hul1,hbx1⟩:=he
  have hz:z1 = (R,k,p,u,v,nn,dd,()):=hz
  subst hz
  have hpv1:ra1 = []:=hpv1
  subst hpv1
  refine ⟨(),rfl,?_⟩
  have rp1:=front_out htr1 hA1
  have hb1':=hbx0.app hk1 hbx1 hul1
  have hL1:LimL R:=hLim.sfx hF.sfx
  clear htr1 hbx1 hbx0 rs
  -- middle
  refine LoadT.sc (s:=.ptr) (x:=some ⟨b11,0,none⟩) (by rw [cellOf0 hp1.h13]; rfl) ?_
  rw [← List.append_assoc] at hb1'
  have hlen1:(us1 ++ zMid).length = AT.sz middleT:=by rw [List.length_append,hul1]; rfl
  refine Calls.mono (box_call (T:=middleT) (T':=middleT) (ps:=[]) (rs:=[]) (y:=()) (middle_pc number_pc k p u v nn dd hF.lp R hL1) (fun q h=>h.2) (vs:=[]) (mid_in rp1) hlen1 hb1'.left ng11 ids.lt hp1.hn rfl hp1.g rfl) fun e W2 he=>?_
  obtain ⟨hk2,hg2,he⟩:=he
  have hp2:=hp1.keep ids hk2 hg2
  cases e with
  | outgrown=>exact he.elim
  | panicked ch=>obtain ⟨rfl,q,hq,_⟩:=he; exact pan W2 hp2 (claim_middle hF.is hq)
  | returned v2=>
  obtain ⟨A2,ya2,⟨z2,zz2⟩,ra2,us2,ω2,hA2,⟨R2,a,sp,im,m,hz,hM⟩,rfl,hpv2,htr2,hul2,hbx2⟩:=he
  have hz:z2 = (R2,k,p,u,v,nn,dd,a,sp,im,m,()):=hz
  subst hz
  have hpv2:ra2 = []:=hpv2
  subst hpv2
  refine ⟨(),rfl,?_⟩
  have hb2:=hb1'.app (by rw [hlen1]; exact hk2) hbx2 (hul2.trans hlen1.symm)
  obtain ⟨u0,ub,rfl,q0,qb⟩:=mid_out htr2 hA2
  have hL2:LimL R2:=hL1.sfx hM.sfx
  rw [List.append_assoc] at hb2
  clear htr2 hbx2 hb1' rp1
  have hbig:Lim NN bigT (k,p,u,v,nn,dd,a,sp,im,m,()):=⟨hF.lk,hF.lp,hF.lu,hF.lv,hF.ln,hF.ld,hM.la,hM.ls,hM.li,hM.lm,trivial⟩
  have hlc:∀ st,Lim NN strT st → Lim NN claimT (k,p,u,v,nn,dd,a,sp,im,m,st,()):=fun st hst=>⟨hF.lk,hF.lp,hF.lu,hF.lv,hF.ln,hF.ld,hM.la,hM.ls,hM.li,hM.lm,hst,trivial⟩
  refine Join.by' (fun y W'=>y = ((Addr.mk b1 0 none),(Addr.mk b3 0 none),(Addr.mk b13 0 none),()) ∧ ∃ st R3,J53 w b1 b3 b13 b11 n d L (k,p,u,v,nn,dd,a,sp,im,m,st,()) R3 W') (fun y W3 g hy=>?_) (fun J hJ=>?_)
  rotate_left
  ·refine LoadT.sc (s:=.ptr) (x:=some ⟨b11,0,none⟩) (by rw [cellOf0 hp2.h13]; rfl) ?_
   refine ⟨_,rfl,?_⟩
   dsimp only
   rw [add0]
   refine take_ok ids hp2 ng11 hL2 sAccept (by decide) _ rfl (by decide) q0 hb2 fun W3 s3 u3 hp3 hk3 hps3 hq3 hb3=>?_
   have qb3:=qb.ext (nw_ext hk3.chg ids.lt)
   have hpl:=take_parts (h:=sAccept) hL2
   have hsf:=take_sfx sAccept R2
   have hL3:LimL (takeF sAccept R2).2.2:=hL2.sfx hsf
   refine Br.mk (fun hbb=>?_) (fun hbb=>?_)
   ·have hbb:(takeF sAccept R2).2.1 = true:=hbb
    refine LoadT.sc (s:=.ptr) (x:=some ⟨b11,0,none⟩) (by rw [cellOf0 hp3.h13]; rfl) ?_
    have hlen3:(u3 ++ (ub ++ zStr)).length = AT.sz structT:=by rw [List.length_append,List.length_append,hq3.len,qb3.len]; rfl
    refine Calls.mono (box_call (T:=structT) (T':=structO) (ps:=[tW]) (rs:=[]) (y:=((takeF sAccept R2).1,())) (struct_pc number_pc (k,p,u,v,nn,dd,a,sp,im,m,()) hF.lp (takeF sAccept R2).1 hpl.1 hpl.2 (takeF sAccept R2).2.2 hL3 (0,[],()) (0,0,[],[],())) (fun q h=>h.2) (vs:=[Sl.v s3])
     (str_in hq3 qb3) hlen3 hb3 ng11 ids.lt hp3.hn ⟨[_],_,_,rfl,hps3,rfl,rfl⟩ hp3.g rfl) fun e W4 he=>?_
    obtain ⟨hk4,hg4,he⟩:=he
    have hp4:=hp3.keep ids hk4 hg4
    cases e with
    | outgrown=>exact he.elim
    | panicked ch=>obtain ⟨rfl,q,hq,_⟩:=he; exact pan W4 hp4 (claim_last hF.is hM.is (last_none hbb hq))
    | returned v4=>
    obtain ⟨A4,ya4,⟨z4,zz4⟩,ra4,us4,ω4,hA4,⟨R3,st,hz,hS⟩,rfl,hpv4,htr4,hul4,hbx4⟩:=he
    have hz:z4 = (R3,(k,p,u,v,nn,dd,a,sp,im,m,()),st,()):=hz
    subst hz
    have hpv4:ra4 = []:=hpv4
    subst hpv4
    refine ⟨(),rfl,?_⟩
    obtain ⟨u4,ub4,ss4,rfl,q4,qb4,qs4⟩:=str_out htr4 hA4
    exact hJ _ _ ⟨rfl,st,R3,hp4,⟨u4,ub4 ++ ss4,q4,big_open qb4 qs4,hbx4⟩,hL3.sfx hS.sfx,hlc st hS.ok,claim_end hF.is hM.is (last_yes hbb hS.is)⟩
   ·have hbb:(takeF sAccept R2).2.1 = false:=hbb
    obtain ⟨h1,h2⟩:=last_no (p:=p) hbb
    rw [h1] at hq3
    exact hJ _ _ ⟨rfl,zeroStr,R2,hp3,⟨u3,ub ++ zStr,hq3,big_open qb3 (rp_zstr _ _),hb3⟩,hL2,hlc zeroStr ⟨⟨lim0,⟨Nat.zero_le _,fun x hx=>by cases hx⟩,trivial⟩,⟨lim0,lim0,⟨Nat.zero_le _,fun x hx=>by cases hx⟩,⟨Nat.zero_le _,fun x hx=>by cases hx⟩,trivial⟩,⟨Nat.zero_le _,fun x hx=>by cases hx⟩,⟨Nat.zero_le _,fun x hx=>by cases hx⟩,⟨Nat.zero_le _,fun x hx=>by cases hx⟩,⟨Nat.zero_le _,fun x hx=>by cases hx⟩,trivial⟩,claim_end hF.is hM.is h2⟩
  obtain ⟨rfl,st,R3,hj⟩:=hy
  dsimp only
  obtain ⟨c,hc⟩:∃ c:Clm,c = (k,p,u,v,nn,dd,a,sp,im,m,st,()):=⟨_,rfl⟩
  rw [← hc] at hj
  clear hc hb2 q0 qb hbig hlc hp1 hp2 hk1 hk2
  obtain ⟨u0',us,q0,qc,hb3⟩:=hj.mem
  have hp3:=hj.p
  refine LoadT.sc (s:=.ptr) (x:=some ⟨b11,0,none⟩) (by rw [cellOf0 hp3.h13]; rfl) ?_
  refine ⟨_,rfl,?_⟩
  dsimp only
  rw [add0]
  refine take_ok ids hp3 ng11 hj.lim sDone (by decide) _ rfl (by decide) q0 hb3 fun W4 s4 u4 hp4 hk4 hps4 hq4 hb4=>?_
  have qc4:=qc.ext (nw_ext hk4.chg ids.lt)
  obtain ⟨sq,rfl,hq4'⟩:=rp_list hq4
  refine hp4.store3 ids ne13 _ fun W5 hp5 hc5 q35=>?_
  have qc5:=qc4.ext (nw_ext hc5 hlt.2.1)
  have hb5:Box b11 W5 ([sq.v] ++ us):=hb4.blk (hc5.block b11 (by have:=hp4.hn; have:=hlt.2.2.2; omega) fun e=>by have e:b11 = b3:=e; omega)
  have hj5:J72 w b1 b3 b13 b11 n d c W5:=⟨hp5,_,us,qc5,hb5⟩
  have len4:(s4.n:Nat) = (takeF sDone R3).1.length:=by
   obtain ⟨_,_,_,h,h2,_⟩:=hps4
   have h:[Value.slice s4.a s4.n s4.c] = _:=h
   injection h with h _
   injection h with _ h _
   rw [h]; exact h2
  have lenq:(sq.n:Nat) = (takeF sDone R3).2.2.length:=by
   obtain ⟨_,_,_,h,h2,_⟩:=hq4'
   have h:[Value.slice sq.a sq.n sq.c] = _:=h
   injection h with h _
   injection h with _ h _
   rw [h]; exact h2
  have bad:((takeF sDone R3).2.1 = true → (takeF sDone R3).1 = [] → (takeF sDone R3).2.2 ≠ []) → ∀ c',claimS L ≠ some c':=fun h c' hc'=>by
   have:=(hj.is c' hc').2
   rw [this,done_take] at h
   exact h rfl rfl rfl
  refine Join.by' (fun y W'=>y = ((Addr.mk b1 0 none),(Addr.mk b3 0 none),(Addr.mk b13 0 none),()) ∧ J72 w b1 b3 b13 b11 n d c W') (fun y W6 g hy=>?_) (fun J hJ=>?_)
  rotate_left
  ·refine LoadT.sc (s:=.bool) (x:=(takeF sDone R3).2.1) (by rw [cellOf0 q35]; rfl) ?_
   refine Br.mk (fun hok=>?_) (fun hok=>?_)
   ·have hok:(takeF sDone R3).2.1 = true:=hok
    refine Br.mk (fun hl=>?_) (fun hl=>?_)
    ·have hl:(((s4.n:Nat):Int) == 0) = true:=hl
     refine LoadT.sc (s:=.ptr) (x:=some ⟨b11,0,none⟩) (by rw [cellOf0 hp5.h13]; rfl) ?_
     refine ⟨_,rfl,?_⟩
     dsimp only
     rw [add0,add0]
     refine LoadT.sc (s:=.sl) (x:=sq) (hb5 0 _ rfl).1 ?_
     refine must_ok _ hp5.g (fun _ W6 hc6=>hJ _ _ ⟨rfl,hj5.nil hc6 ids.lt⟩) (fun hm W6 hc6=>pan W6 (hp5.nil hc6) (bad fun _ _ he=>?_))
     have hm:(((sq.n:Nat):Int) == 0) = false:=hm
     rw [lenq,he] at hm
     cases hm
    ·have hl:(((s4.n:Nat):Int) == 0) = false:=hl
     refine must_ok _ hp5.g (fun h=>by cases h) (fun hm W6 hc6=>pan W6 (hp5.nil hc6) (bad fun _ he=>?_))
     rw [len4,he] at hl
     cases hl
   ·have hok:(takeF sDone R3).2.1 = false:=hok
    exact must_ok _ hp5.g (fun h=>by cases h) (fun hm W6 hc6=>pan W6 (hp5.nil hc6) (bad fun h=>by rw [hok] at h; cases h))
  obtain ⟨rfl,hj6⟩:=hy
  dsimp only
  have hp6:=hj6.p
  obtain ⟨vq,us6,q6,hb6⟩:=hj6.mem
  obtain ⟨x,rfl,hx⟩:=clm_open q6
  refine LoadT.sc (s:=.ptr) (x:=some ⟨b11,0,none⟩) (by rw [cellOf0 hp6.h13]; rfl) ?_
  refine ⟨_,rfl,?_⟩
  refine LoadT.mk (.agg [.int .i64,.int .i64,.sl,.str,.str,.int .i64,.sl,.str,.sl,.int .i64,.int .i64,.sl,.sl,.sl,.int .i64,.sl,.int .i64,.sl,.int .i64,.sl,.int .i64,.int .i64,.sl,.sl,.sl,.sl,.sl,.sl]) (x:=(c.1,c.2.1.1,x.r,x.u,x.v,c.2.2.2.2.1,x.d,x.cj,x.ring,(cSep c).1,(cSep c).2.1,x.si,x.sp,x.im,(cMap c).1.1,x.mr,(cMap c).2.1,x.mi,(cStr c).1.1,x.s.r,(cStr c).2.1.1,(cStr c).2.1.2.1,x.s.acc,x.s.nx,x.s.mu,x.s.df,x.s.st,x.s.en,())) (fun k u hu=>?_) ?_
  ·have h:=(hb6 (k + 1) u (by rw [List.getElem?_cons_succ]; exact hu)).1
   rw [mk_add,mk_add,show 0 + 1 + k = k + 1 by omega]; exact h
  obtain ⟨cs1,k1',hcs1⟩:=hp6.h1
  obtain ⟨kk,k3'⟩:=hp6.h3
  refine StoreN.whole (vs:=(x.cs c).toList) k1' hcs1 fun W7' g1 hc7' _=>?_
  have g3:=hc7'.heap k3' fun e=>by have e:b3 = b1:=e; omega
  refine Store1.at g3 0 (by show 0 < 1; decide) (cs':=#[.bool true]) rfl fun W9 g3' hc9 _=>?_
  have hc79:Chg (fun i=>i = b1 ∨ i = b3) W6 W9:=hc7'.trans hc9 (fun _ _ h=>.inl h) fun _ _ h=>.inr h
  have hdd:=hp6.hd
  have hd9:W9.heap[d]? = some (.deferred (some [])):=hc79.heap hdd fun e=>by
   rcases e with e | e
   ·rw [e,k1'] at hdd; cases hdd
   ·rw [e,k3'] at hdd; cases hdd
  refine endM_ret (cs:=x.cs c) (c:=c) (n:=n) (hp6.ch.trans hc79 (fun _ _ h=>h) fun i hi e=>by rcases e with e | e <;> omega) (hc9.heap g1 fun e=>by have e:b1 = b3:=e; omega) rfl g3' hd9 ids.dn ids.wn (q6.ext fun g o hgo=>⟨⟨hgo.1,Nat.lt_of_lt_of_le hgo.2 hc79.size⟩,World.cell?_of_block (hc79.block g hgo.2 fun e=>?_)⟩) hj.lc fun c' hi=>?_
  ·have:=hgo.1
   rcases e with e | e <;> omega
  ·exact (hj.is c' (by rw [hL]; exact Pk.IsText.cut hi hcut')).1
end Go.Proofs.YtpifnlfmojfgpaaGreatDoor.Pk
end
section
set_option maxRecDepth 10000
set_option maxHeartbeats 2000000
namespace Go.Proofs.YtpifnlfmojfgpaaGreatDoor.Pk
open Fw Pw Ct Rk
def sg38:Sig:=⟨[sA],[.any],[.pv claimT,bA]⟩
def sg11:Sig:=⟨[sA],[.any],[.pv claimT,iA]⟩
theorem read_pc (t:Str) (ht:t.length ≤ 20000):PC Tryz.prog 38 sg38 (t,()) (fun y _=>(y.2.1 = true ∧ Lim NN claimT y.1 ∧ ∀ c',IsText t c' → c' = y.1) ∨ (y.2.1 = false ∧ y.1 = zeroClm ∧ ∀ c',¬ IsText t c')) (fun _=>False):=by
 refine pc_mk (ps:=[.str]) (rs:=[claimT,.bool]) (x:=(t,())) (Q:=fun y _=>(y.2.1 = true ∧ Lim NN claimT y.1 ∧ ∀ c',IsText t c' → c' = y.1) ∨ (y.2.1 = false ∧ y.1 = zeroClm ∧ ∀ c',¬ IsText t c')) (by kernel_rfl) fun A w vs hp hlow hg=>?_
 obtain ⟨us,v,vs',rfl,⟨b,rfl,hb,_⟩,hv,hvs⟩:=hp
 have hvs:vs' = []:=hvs
 have hv:[_] = [v]:=hv
 cases hv; subst hvs
 have hb:b.data.toList = t:=hb
 subst hb
 refine (read_ok b (by rw [size_of (b:=b) rfl]; exact ht) hg).mono fun e w' he=>?_
 obtain ⟨cs,k,c,rfl,hc,hr,hq⟩:=he
 refine ⟨fun g o=>A g o ∨ nw w.heap.size w' g o,(c,k,()),[.agg cs,.bool k],hq,rfl,⟨cs.toList,_,_,rfl,hr.ext fun g o hg=>⟨.inr hg,rfl⟩,rfl,[.bool k],_,_,rfl,rfl,rfl,rfl⟩,hc,fun _ _ h=>.inl h,fun g o h=>h.elim .inl fun h=>.inr h⟩
noncomputable def a11:FAnn where
 joins:=fun | 8=>some [.kv 2,.kv 4,.sl 31 (.pv (.bool)),.km 0,.km 1] | _=>none
theorem pread_long (t:Str) (ht:t.length > 2000000):PC Tryz.prog 11 sg11 (t,()) (fun y _=>y = (zeroClm,2,())) (fun _=>False):=by
 refine PC.of a11 [(38,sg38),(6,sg6)] (by kernel_rfl) ?_
 refine LenL.mk fun _=>?_
 refine BrP.mk' (fun h=>?_) (fun h=>?_)
 ·exact (rfl:(zeroClm,(2:Int),()) = (zeroClm,2,()))
 ·have h:¬ (t.length:Int) > 2000000:=of_decide_eq_false h
  omega
theorem pread_pc (t:Str) (ht:t.length ≤ 20000):PC Tryz.prog 11 sg11 (t,()) (fun y _=>ReadIs t y) (fun _=>False):=by
 refine PC.of a11 [(38,sg38),(6,sg6)] (by kernel_rfl) ?_
 refine LenL.mk fun _=>?_
 refine BrP.mk' (fun h=>?_) (fun h=>?_)
 ·have h:(t.length:Int) > 2000000:=of_decide_eq_true h
  omega
 refine CallP.mk _ _ (read_pc t ht) ?_ (fun p h=>h.elim)
 rintro ⟨c,ok,_⟩ z hq
 refine BrP.mk' (fun hb=>?_) (fun hb=>?_)
 ·have hb:(!ok) = true:=hb
  have hok:ok = false:=by simpa using hb
  rcases hq with ⟨h1,_⟩ | ⟨_,_,h2⟩
  ·have h1:ok = true:=h1
   rw [hok] at h1; cases h1
  ·exact Or.inr ⟨h2,rfl⟩
 have hb:(!ok) = false:=hb
 have hok:ok = true:=by simpa using hb
 have hq':Lim NN claimT c ∧ ∀ c',IsText t c' → c' = c:=by
  rcases hq with ⟨_,h1,h2⟩ | ⟨h1,_⟩
  ·exact ⟨h1,h2⟩
  ·have h1:ok = false:=h1
   rw [hok] at h1; cases h1
 obtain ⟨hl,hu⟩:=hq'
 refine CallP.mk _ _ (text_pc c hl) ?_ (fun p h=>h.elim)
 rintro ⟨own,err,_⟩ z hy
 have hy:(own,err,()) = textR c:=hy
 have htext:∀ c',IsText t c' → err = 0 ∧ own = t:=fun c' hi=>by
  have:=hu c' hi
  subst this
  have hlen:(textL (linesC c')).length ≤ 2000000:=by rw [hi.t]; omega
  unfold textR at hy
  rw [hi.w,if_pos rfl,if_pos hlen] at hy
  injection hy with h1 h2
  injection h2 with h2 _
  exact ⟨h2,h1.trans hi.t⟩
 have hback:err = 0 → own = t → IsText t c:=fun h1 h2=>by
  unfold textR at hy
  cases hw:writable c with
  | false=>
   rw [hw] at hy
   injection hy with _ hy
   injection hy with hy _
   rw [hy] at h1; cases h1
  | true=>
   rw [hw,if_pos rfl] at hy
   split at hy
   ·injection hy with hy _
    exact ⟨hl,hw,hy.symm.trans h2⟩
   ·injection hy with _ hy
    injection hy with hy _
    rw [hy] at h1; cases h1
 refine JoinP.mk (fun x=>∃ b:Bool,x = (b,()) ∧ (b = true → ∀ c',¬ IsText t c') ∧ (b = false → IsText t c)) ?_ ?_
 rotate_left
 ·refine BrP.mk' (fun he=>?_) (fun he=>?_)
  ·have he:(err != 0) = true:=he
   have he:=bne_iff_ne.1 he
   refine SameV.mk rfl (SameV.mk rfl (SameV.mk rfl (SameV.mk rfl ?_)))
   exact Exists.intro true (And.intro rfl (And.intro (fun _ c' hi=>he (htext c' hi).1) (fun h=>Bool.noConfusion h)))
  ·have he:(err != 0) = false:=he
   have he:err = 0:=by simpa using he
   refine SameV.mk rfl (SameV.mk rfl (SameV.mk rfl (SameV.mk rfl ?_)))
   refine Exists.intro (own != t) (And.intro rfl (And.intro (fun hb c' hi=>?_) (fun hb=>?_)))
   ·exact bne_iff_ne.1 hb (htext c' hi).2
   ·exact hback he (by simpa using hb)
 rintro x ⟨b,rfl,h1,h2⟩
 refine BrP.mk' (fun hb=>?_) (fun hb=>?_)
 ·exact Or.inr ⟨h1 hb,rfl⟩
 ·exact Or.inl ⟨c,h2 hb,rfl⟩
end Go.Proofs.YtpifnlfmojfgpaaGreatDoor.Pk
end
section
set_option maxRecDepth 10000
namespace Go.Proofs.YtpifnlfmojfgpaaGreatDoor.Sn
open Fw Pw Ct Rk Pk
theorem BrP.yes {b:Bool} {A B:Prop} (h:b = true) (k:A):BrP b A B:=⟨fun _=>k,fun h'=>absurd (h.symm.trans h') (by decide)⟩
theorem BrP.no {b:Bool} {A B:Prop} (h:b = false) (k:B):BrP b A B:=⟨fun h'=>absurd (h.symm.trans h') (by decide),fun _=>k⟩
theorem GetL.get {α:Type} {xs:List α} {i:Int} {K:α → Prop} (x:α) (h0:0 ≤ i) (h:xs[i.toNat]? = some x) (k:K x):GetL xs i K:=.mk x h0 h k
def exC (inv:Bool):Clm:=(1,(2,[[97,98,65,66]],()),[98,97],[97,98],0,[([],0,inv,())],([],[],()),(0,0,[],[],()),[],((0,[],()),0,[],()),((0,[],()),(0,0,[],[],()),[],[],[],[],()),())
end Go.Proofs.YtpifnlfmojfgpaaGreatDoor.Sn
end
section
set_option maxRecDepth 10000
namespace Go.Proofs.YtpifnlfmojfgpaaGreatDoor
open Fw
noncomputable def disk_other.ann:Ann where
 loops:=fun | _=>[]
 joins:=fun | _=>none
noncomputable def disk_other.body:Code:=match Tryz.f277.body with | some c=>c | none=>.skip
def disk_other.sh (p0:Int) (R:Ending → World → Prop) (w:World):Prop:=
 R (.returned (.int .u8 (Go.bits .xor .u8 p0 32))) w
theorem disk_other.calls (p0:Int) {R:Ending → World → Prop} {w:World} (h:disk_other.sh p0 R w):Calls Tryz.prog 277 #[(.int .u8 p0)] w R:=calls_of_wpc mixed Tryz.func277 (by kernel_rfl) (by kernel_rfl) ((show _ = wpc Tryz.prog disk_other.ann disk_other.body (fnKs Tryz.prog Tryz.f277 R) [] (env0 #[(.int .u8 p0)]) w by kernel_rfl).mp h)
noncomputable def disk_inverse.ann:Ann where
 loops:=fun | 3=>[(0,.sc .str),(3,.sc .sl),(9,.sc (.int .i64)),(10,.sc (.int .i64))] | _=>[]
 joins:=fun | _=>none
noncomputable def disk_inverse.body:Code:=match Tryz.f210.body with | some c=>c | none=>.skip
def disk_inverse.sh (p0:ByteArray) (R:Ending → World → Prop) (w:World):Prop:=
 RunT Tryz.prog (.sc .sl) (Instr.makeSlice 61 (.int .i64 ((p0.size:Nat):Int)) (.int .i64 ((p0.size:Nat):Int))) w fun r1 w2=>
 LoopT (σ:=ByteArray × Sl × Int × Int × Unit) (p0,r1,((p0.size:Nat):Int),0,()) w2 fun l3 g4 w5 I6=>
  Br (decide ((l3.2.2.2.1:Int) < l3.2.2.1))
   (StrIdx l3.1 l3.2.2.2.1 fun c7=>
   CallT Tryz.prog 277 #[(.int .u8 c7)] (.sc (.int .u8)) w5 (fun r8 w9=>
    Idx l3.2.1.a l3.2.1.n 1 (IntKind.wrap .i64 ((IntKind.wrap .i64 (((l3.1.size:Nat):Int) - 1)) - l3.2.2.2.1)) fun a11=>
    Store1 w9 a11 (.int .u8 r8) fun w12=>
    I6 (l3.1,l3.2.1,l3.2.2.1,(IntKind.wrap .i64 (l3.2.2.2.1 + 1)),()) w12) (fun h10 w9=>R (.panicked h10) w9))
   (RunT Tryz.prog (.sc .str) (convert 61 9 (.slice l3.2.1.a l3.2.1.n l3.2.1.c)) w5 fun r13 w14=>
   R (.returned (.string r13)) w14)
theorem disk_inverse.calls (p0:ByteArray) {R:Ending → World → Prop} {w:World} (h:disk_inverse.sh p0 R w):Calls Tryz.prog 210 #[(.string p0)] w R:=calls_of_wpc mixed Tryz.func210 (by kernel_rfl) (by kernel_rfl) ((show _ = wpc Tryz.prog disk_inverse.ann disk_inverse.body (fnKs Tryz.prog Tryz.f210 R) [] (env0 #[(.string p0)]) w by kernel_rfl).mp h)
noncomputable def word_other.ann:Ann where
 loops:=fun | _=>[]
 joins:=fun | _=>none
noncomputable def word_other.body:Code:=match Tryz.f213.body with | some c=>c | none=>.skip
def word_other.sh (p0:Int) (R:Ending → World → Prop) (w:World):Prop:=
 R (.returned (.int .u8 (Go.bits .xor .u8 p0 32))) w
theorem word_other.calls (p0:Int) {R:Ending → World → Prop} {w:World} (h:word_other.sh p0 R w):Calls Tryz.prog 213 #[(.int .u8 p0)] w R:=calls_of_wpc mixed Tryz.func213 (by kernel_rfl) (by kernel_rfl) ((show _ = wpc Tryz.prog word_other.ann word_other.body (fnKs Tryz.prog Tryz.f213 R) [] (env0 #[(.int .u8 p0)]) w by kernel_rfl).mp h)
noncomputable def word_inverse.ann:Ann where
 loops:=fun | 3=>[(0,.sc .str),(3,.sc .sl),(9,.sc (.int .i64)),(10,.sc (.int .i64))] | _=>[]
 joins:=fun | _=>none
noncomputable def word_inverse.body:Code:=match Tryz.f171.body with | some c=>c | none=>.skip
def word_inverse.sh (p0:ByteArray) (R:Ending → World → Prop) (w:World):Prop:=
 RunT Tryz.prog (.sc .sl) (Instr.makeSlice 61 (.int .i64 ((p0.size:Nat):Int)) (.int .i64 ((p0.size:Nat):Int))) w fun r1 w2=>
 LoopT (σ:=ByteArray × Sl × Int × Int × Unit) (p0,r1,((p0.size:Nat):Int),0,()) w2 fun l3 g4 w5 I6=>
  Br (decide ((l3.2.2.2.1:Int) < l3.2.2.1))
   (StrIdx l3.1 l3.2.2.2.1 fun c7=>
   CallT Tryz.prog 213 #[(.int .u8 c7)] (.sc (.int .u8)) w5 (fun r8 w9=>
    Idx l3.2.1.a l3.2.1.n 1 (IntKind.wrap .i64 ((IntKind.wrap .i64 (((l3.1.size:Nat):Int) - 1)) - l3.2.2.2.1)) fun a11=>
    Store1 w9 a11 (.int .u8 r8) fun w12=>
    I6 (l3.1,l3.2.1,l3.2.2.1,(IntKind.wrap .i64 (l3.2.2.2.1 + 1)),()) w12) (fun h10 w9=>R (.panicked h10) w9))
   (RunT Tryz.prog (.sc .str) (convert 61 9 (.slice l3.2.1.a l3.2.1.n l3.2.1.c)) w5 fun r13 w14=>
   R (.returned (.string r13)) w14)
theorem word_inverse.calls (p0:ByteArray) {R:Ending → World → Prop} {w:World} (h:word_inverse.sh p0 R w):Calls Tryz.prog 171 #[(.string p0)] w R:=calls_of_wpc mixed Tryz.func171 (by kernel_rfl) (by kernel_rfl) ((show _ = wpc Tryz.prog word_inverse.ann word_inverse.body (fnKs Tryz.prog Tryz.f171 R) [] (env0 #[(.string p0)]) w by kernel_rfl).mp h)
end Go.Proofs.YtpifnlfmojfgpaaGreatDoor
end
section
set_option maxRecDepth 10000
set_option maxHeartbeats 400000
namespace Go.Proofs.YtpifnlfmojfgpaaGreatDoor.Sn
open Fw Pw Ct Rk Pk
def ofB (b:UInt8):Int:=(b.toNat:Int)
def otherB (c:UInt8):UInt8:=c ^^^ 32
theorem other_of (c:UInt8):Go.bits .xor .u8 (ofB c) 32 = ofB (otherB c):=by
 unfold ofB otherB
 have h:=u8_xor_nat c.toNat 32 (UInt8.toNat_lt c) (by decide)
 rw [show ((32:Nat):Int) = 32 from rfl] at h
 rw [h,UInt8.toNat_xor]
 rfl
theorem StrIdx.mk {s:ByteArray} {i:Int} {K:Int → Prop} (n:Nat) (hi:i = (n:Int)) (h:n < s.size) (k:K (ofB (s[n]'h))):StrIdx s i K:=by
 subst hi
 exact ⟨by omega,h,k⟩
def invF (l:List UInt8):List UInt8:=(l.map otherB).reverse
theorem inv_fill {α:Type} (z v:α) (m:Nat) (r:List α):(List.replicate (m + 1) z ++ r).set m v = List.replicate m z ++ v :: r:=by
 rw [List.replicate_succ',List.append_assoc,List.set_append_right _ _ (by simp)]
 simp
theorem ok61:slOk Tryz.prog 61 5 1 1 = true:=by kernel_rfl
theorem zero5:zeroIs Tryz.prog 5 (Sc.val (.int .u8) (0:Int)):=by
 unfold zeroIs
 kernel_rfl
theorem under61:Tryz.prog.underlying 61 = some (.slice 5):=by kernel_rfl
theorem under5:Tryz.prog.underlying 5 = some (.int .u8):=by kernel_rfl
theorem under9:Tryz.prog.underlying 9 = some .string:=by kernel_rfl
theorem bytes_get (s:ByteArray) (i:Nat) (h:i < s.size):s.data.toList[i]? = some (s[i]'h):=by
 rw [List.getElem?_eq_getElem (by simpa using h)]; rfl
theorem dinv_ret {w:World} (s:ByteArray) (hb:s.size ≤ 1000000000) :
  Ret Tryz.prog 210 #[.string s] (.sc .str) w fun x w'=>x = ⟨(invF s.data.toList).toArray⟩ ∧ Chg Nil w w':=by
 refine disk_inverse.calls _ ?_
 unfold disk_inverse.sh
 refine makeSlice_own (s:=.int .u8) ok61 (z:=(0:Int)) zero5 rfl s.size rfl (by omega) (by simp only [maxLen]; omega) fun g w1 ho hc hg=>?_
 refine LoopT.mk (fun x w'=>∃ i:Nat,i ≤ s.size ∧ x = (s,⟨some ⟨g,0,none⟩,s.size,s.size⟩,((s.size:Nat):Int),(i:Int),()) ∧ Chg Nil w w' ∧ OwnT w' 5 (.sc (.int .u8)) ⟨some ⟨g,0,none⟩,s.size,s.size⟩ (List.replicate (s.size - i) 0 ++ (((s.data.toList.take i).map otherB).reverse).map ofB)) (fun x _=>s.size - x.2.2.2.1.toNat)
  ⟨0,Nat.zero_le _,rfl,hc,by simpa using ho⟩ ?_
 rintro x g6 w2 ⟨i,hi,rfl,hc2,ho2⟩
 dsimp only
 refine Br.dec (fun hlt=>?_) (fun hge=>?_)
 ·have hlt':i < s.size:=by omega
  refine StrIdx.mk i rfl hlt' ?_
  refine disk_other.calls _ ?_
  unfold disk_other.sh
  refine ⟨_,rfl,?_⟩
  have e1:IntKind.wrap .i64 (((s.size:Nat):Int) - 1) = ((s.size - 1:Nat):Int):=by rw [Fw.wrap64 (by omega) (by omega)]; omega
  have e2:IntKind.wrap .i64 (((s.size - 1:Nat):Int) - (i:Int)) = ((s.size - (i + 1):Nat):Int):=by rw [Fw.wrap64 (by omega) (by omega)]; omega
  rw [e1,e2,Fw.wrap64 (by omega) (by omega)]
  refine ho2.idx (t:=.sc (.int .u8)) _ rfl (by simp; omega) fun g' hg'=>?_
  cases hg'
  rw [other_of]
  refine ho2.store (s:=.int .u8) rfl _ (by simp; omega) (x:=ofB (otherB s[i])) fun w3 ho3 hc3 _=>?_
  refine ⟨⟨i + 1,hlt',rfl,?_,?_⟩,?_⟩
  ·refine hc2.trans hc3 (fun _ _ h=>h) fun k hk he=>?_
   have he':k = g:=he
   omega
  ·rw [show s.size - i = (s.size - (i + 1)) + 1 by omega,inv_fill] at ho3
   have ht:s.data.toList.take (i + 1) = s.data.toList.take i ++ [s[i]]:=by
    rw [List.take_add_one,bytes_get s i hlt']; rfl
   rw [ht,List.map_append,List.reverse_append]
   exact ho3
  ·show s.size - (i + 1) < s.size - i
   omega
 ·have hi':i = s.size:=by omega
  subst hi'
  rw [Nat.sub_self,List.replicate_zero,List.nil_append,List.take_of_length_le (by simp)] at ho2
  exact bytes_string (l:=invF s.data.toList) under61 under5 under9 ho2.rd ⟨_,rfl,rfl,hc2⟩
theorem dinv_pc (s:Str) (hs:s.length ≤ 1000000000):PC Tryz.prog 210 ⟨[sA],[.any],[sA]⟩ (s,()) (fun y _=>y = (invF s,())) (fun _=>False):=by
 refine pc_mk (ps:=[.str]) (rs:=[.str]) (x:=(s,())) (Q:=fun y _=>y = (invF s,())) (by kernel_rfl) fun A w vs hp hlow hg=>?_
 obtain ⟨us,v,vs',rfl,⟨b,rfl,hb,_⟩,hv,hvs⟩:=hp
 have hvs:vs' = []:=hvs
 have hv:[_] = [v]:=hv
 cases hv; subst hvs
 have hb:b.data.toList = s:=hb
 subst hb
 refine Calls.mono (dinv_ret b (by rw [size_of (b:=b) rfl]; exact hs)) fun e w' he=>?_
 obtain ⟨x,rfl,rfl,hc⟩:=he
 refine ⟨A,(invF b.data.toList,()),[.string ⟨(invF b.data.toList).toArray⟩],rfl,rfl,⟨[_],_,_,rfl,⟨_,rfl,by simp,?_⟩,rfl,rfl⟩,hc,fun _ _ h=>h,fun _ _ h=>.inl h⟩
 show (invF b.data.toList).length ≤ 4611686018427387904
 have:(invF b.data.toList).length = b.data.toList.length:=by unfold invF; simp
 rw [this]; omega
theorem winv_ret {w:World} (s:ByteArray) (hb:s.size ≤ 1000000000) :
  Ret Tryz.prog 171 #[.string s] (.sc .str) w fun x w'=>x = ⟨(invF s.data.toList).toArray⟩ ∧ Chg Nil w w':=by
 refine word_inverse.calls _ ?_
 unfold word_inverse.sh
 refine makeSlice_own (s:=.int .u8) ok61 (z:=(0:Int)) zero5 rfl s.size rfl (by omega) (by simp only [maxLen]; omega) fun g w1 ho hc hg=>?_
 refine LoopT.mk (fun x w'=>∃ i:Nat,i ≤ s.size ∧ x = (s,⟨some ⟨g,0,none⟩,s.size,s.size⟩,((s.size:Nat):Int),(i:Int),()) ∧ Chg Nil w w' ∧ OwnT w' 5 (.sc (.int .u8)) ⟨some ⟨g,0,none⟩,s.size,s.size⟩ (List.replicate (s.size - i) 0 ++ (((s.data.toList.take i).map otherB).reverse).map ofB)) (fun x _=>s.size - x.2.2.2.1.toNat)
  ⟨0,Nat.zero_le _,rfl,hc,by simpa using ho⟩ ?_
 rintro x g6 w2 ⟨i,hi,rfl,hc2,ho2⟩
 dsimp only
 refine Br.dec (fun hlt=>?_) (fun hge=>?_)
 ·have hlt':i < s.size:=by omega
  refine StrIdx.mk i rfl hlt' ?_
  refine word_other.calls _ ?_
  unfold word_other.sh
  refine ⟨_,rfl,?_⟩
  have e1:IntKind.wrap .i64 (((s.size:Nat):Int) - 1) = ((s.size - 1:Nat):Int):=by rw [Fw.wrap64 (by omega) (by omega)]; omega
  have e2:IntKind.wrap .i64 (((s.size - 1:Nat):Int) - (i:Int)) = ((s.size - (i + 1):Nat):Int):=by rw [Fw.wrap64 (by omega) (by omega)]; omega
  rw [e1,e2,Fw.wrap64 (by omega) (by omega)]
  refine ho2.idx (t:=.sc (.int .u8)) _ rfl (by simp; omega) fun g' hg'=>?_
  cases hg'
  rw [other_of]
  refine ho2.store (s:=.int .u8) rfl _ (by simp; omega) (x:=ofB (otherB s[i])) fun w3 ho3 hc3 _=>?_
  refine ⟨⟨i + 1,hlt',rfl,?_,?_⟩,?_⟩
  ·refine hc2.trans hc3 (fun _ _ h=>h) fun k hk he=>?_
   have he':k = g:=he
   omega
  ·rw [show s.size - i = (s.size - (i + 1)) + 1 by omega,inv_fill] at ho3
   have ht:s.data.toList.take (i + 1) = s.data.toList.take i ++ [s[i]]:=by
    rw [List.take_add_one,bytes_get s i hlt']; rfl
   rw [ht,List.map_append,List.reverse_append]
   exact ho3
  ·show s.size - (i + 1) < s.size - i
   omega
 ·have hi':i = s.size:=by omega
  subst hi'
  rw [Nat.sub_self,List.replicate_zero,List.nil_append,List.take_of_length_le (by simp)] at ho2
  exact bytes_string (l:=invF s.data.toList) under61 under5 under9 ho2.rd ⟨_,rfl,rfl,hc2⟩
theorem winv_pc (s:Str) (hs:s.length ≤ 1000000000):PC Tryz.prog 171 ⟨[sA],[.any],[sA]⟩ (s,()) (fun y _=>y = (invF s,())) (fun _=>False):=by
 refine pc_mk (ps:=[.str]) (rs:=[.str]) (x:=(s,())) (Q:=fun y _=>y = (invF s,())) (by kernel_rfl) fun A w vs hp hlow hg=>?_
 obtain ⟨us,v,vs',rfl,⟨b,rfl,hb,_⟩,hv,hvs⟩:=hp
 have hvs:vs' = []:=hvs
 have hv:[_] = [v]:=hv
 cases hv; subst hvs
 have hb:b.data.toList = s:=hb
 subst hb
 refine Calls.mono (winv_ret b (by rw [size_of (b:=b) rfl]; exact hs)) fun e w' he=>?_
 obtain ⟨x,rfl,rfl,hc⟩:=he
 refine ⟨A,(invF b.data.toList,()),[.string ⟨(invF b.data.toList).toArray⟩],rfl,rfl,⟨[_],_,_,rfl,⟨_,rfl,by simp,?_⟩,rfl,rfl⟩,hc,fun _ _ h=>h,fun _ _ h=>.inl h⟩
 show (invF b.data.toList).length ≤ 4611686018427387904
 have:(invF b.data.toList).length = b.data.toList.length:=by unfold invF; simp
 rw [this]; omega
def sg210:Sig:=⟨[sA],[.any],[sA]⟩
def sg171:Sig:=⟨[sA],[.any],[sA]⟩
def sg277:Sig:=⟨[.pv (.int .u8)],[.any],[.pv (.int .u8)]⟩
noncomputable def a277:FAnn:={}
theorem other277_pc (c:Int):PC Tryz.prog 277 sg277 (c,()) (fun y _=>y = (Go.bits .xor .u8 c 32,())) (fun _=>False):=by
 refine PC.of a277 [] (by kernel_rfl) ?_
 exact rfl
theorem inverse0:PC Tryz.prog 210 sg210 ([],()) (fun y _=>y = ([],())) (fun _=>False):=dinv_pc [] (by decide)
theorem inverseA:PC Tryz.prog 210 sg210 ([97,98,65,66],()) (fun y _=>y = ([98,97,66,65],())) (fun _=>False):=dinv_pc [97,98,65,66] (by decide)
theorem winverse0:PC Tryz.prog 171 sg171 ([97,98],()) (fun y _=>y = ([66,65],())) (fun _=>False):=winv_pc [97,98] (by decide)
theorem q_of {P:Program} {f:FuncId} {sg:Sig} {x:aden sg.ps} {Q Q':aden sg.res → aden sg.out → Prop} {Qp:AV → Prop} (h:PC P f sg x Q Qp) (k:∀ y z,Q y z → Q' y z):PC P f sg x Q' Qp:=by
 refine ⟨h.1,fun A w vs ω h1 h2 h3=>(h.2 A w vs ω h1 h2 h3).mono fun e w' he=>?_⟩
 cases e with
 | returned v=>obtain ⟨A',y,z,rs,ω1,ω2,hq,h⟩:=he; exact ⟨A',y,z,rs,ω1,ω2,k y z hq,h⟩
 | panicked ch=>exact he
 | outgrown=>exact he
theorem chk8:PC Tryz.prog 76 ⟨[iA,sA],[.any,.any],[iA]⟩ (8,[97,98],()) (fun y _=>y = (0,())) (fun _=>False):=q_of (Wd.wcheck_pc 8 [97,98]) fun y z h=>by
 obtain ⟨a,b⟩:=y
 have h:a = 0:=h
 rw [h]
theorem chk2:PC Tryz.prog 76 ⟨[iA,sA],[.any,.any],[iA]⟩ (2,[97,98,65,66],()) (fun y _=>y = (0,())) (fun _=>False):=q_of (Wd.wcheck_pc 2 [97,98,65,66]) fun y z h=>by
 obtain ⟨a,b⟩:=y
 have h:a = 0:=h
 rw [h]
end Go.Proofs.YtpifnlfmojfgpaaGreatDoor.Sn
end
