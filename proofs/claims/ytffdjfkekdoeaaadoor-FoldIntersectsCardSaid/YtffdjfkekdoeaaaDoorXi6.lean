/- Parts of a proof, laid one behind the other by our own merge.py: LwInter2 ShJ RfJoin ShI RfInter PlIndex PlHn1 PlHn2 PlHn3 PlHn4 PlHn5 LwMeet LwChecks LwNielsen LwMembers ShL8 LwIntersects. -/
import Derived.Test.YtffdjfkekdoeaaaDoorXi5
import Derived.Test.YtffdjfkekdoeaaaDoorXi1
import Derived.Test.YtffdjfkekdoeaaaDoorProg
import Derived.KernelRfl
import Derived.Test.YtffdjfkekdoeaaaDoorXi3
import Derived.Test.YtffdjfkekdoeaaaDoorXi4
set_option linter.unusedVariables false
set_option linter.unusedSimpArgs false
section
set_option maxRecDepth 8000
set_option maxHeartbeats 8000000
namespace Go.Proofs.YtffdjfkekdoeaaaDoor.Fo
open Fw Wd Rf Pl
theorem edge_in {k:Int} {a:Aut} (hc:a.check k = 0) {s y s':Nat} (h:Dl k a s y s') {row:List Int} (hrow:a.next[s]? = some row):((y:Int),(s':Int),()) ∈ edgesFrom 0 row:=by
 obtain ⟨r,g1,g2,g3,g4,g5⟩:=getN_row hc h.1 h.2.1
 rw [hrow] at g1
 cases g1
 have he:=edges_of row 0 y g2 (by rw [← g3,h.2.2]; omega)
 rw [Nat.zero_add,← g3,h.2.2] at he
 exact he
theorem in_edge {k:Int} {a:Aut} (hc:a.check k = 0) {s:Nat} {y t:Int} {u:Unit} {row:List Int} (hrow:a.next[s]? = some row) (h:(y,t,u) ∈ edgesFrom 0 row):∃ ny nt:Nat,y = (ny:Int) ∧ t = (nt:Int) ∧ Dl k a s ny nt:=by
 obtain ⟨i,g1,g2,g3⟩:=Pl.edges_mem row 0 _ h
 dsimp only at g1 g2 g3
 rw [Nat.zero_add] at g2
 obtain ⟨nt,rfl⟩:=Int.eq_ofNat_of_zero_le g3
 have hlt:=(List.getElem?_eq_some_iff.1 g1).1
 have hs:=(List.getElem?_eq_some_iff.1 hrow).1
 obtain ⟨_,_,_,_,_,_,hrows⟩:=check_spec hc
 obtain ⟨r1,r2⟩:=hrows _ (List.mem_of_getElem? hrow)
 refine ⟨i,nt,g2,rfl,hs,by omega,?_⟩
 unfold getN
 rw [List.getD_eq_getElem?_getD (l:=a.next),hrow]
 show row.getD i 0 = _
 rw [List.getD_eq_getElem?_getD,g1]; rfl
theorem Intersect_ret {w:World} (hl:Laid w) {k:Int} {x y:Int × Int × Sl × Sl × Unit} {a b:Aut} (ha:AutIn w x a) (hb:AutIn w y b) (ha20:a.next.length ≤ 20) (hb20:b.next.length ≤ 20) :
  RetN Tryd.prog 33 #[.int .i64 k,.agg #[.int .i64 x.1,.int .i64 x.2.1,x.2.2.1.v,x.2.2.2.1.v],.agg #[.int .i64 y.1,.int .i64 y.2.1,y.2.2.1.v,y.2.2.2.1.v]] [tA,tI] w fun z w'=>
   ∃ res,IntIs k a b res ∧ Chg Nil w w' ∧ AutIn w' z.1 (autR res).1 ∧ z.2.1 = (autR res).2:=by
 obtain ⟨x1,x2,sa,sn,_⟩:=x
 obtain ⟨y1,y2,ta,tn,_⟩:=y
 refine fold_Intersect.calls k x1 x2 sa sn y1 y2 ta tn ?_
 unfold fold_Intersect.sh
 refine New.mk fun b1 w1 hb1 hh1 hs1 hc1=>?_
 refine New.mk fun b3 w2 hb3 hh3 hs3 hc3=>?_
 refine New.mk fun b5 w3 hb5 hh5 hs5 hc5=>?_
 refine New.mk fun b7 w4 hb7 hh7 hs7 hc7=>?_
 have h14:w4.heap[b1]? = some _:=hc7.heap (hc5.heap (hc3.heap hh1 fun h=>h) fun h=>h) fun h=>h
 have h34:w4.heap[b3]? = some _:=hc7.heap (hc5.heap hh3 fun h=>h) fun h=>h
 have h54:w4.heap[b5]? = some _:=hc7.heap hh5 fun h=>h
 refine LoadT.mk tA (x:=(x1,x2,sa,sn,())) (fun j v hv=>by rw [cellOf h14]; simpa [Ty.cells] using hv) ?_
 refine LoadT.mk tA (x:=(y1,y2,ta,tn,())) (fun j v hv=>by rw [cellOf h34]; simpa [Ty.cells] using hv) ?_
 refine New.mk fun b11 w5 hb11 hh11 hs11 hc11=>?_
 have hc05:=(((hc1.then hc3).then hc5).then hc7).then hc11
 refine Ret.call (exam_ret (sl:=⟨some ⟨b11,0,none⟩,2,2⟩) (sw:=⟨none,0,0⟩) (xs:=[(x1,x2,sa,sn,()),(y1,y2,ta,tn,())]) (ats:=[a,b]) (ws:=[]) (hl.nil hc05) (rd_lit hh11 rfl rfl) rfl (fun i z c hz hc=>by
  match i,hz,hc with
  | 0,hz,hc=>simp at hz hc; subst hz; subst hc; exact ha.nil hc05
  | 1,hz,hc=>simp at hz hc; subst hz; subst hc; exact hb.nil hc05
  | i + 2,hz,hc=>simp at hz) (RdT.nil _ _ _ _) (by simp) (by simp)) ?_
 rintro _ w6 ⟨rfl,hc6⟩
 have hc06:=hc05.then hc6
 have hcc:=hc11.then hc6
 have h16:=hcc.heap h14 fun h=>h
 have h36:=hcc.heap h34 fun h=>h
 have h56:=hcc.heap h54 fun h=>h
 have h76:=hcc.heap hh7 fun h=>h
 have z1:=hc1.size
 have z3:=hc3.size
 have z5:=hc5.size
 have z7:=hc7.size
 generalize hav:(#[.int .i64 x1,.int .i64 x2,.slice sa.a sa.n sa.c,.slice sn.a sn.n sn.c]:Array Value) = av at *
 generalize hbv:(#[.int .i64 y1,.int .i64 y2,.slice ta.a ta.n ta.c,.slice tn.a tn.n tn.c]:Array Value) = bv at *
 refine Br.mk (fun hne=>?_) (fun heq=>?_)
 ·have hne':examF k [a,b] [] ≠ 0:=by simpa using hne
  refine StoreN.whole (vs:=[.int .i64 0,.int .i64 0,.slice none 0 0,.slice none 0 0]) h56 rfl fun w7 h7 hc7' _=>?_
  have h77:=hc7'.heap h76 fun he=>by have he:b7 = b5:=he; omega
  refine Store1.at0' h77 (by show 0 < 1; decide) rfl fun w8 h8 hc8 _=>?_
  have h58:=hc8.heap h7 fun he=>by have he:b5 = b7:=he; omega
  refine LoadT.mk tA (x:=(0,0,⟨none,0,0⟩,⟨none,0,0⟩,())) (fun j v hv=>by rw [cellOf h58]; simpa [Ty.cells] using hv) ?_
  refine LoadT.sc (s:=.int .i64) (x:=examF k [a,b] []) (by rw [cellOf0 h8]; rfl) ?_
  exact ⟨((0,0,⟨none,0,0⟩,⟨none,0,0⟩,()),examF k [a,b] [],()),rfl,_,.err hne',(hc06.trans hc7' (fun _ _ h=>h) fun i hi he=>by have he:i = b5:=he; omega).trans hc8 (fun _ _ h=>h) fun i hi he=>by have he:i = b7:=he; omega,autIn_zero w8,rfl⟩
 have hz:examF k [a,b] [] = 0:=by simpa using heq
 have hk:=exam_rank hz
 obtain ⟨hca,hcb⟩:=(exam_two hk).1 hz
 obtain ⟨nk,rfl⟩:=Int.eq_ofNat_of_zero_le (show 0 ≤ k by omega)
 obtain ⟨_,_,na1,na2,_,_,hrowsA⟩:=check_spec hca
 obtain ⟨_,_,nb1,nb2,_,_,hrowsB⟩:=check_spec hcb
 have hAa:=dl_aut hk.2 hca
 have hAb:=dl_aut hk.2 hcb
 refine New.mk fun b20 w7 hb20 hh20 hs20 hc20=>?_
 obtain ⟨w8,hrun8,hm8,hc8⟩:=updateP_new under91 (w:=w7) (mb:=b20) (l:=[]) ⟨#[],0,hh20,rfl⟩ (t:=((0:Int),(0:Int))) (by simp) (.int .i64 0)
 refine ⟨w8,hrun8,?_⟩
 refine New.mk fun b23 w9 hb23 hh23 hs23 hc23=>?_
 refine Store1.at0' hh23 (by show 0 < 1; decide) rfl fun w10 hh23' hc23' hsz23=>?_
 refine New.mk fun b26 w11 hb26 hh26 hs26 hc26=>?_
 refine New.mk fun b28 w12 hb28 hh28 hs28 hc28=>?_
 refine Store1.at0' hh28 (by show 0 < 1; decide) rfl fun w13 hh28' hc28' hsz28=>?_
 have l20:=lt_of_heap hh20
 have z8:=hc8.size
 have l23:=lt_of_heap hh23
 have l26:=lt_of_heap hh26
 have l28:=lt_of_heap hh28
 have z20:=hc20.size
 have z23:=hc23.size
 have z26:=hc26.size
 have z28:=hc28.size
 have l16:=lt_of_heap h16
 have l36:=lt_of_heap h36
 have l56:=lt_of_heap h56
 have l76:=lt_of_heap h76
 -- from w6 on
 have hN8:Chg Nil w6 w8:=hc20.trans hc8 (fun _ _ h=>h) fun i hi he=>by have he:i = b20:=he; omega
 have hN10:Chg Nil w8 w10:=hc23.trans hc23' (fun _ _ h=>h) fun i hi he=>by have he:i = b23:=he; omega
 have hN13:Chg Nil w10 w13:=(hc26.then hc28).trans hc28' (fun _ _ h=>h) fun i hi he=>by have he:i = b28:=he; omega
 have hN613:=(hN8.then hN10).then hN13
 have hc013:=hc06.then hN613
 refine Ret.call (start_ret nk (by omega) (by omega)) ?_
 rintro _ w14 ⟨fb,M,rfl,hr14,hc14,hf14⟩
 refine New.mk fun b34 w15 hb34 hh34 hs34 hc34=>?_
 refine Store1.at0' hh34 (by show 0 < 1; decide) rfl fun w16 hh34' hc34' hsz34=>?_
 refine New.mk fun b37 w17 hb37 hh37 hs37 hc37=>?_
 refine Store1.at0' hh37 (by show 0 < 1; decide) rfl fun w18 hh37' hc37' hsz37=>?_
 have z14:=hc14.size
 have z34:=hc34.size
 have z37:=hc37.size
 have l34:=lt_of_heap hh34
 have l37:=lt_of_heap hh37
 have z10:=hN10.size
 have z13:=hN13.size
 have hN16:Chg Nil w14 w16:=hc34.trans hc34' (fun _ _ h=>h) fun i hi he=>by have he:i = b34:=he; omega
 have hN18:Chg Nil w16 w18:=hc37.trans hc37' (fun _ _ h=>h) fun i hi he=>by have he:i = b37:=he; omega
 have hN1318:=(hc14.then hN16).then hN18
 have hN618:=hN613.then hN1318
 have hfl:=Fo.Rep.lt hr14
 obtain ⟨cs0,hcs0⟩:∃ l:List (Nat × Array Value × TypeId),l = [(b1,av,27),(b3,bv,27),(b5,#[.int .i64 0,.int .i64 0,.slice none 0 0,.slice none 0 0],27),(b7,#[.int .i64 0],28),(b23,#[.map (some b20)],91),(b34,#[.pointer (some (at0 fb))],76)]:=⟨_,rfl⟩
 have m1:(b1,av,27) ∈ cs0:=by rw [hcs0]; simp
 have m3:(b3,bv,27) ∈ cs0:=by rw [hcs0]; simp
 have m5:(b5,#[.int .i64 0,.int .i64 0,.slice none 0 0,.slice none 0 0],27) ∈ cs0:=by rw [hcs0]; simp
 have m7:(b7,#[.int .i64 0],28) ∈ cs0:=by rw [hcs0]; simp
 have m23:(b23,#[.map (some b20)],91) ∈ cs0:=by rw [hcs0]; simp
 have m34:(b34,#[.pointer (some (at0 fb))],76) ∈ cs0:=by rw [hcs0]; simp
 have hI0:Ix w6 w18 [] fb (start0 (2 * nk)) M b20 b28 ⟨some ⟨b26,0,none⟩,1,1⟩ [(0,0)] [(0,0)] ((b37,#[.int .i64 (0:Int)],3) :: cs0):=by
  have hmem:∀ p ∈ cs0,p.1 < w6.heap.size ∨ (p.1 = b23) ∨ p.1 = b34:=fun p hp=>by
   rw [hcs0] at hp
   simp only [List.mem_cons,List.not_mem_nil,or_false] at hp
   rcases hp with rfl | rfl | rfl | rfl | rfl | rfl
   ·exact .inl l16
   ·exact .inl l36
   ·exact .inl l56
   ·exact .inl l76
   ·exact .inr (.inl rfl)
   ·exact .inr (.inr rfl)
  have ho:∀ k,(⟨some ⟨b26,0,none⟩,1,1⟩:Sl).own k → k = b26:=fun k ⟨ad,had,he⟩=>by cases had; exact he.symm
  have h26:w18.heap[b26]? = some (.cells #[.int .i64 0,.int .i64 0] 96 (0,0)):=hN1318.heap (hc28'.heap (hc28.heap hh26 fun h=>h) fun he=>by have he:b26 = b28:=he; omega) fun h=>h
  have hm18:MapP w18 b20 (numL (qk [(0,0)])):=MapP.chg (S:=Nil) hm8 ((hN10.then hN13).then hN1318) fun h=>h
  exact { chg:=hN618,mks:=⟨List.nodup_nil,fun r hr=>by simp at hr⟩,mB:=by simp
          cells:=fun p hp=>by
           rcases List.mem_cons.1 hp with rfl | hp
           ·exact hh37'
           ·rw [hcs0] at hp
            simp only [List.mem_cons,List.not_mem_nil,or_false] at hp
            rcases hp with rfl | rfl | rfl | rfl | rfl | rfl
            ·exact hN618.heap h16 fun h=>h
            ·exact hN618.heap h36 fun h=>h
            ·exact hN618.heap h56 fun h=>h
            ·exact hN618.heap h76 fun h=>h
            ·exact (hN13.then hN1318).heap hh23' fun h=>h
            ·exact hN18.heap hh34' fun h=>h
          cq:=hN1318.heap hh28' fun h=>h,map:=hm18
          lo:=⟨by omega,by omega,fun k hk=>by rw [ho k hk]; omega⟩
          rep:=hr14.nil (hN16.then hN18),foot:=fun k hk=>by have:=hf14 k hk; omega
          own:=own_lit (t:=tP) h26 (by decide) rfl rfl (by decide)
          ap:=fun k hk=>by
           have h1:=hf14 k hk
           have h2:=hfl k hk
           refine ⟨by omega,fun hk'=>by have:=ho k hk'; omega,fun p hp=>?_⟩
           rcases List.mem_cons.1 hp with rfl | hp
           ·show b37 ≠ k
            omega
           ·rcases hmem p hp with h | h | h <;> omega
          sep:=fun k hk=>by
           have:=ho k hk
           refine ⟨by omega,fun p hp=>?_⟩
           rcases List.mem_cons.1 hp with rfl | hp
           ·show b37 ≠ k
            omega
           ·rcases hmem p hp with h | h | h <;> omega
          qn:=fun p hp=>by
           rcases List.mem_cons.1 hp with rfl | hp
           ·show b37 ≠ b28
            omega
           ·rcases hmem p hp with h | h | h <;> omega }
 have hc618:w6.heap.size ≤ w18.heap.size:=hN618.size
 clear hm8 hrun8 hh37' hh37 hh34' hh34 hh28' hh28 hh26 hh23' hh23 hh20
 have hm0:(start0 (2 * nk)).m = 2 * nk:=rfl
 have hPI0:PI (nk:Int) a b [(0,0)] [] 0:=⟨by simp,rfl,by simp; omega,fun u y v h=>by simp at h,fun u s t y s' t' h=>by omega⟩
 obtain ⟨_,_,_,slsA,hrnA,hslA,hrwsA,_⟩:=ha.rd
 obtain ⟨_,_,_,slsB,hrnB,hslB,hrwsB,_⟩:=hb.rd
 have hrnA:RdT w (.sc .sl) sn slsA:=hrnA
 have hrnB:RdT w (.sc .sl) tn slsB:=hrnB
 -- the queue
 refine ⟨fun y ds V=>∃ (i:Nat) (rs:List Nat) (st:St) (M1:Mem) (q:List (Nat × Nat)) (sq:Sl) (ci:Nat) (E:List Edg),y = (at0 b1,at0 b3,at0 b5,at0 b7,at0 b23,at0 b28,at0 b34,at0 ci,()) ∧ ds = marksOf rs ∧
   Ix w6 V rs fb st M1 b20 b28 sq q q ((ci,#[.int .i64 (i:Int)],3) :: cs0) ∧ Pl.Inv E st ∧ Both E ∧ st.m = 2 * nk ∧ st.par.length = q.length ∧ i ≤ q.length ∧ PI (nk:Int) a b q E i,
  fun y V=>match V.cell? y.2.2.2.2.2.2.2.1 with | some (.int _ i)=>401 - i.toNat | _=>0,
  ⟨0,[],_,M,_,_,b37,[],rfl,rfl,hI0,start_inv _,Both.nil,hm0,rfl,Nat.zero_le _,hPI0⟩,?_⟩
 clear hI0 hPI0
 rintro y ds g2 V ⟨i,rs,st,M1,q,sq,ci,E,rfl,rfl,hV,hI,hB,hm,hpl,hiq,hPI⟩
 dsimp only
 have hql:q.length ≤ 400:=pairs_len hPI.nodup fun p hp=>by have:=hPI.lt p hp; omega
 have hsn:sq.n = q.length:=by have:=hV.own.len; simpa using this
 have cci:∀ {W:World},W.heap[ci]? = some (.cells #[.int .i64 (i:Int)] 3 (0,0)) → W.cell? (at0 ci) = some (.int .i64 (i:Int)):=fun h=>by rw [show at0 ci = Addr.mk ci 0 none from rfl,cellOf0 h]; rfl
 have cqb:∀ {W:World} {s:Sl},W.heap[b28]? = some (.cells #[s.v] 106 (0,0)) → W.cell? (at0 b28) = some (.slice s.a s.n s.c):=fun h=>by rw [show at0 b28 = Addr.mk b28 0 none from rfl,cellOf0 h]; rfl
 have c34:∀ {W:World},W.heap[b34]? = some (.cells #[.pointer (some (at0 fb))] 76 (0,0)) → W.cell? (at0 b34) = some (.pointer (some (at0 fb))):=fun h=>by rw [show at0 b34 = Addr.mk b34 0 none from rfl,cellOf0 h]; rfl
 have c23:∀ {W:World},W.heap[b23]? = some (.cells #[.map (some b20)] 91 (0,0)) → W.cell? (at0 b23) = some (.map (some b20)):=fun h=>by rw [show at0 b23 = Addr.mk b23 0 none from rfl,cellOf0 h]; rfl
 refine LoadT.sc (s:=.int .i64) (x:=(i:Int)) (cci (hV.cells _ (List.mem_cons_self))) ?_
 refine LoadT.sc (s:=.sl) (x:=sq) (cqb hV.cq) ?_
 refine Br.dec (fun hlt=>?_) (fun hge=>?_)
 ·have hlt:(i:Int) < ((sq.n:Nat):Int):=hlt
  have hlt':i < q.length:=by rw [hsn] at hlt; omega
  have hVd:=hV.nil (Chg.drew V)
  obtain ⟨⟨s,t⟩,hst⟩:∃ p,q[i]? = some p:=⟨_,List.getElem?_eq_getElem hlt'⟩
  obtain ⟨hsl,htl⟩:=hPI.lt _ (List.mem_of_getElem? hst)
  dsimp only at hsl htl
  have hpair:∀ {q:List (Nat × Nat)},q[i]? = some (s,t) → (q.map ofP)[i]? = some ((s:Int),(t:Int),()):=fun h=>by rw [List.getElem?_map,h]; rfl
  refine LoadT.mk tA (x:=(x1,x2,sa,sn,())) (fun j v hv=>by rw [show at0 b1 = Addr.mk b1 0 none from rfl,cellOf (hVd.cells _ (List.mem_cons_of_mem _ m1)),← hav]; simpa [Ty.cells] using hv) ?_
  refine LoadT.sc (s:=.sl) (x:=sq) (cqb hVd.cq) ?_
  refine LoadT.sc (s:=.int .i64) (x:=(i:Int)) (cci (hVd.cells _ (List.mem_cons_self))) ?_
  refine hVd.own.rd.idx (t:=tP) i rfl (hpair hst) fun ad had=>?_
  refine Idx.mk 0 rfl (by decide) ?_
  refine LoadT.sc (s:=.int .i64) (x:=(s:Int)) (by have:=had 0 _ rfl; rw [Fw.add0] at this; rw [Nat.zero_mul,Fw.add0]; exact this) ?_
  refine Ret.call (edges_ret (v0:=x1) (v1:=x2) (sa:=sa) (sn:=sn) (s:Int)) ?_
  rintro _ V3 ⟨q1,q3,rfl,hq1,hq3,hc23,hB1,hB3⟩
  have hq1:V3.heap[q1]? = some (.cells av 27 (0,0)):=by rw [← hav]; exact hq1
  have hV3:=hVd.nil hc23
  have hV3':=(hV3.add hVd hq3 hB3)
  have hV4:Ix w6 V3 rs fb st M1 b20 b28 sq q q ((q1,av,27) :: (q3,#[.int .i64 (s:Int)],3) :: (ci,#[.int .i64 (i:Int)],3) :: cs0):=by
   have h1:=hV3.add hVd hq1 hB1
   refine { hV3' with cells:=fun p hp=>?_,ap:=fun k hk=>⟨(hV3'.ap k hk).1,(hV3'.ap k hk).2.1,fun p hp=>?_⟩,sep:=fun k hk=>⟨(hV3'.sep k hk).1,fun p hp=>?_⟩,qn:=fun p hp=>?_ }
   ·rcases List.mem_cons.1 hp with rfl | hp
    ·exact hq1
    ·exact hV3'.cells p hp
   ·rcases List.mem_cons.1 hp with rfl | hp
    ·exact (h1.ap k hk).2.2 _ List.mem_cons_self
    ·exact (hV3'.ap k hk).2.2 p hp
   ·rcases List.mem_cons.1 hp with rfl | hp
    ·exact (h1.sep k hk).2 _ List.mem_cons_self
    ·exact (hV3'.sep k hk).2 p hp
   ·rcases List.mem_cons.1 hp with rfl | hp
    ·exact h1.qn _ List.mem_cons_self
    ·exact hV3'.qn p hp
  obtain ⟨rowA,hrA⟩:∃ r,a.next[s]? = some r:=⟨_,List.getElem?_eq_getElem hsl⟩
  obtain ⟨rowB,hrB⟩:∃ r,b.next[t]? = some r:=⟨_,List.getElem?_eq_getElem htl⟩
  obtain ⟨rslA,hrsA⟩:∃ r,slsA[s]? = some r:=⟨_,List.getElem?_eq_getElem (by rw [hslA]; exact hsl)⟩
  obtain ⟨rslB,hrsB⟩:∃ r,slsB[t]? = some r:=⟨_,List.getElem?_eq_getElem (by rw [hslB]; exact htl)⟩
  have hrrA:=hrwsA s rslA rowA hrsA hrA
  have hrrB:=hrwsB t rslB rowB hrsB hrB
  obtain ⟨hrlA,_⟩:=hrowsA rowA (List.mem_of_getElem? hrA)
  obtain ⟨hrlB,hrvB⟩:=hrowsB rowB (List.mem_of_getElem? hrB)
  have hsz3:w6.heap.size ≤ V3.heap.size:=hV4.chg.size
  have hsz0:w.heap.size ≤ w6.heap.size:=hc06.size
  refine ⟨edgesFrom 0 rowA,_,fun n U=>∃ (st3:St) (M3:Mem) (q3':List (Nat × Nat)) (sq3:Sl) (E3:List Edg),Ix w6 U rs fb st3 M3 b20 b28 sq3 q3' q3' ((q1,av,27) :: (q3,#[.int .i64 (s:Int)],3) :: (ci,#[.int .i64 (i:Int)],3) :: cs0) ∧
    Pl.Inv E3 st3 ∧ Both E3 ∧ st3.m = 2 * nk ∧ st3.par.length = q3'.length ∧ q3'[i]? = some (s,t) ∧ PI (nk:Int) a b q3' E3 i ∧
    ∀ (ex et:Nat) (t':Nat),((ex:Int),(et:Int),()) ∈ (edgesFrom 0 rowA).take n → Dl (nk:Int) b t ex t' → ∃ v:Nat,q3'[v]? = some (et,t') ∧ (i,ex,v) ∈ E3,
   fun c U=>False,edges_gives (q0:=at0 q1) (q1:=at0 q3) (sn:=sn) (rsl:=rslA) (sls:=slsA) (s:=s) (row:=rowA) (by omega),?_,?_,?_,?_,?_,?_,?_⟩
  ·rintro n U ⟨st3,M3,q3',sq3,E3,hU,_⟩
   have hN:=hc06.then hU.chg
   exact ⟨by rw [cellOf (hU.cells _ List.mem_cons_self),← hav]; rfl,by rw [cellOf0 (hU.cells _ (List.mem_cons_of_mem _ List.mem_cons_self))]; rfl,hrnA.chg hN (fun _ _ h=>h),hrsA,hrrA.chg hN (fun _ _ h=>h)⟩
  ·rintro n U U' ⟨st3,M3,q3',sq3,E3,hU,hrest⟩ ht
   exact ⟨st3,M3,q3',sq3,E3,hU.turn ht hsz3,hrest⟩
  ·rintro c U U' hf ht
   exact hf
  ·exact ⟨st,M1,q,sq,E,hV4,hI,hB,hm,hpl,hst,hPI,fun ex et t' h=>by simp at h⟩
  ·rintro n ⟨ex,et,eu⟩ U hx ⟨st3,M3,q3',sq3,E3,hU,hI3,hB3',hm3,hp3,hst3,hPI3,hcmp⟩
   obtain ⟨nx,nt,rfl,rfl,hdl⟩:=in_edge hca hrA (List.mem_of_getElem? hx)
   have htake:(edgesFrom 0 rowA).take (n + 1) = (edgesFrom 0 rowA).take n ++ [((nx:Int),(nt:Int),eu)]:=by rw [List.take_add_one,hx]; rfl
   have hq3l:q3'.length ≤ 400:=pairs_len hPI3.nodup fun p hp=>by have:=hPI3.lt p hp; omega
   have hsn3:sq3.n = q3'.length:=by have:=hU.own.len; simpa using this
   have hUd:=hU.nil (Chg.drew U)
   have hN:=hc06.then hUd.chg
   have mci:(ci,#[.int .i64 (i:Int)],3) ∈ (q1,av,27) :: (q3,#[.int .i64 (s:Int)],3) :: (ci,#[.int .i64 (i:Int)],3) :: cs0:=by simp
   have mc0:∀ {p},p ∈ cs0 → p ∈ (q1,av,27) :: (q3,#[.int .i64 (s:Int)],3) :: (ci,#[.int .i64 (i:Int)],3) :: cs0:=fun h=>by simp [h]
   have hnxl:nx < rowB.length:=by have:=hdl.2.1; omega
   have hxv:rowB[nx]? = some rowB[nx]:=List.getElem?_eq_getElem hnxl
   have hgB:getN b.next t nx = rowB[nx]:=by
    unfold getN
    rw [List.getD_eq_getElem?_getD (l:=b.next),hrB]
    show rowB.getD nx 0 = _
    rw [List.getD_eq_getElem?_getD,hxv]; rfl
   have hvb:=hrvB _ (List.getElem_mem hnxl)
   refine LoadT.sc (s:=.sl) (x:=tn) (by rw [show at0 b3 = Addr.mk b3 0 none from rfl,cellOf (hUd.cells _ (mc0 m3)),← hbv]; rfl) ?_
   refine LoadT.sc (s:=.sl) (x:=sq3) (cqb hUd.cq) ?_
   refine LoadT.sc (s:=.int .i64) (x:=(i:Int)) (cci (hUd.cells _ mci)) ?_
   refine hUd.own.rd.idx (t:=tP) i rfl (hpair hst3) fun ad had=>?_
   refine Idx.mk 1 rfl (by decide) ?_
   refine LoadT.sc (s:=.int .i64) (x:=(t:Int)) (had 1 _ rfl) ?_
   refine (hrnB.chg (S:=Nil) hN fun _ _ h=>h).get (t:=.sc .sl) t rfl hrsB ?_
   refine (hrrB.chg (S:=Nil) hN fun _ _ h=>h).get (t:=tI) nx rfl hxv ?_
   refine Br.dec (fun hneg=>?_) (fun hpos=>?_)
   ·have hneg:rowB[nx] < 0:=hneg
    refine ⟨fun k o hk _=>hk,st3,M3,q3',sq3,E3,hUd,hI3,hB3',hm3,hp3,hst3,hPI3,fun ex et t' hmem hd=>?_⟩
    rw [htake] at hmem
    rcases List.mem_append.1 hmem with hmem | hmem
    ·exact hcmp ex et t' hmem hd
    ·simp only [List.mem_singleton,Prod.mk.injEq] at hmem
     have:ex = nx:=by omega
     subst this
     have:=hd.2.2
     omega
   have hpos:¬ rowB[nx] < 0:=hpos
   obtain ⟨nb,hnb⟩:=Int.eq_ofNat_of_zero_le (show 0 ≤ rowB[nx] by omega)
   have hdb:Dl (nk:Int) b t nx nb:=⟨htl,hdl.2.1,by rw [hgB,hnb]⟩
   have hdet:∀ t',Dl (nk:Int) b t nx t' → t' = nb:=fun t' h=>hAb.det _ _ _ _ h hdb
   have hbnd:nt < a.next.length ∧ nb < b.next.length:=⟨(edge_bas hk.2 hca hdl.1 hdl.2.1 hdl.2.2).1,(edge_bas hk.2 hcb hdb.1 hdb.2.1 hdb.2.2).1⟩
   rw [hnb]
   refine New.mk fun b74 U1 hb74 hn74 hs74 hc74=>?_
   refine StoreN.whole (vs:=[.int .i64 (nt:Int),.int .i64 (nb:Int)]) hn74 rfl fun U2 hh74 hc74' _=>?_
   have hNU2:Chg Nil U.drew U2:=hc74.trans hc74' (fun _ _ h=>h) fun i hi he=>by have he:i = b74:=he; omega
   have hU2:=hUd.nil hNU2
   have hU2':Ix w6 U2 rs fb st3 M3 b20 b28 sq3 q3' q3' ((b74,#[.int .i64 (nt:Int),.int .i64 (nb:Int)],96) :: (q1,av,27) :: (q3,#[.int .i64 (s:Int)],3) :: (ci,#[.int .i64 (i:Int)],3) :: cs0):=hU2.add hUd hh74 (by omega)
   have ms:∀ {p},p ∈ (q1,av,27) :: (q3,#[.int .i64 (s:Int)],3) :: (ci,#[.int .i64 (i:Int)],3) :: cs0 → p ∈ (b74,#[.int .i64 (nt:Int),.int .i64 (nb:Int)],96) :: (q1,av,27) :: (q3,#[.int .i64 (s:Int)],3) :: (ci,#[.int .i64 (i:Int)],3) :: cs0:=fun h=>List.mem_cons_of_mem _ h
   refine LoadT.sc (s:=.map) (x:=some b20) (c23 (hU2.cells _ (mc0 m23))) ?_
   refine LoadT.mk tP (x:=((nt:Int),(nb:Int),())) (fun j v hv=>by rw [cellOf hh74]; simpa [Ty.cells] using hv) ?_
   -- behind the choice of the state
   have hmul:∀ {st':St},st'.m = 2 * nk → st'.par.length ≤ 401 → st'.par.length * (st'.m + 1) + 2 + st'.m < big:=fun {st'} h1 h2=>by
    have:=Nat.mul_le_mul h2 (show st'.m + 1 ≤ 17 by omega)
    unfold big; omega
   have fin:∀ (st4:St) (M4:Mem) (q4:List (Nat × Nat)) (sq4:Sl) (j:Nat) (U3:World),Ix w6 U3 rs fb st4 M4 b20 b28 sq4 q4 q4 ((q1,av,27) :: (q3,#[.int .i64 (s:Int)],3) :: (ci,#[.int .i64 (i:Int)],3) :: cs0) → KeepL U U3 → Pl.Inv E3 st4 → st4.m = 2 * nk → st4.par.length = q4.length →
     q4[j]? = some (nt,nb) → q4[i]? = some (s,t) → (∀ (u:Nat) p,q3'[u]? = some p → q4[u]? = some p) → q4.Nodup → (∀ p ∈ q4,p.1 < a.next.length ∧ p.2 < b.next.length) → q4.length ≤ 400 →
     LoadT (.sc .ptr) U3 (at0 b34) fun x102=>LoadT (.sc (.int .i64)) U3 (at0 ci) fun x103=>CallN Tryd.prog 67 #[(.pointer x102),(.int .i64 x103),(.int .i64 (nx:Int)),(.int .i64 (j:Int))] [] U3 (fun r104 w105=>KeepL U w105 ∧ ∃ (st3:St) (M3:Mem) (q3':List (Nat × Nat)) (sq3:Sl) (E3:List Edg),Ix w6 w105 rs fb st3 M3 b20 b28 sq3 q3' q3' ((q1,av,27) :: (q3,#[.int .i64 (s:Int)],3) :: (ci,#[.int .i64 (i:Int)],3) :: cs0) ∧
      Pl.Inv E3 st3 ∧ Both E3 ∧ st3.m = 2 * nk ∧ st3.par.length = q3'.length ∧ q3'[i]? = some (s,t) ∧ PI (nk:Int) a b q3' E3 i ∧
      ∀ (ex et:Nat) (t':Nat),((ex:Int),(et:Int),()) ∈ (edgesFrom 0 rowA).take (n + 1) → Dl (nk:Int) b t ex t' → ∃ v:Nat,q3'[v]? = some (et,t') ∧ (i,ex,v) ∈ E3) (fun h106 w105=>False):=by
    intro st4 M4 q4 sq4 j U3 hU3 hkeep hI4 hm4 hp4 hj hi4 hext hnd4 hlt4 hq4l
    refine LoadT.sc (s:=.ptr) (x:=some (at0 fb)) (c34 (hU3.cells _ (mc0 m34))) ?_
    refine LoadT.sc (s:=.int .i64) (x:=(i:Int)) (cci (hU3.cells _ mci)) ?_
    have hxm:nx < st4.m:=by rw [hm4]; have:=hdl.2.1; omega
    have hil:i < q4.length:=(List.getElem?_eq_some_iff.1 hi4).1
    have hjl:j < q4.length:=(List.getElem?_eq_some_iff.1 hj).1
    obtain ⟨st5,⟨K,hl5⟩,hI5,hm5,hp5⟩:=link_ev hI4 (s:=i) (t:=j) (by omega) (by omega) hxm (by rw [hm4] at hxm ⊢; exact Pl.xor_lt (by omega) hxm) (hmul hm4 (by omega))
    refine RetN.call (link_ret hU3.rep (hl5 K (Nat.le_refl _))) fun _ U4 hs5=>?_
    have hst5:=hs5.step
    have hk4:=Rep.keepL hU3.rep hst5.chg
    obtain ⟨M5,hU4⟩:=hU3.step hst5
    refine ⟨fun z o hz ho=>hk4 z o (hkeep z o hz ho) ho,st5,M5,q4,sq4,_,hU4,hI5,Both.app (Both.pair _ _ _) hB3',by rw [hm5,hm4],by rw [hp5,hp4],hi4,?_,?_⟩
    ·refine ⟨hnd4,hext 0 _ hPI3.first,hlt4,fun u y v hmem=>?_,fun u s0 t0 y s' t' hu hq0 h1 h2=>?_⟩
     ·simp only [List.mem_cons,Prod.mk.injEq,List.append_eq,List.cons_append,List.nil_append] at hmem
      rcases hmem with ⟨rfl,rfl,rfl⟩ | ⟨rfl,rfl,rfl⟩ | hmem
      ·exact ⟨s,t,nt,nb,hi4,hj,hdl,hdb⟩
      ·exact ⟨nt,nb,s,t,hj,hi4,hAa.inv _ _ _ hdl,hAb.inv _ _ _ hdb⟩
      ·obtain ⟨c1,c2,c3,c4,c5,c6,c7⟩:=hPI3.snd u y v hmem
       exact ⟨c1,c2,c3,c4,hext _ _ c5,hext _ _ c6,c7⟩
     ·have hu3:u < q3'.length:=by have:=(List.getElem?_eq_some_iff.1 hst3).1; omega
      have e1:q3'[u]? = some q3'[u]:=List.getElem?_eq_getElem hu3
      have e2:=hext u _ e1
      rw [hq0] at e2
      rw [← e2] at e1
      obtain ⟨v,v1,v2⟩:=hPI3.cmp u s0 t0 y s' t' hu e1 h1 h2
      exact ⟨v,hext _ _ v1,by simp [v2]⟩
    ·intro ex et t' hmem hd
     rw [htake] at hmem
     rcases List.mem_append.1 hmem with hmem | hmem
     ·obtain ⟨v,v1,v2⟩:=hcmp ex et t' hmem hd
      exact ⟨v,hext _ _ v1,by simp [v2]⟩
     ·simp only [List.mem_singleton,Prod.mk.injEq] at hmem
      have e1:ex = nx:=by omega
      have e2:et = nt:=by omega
      subst e1 e2
      rw [hdet t' hd]
      exact ⟨j,hj,by simp⟩
   have hkU2:KeepL U U2:=fun z o hz ho=>hNU2.heap (w:=U.drew) hz fun h=>h
   by_cases hin:(nt,nb) ∈ q3'
   ·refine ⟨((((qk q3').idxOf ((nt:Int),(nb:Int)):Nat):Int),true,()),U2,lookup_num_in (qk_nodup hPI3.nodup) hU2.map (qk_mem.2 hin),?_⟩
    refine Join.by' (fun z W=>z = (at0 b34,at0 ci,(nx:Int),(((qk q3').idxOf ((nt:Int),(nb:Int)):Nat):Int),()) ∧ W = U2) ?_ ?_
    ·rintro z W g ⟨rfl,hW⟩
     rw [hW]; clear hW
     exact fin st3 M3 q3' sq3 _ U2 hU2 hkU2 hI3 hm3 hp3 (qk_idx hin) hst3 (fun _ _ h=>h) hPI3.nodup hPI3.lt hq3l
    ·intro J hJ
     exact Br.f rfl (hJ _ _ ⟨rfl,rfl⟩)
   ·have hnk:((nt:Int),(nb:Int)) ∉ qk q3':=fun h=>hin (qk_mem.1 h)
    refine ⟨((0:Int),false,()),U2,lookup_num_out hU2.map hnk,?_⟩
    have hnd4:(q3' ++ [(nt,nb)]).Nodup:=List.nodup_append.2 ⟨hPI3.nodup,by simp,fun x hx y hy he=>by simp only [List.mem_singleton] at hy; subst hy; subst he; exact hin hx⟩
    have hlt4:∀ p ∈ q3' ++ [(nt,nb)],p.1 < a.next.length ∧ p.2 < b.next.length:=fun p hp=>by
     rcases List.mem_append.1 hp with hp | hp
     ·exact hPI3.lt p hp
     ·simp only [List.mem_singleton] at hp; subst hp; exact hbnd
    have hq4l:(q3' ++ [(nt,nb)]).length ≤ 400:=pairs_len hnd4 fun p hp=>by have:=hlt4 p hp; omega
    refine Join.by' (fun z W=>∃ (st4:St) (M4:Mem) (sq4:Sl),z = (at0 b34,at0 ci,(nx:Int),((q3'.length:Nat):Int),()) ∧ Ix w6 W rs fb st4 M4 b20 b28 sq4 (q3' ++ [(nt,nb)]) (q3' ++ [(nt,nb)]) ((q1,av,27) :: (q3,#[.int .i64 (s:Int)],3) :: (ci,#[.int .i64 (i:Int)],3) :: cs0) ∧ KeepL U W ∧
      Pl.Inv E3 st4 ∧ st4.m = 2 * nk ∧ st4.par.length = q3'.length + 1) ?_ ?_
    ·rintro z W g ⟨st4,M4,sq4,rfl,hW,hkW,hI4,hm4,hp4⟩
     exact fin st4 M4 _ sq4 q3'.length W hW hkW hI4 hm4 (by rw [hp4]; simp) (by simp) (get_app hst3) (fun _ _ h=>get_app h) hnd4 hlt4 hq4l
    ·intro J hJ
     refine Br.t rfl ?_
     refine LoadT.sc (s:=.ptr) (x:=some (at0 fb)) (c34 (hU2.cells _ (mc0 m34))) ?_
     obtain ⟨st4,hs4,hI4,hm4,hp4⟩:=state_ev hI3 (by unfold big; omega)
     refine Ret.call (state_ret hU2'.rep hs4) ?_
     rintro _ U3 ⟨rfl,hst4⟩
     have hk3:=Rep.keepL hU2'.rep hst4.chg
     obtain ⟨M4,hU3⟩:=hU2'.step hst4
     refine LoadT.sc (s:=.map) (x:=some b20) (c23 (hU3.cells _ (ms (mc0 m23)))) ?_
     refine LoadT.mk tP (x:=((nt:Int),(nb:Int),())) (fun j v hv=>by rw [cellOf (hU3.cells _ List.mem_cons_self)]; simpa [Ty.cells] using hv) ?_
     obtain ⟨U4,hrun4,hm4',hc4⟩:=updateP_new under91 hU3.map (t:=((nt:Int),(nb:Int))) (numL_new hnk) (.int .i64 ((st3.par.length:Nat):Int))
     have hkl:(qk q3').length = st3.par.length:=by rw [hp3]; unfold qk; simp
     rw [← hkl,numL_append] at hm4'
     have hqa:qk q3' ++ [((nt:Int),(nb:Int))] = qk (q3' ++ [(nt,nb)]):=by unfold qk; simp
     rw [hqa] at hm4'
     refine ⟨U4,hrun4,?_⟩
     have hU4:=hU3.mapTo hc4 hm4'
     refine LoadT.sc (s:=.sl) (x:=sq3) (cqb hU4.cq) ?_
     refine LoadT.mk tP (x:=((nt:Int),(nb:Int),())) (fun j v hv=>by rw [cellOf (hU4.cells _ List.mem_cons_self)]; simpa [Ty.cells] using hv) ?_
     refine New.mk fun b93 U5 hb93 hn93 _ hc93=>?_
     have hU5:=hU4.nil hc93
     have hml:(q3'.map ofP).length = q3'.length:=List.length_map ..
     refine OwnT.append (t:=tP) (m:=1) ok106 rfl (by decide) hU5.own [((nt:Int),(nb:Int),())] rfl (by decide) (fun i v hv=>by rw [cellOf hn93]; simpa [Ty.cells] using hv) (by rw [hml]; omega) (by rw [hml]; simp only [maxLen]; omega) fun sq4 U6 ho6 hc6 hown6=>?_
     have hqb6:=hc6.heap hU5.cq fun hk=>(hU5.sep _ hk).1 rfl
     refine Store1.at0' hqb6 (by show 0 < 1; decide) rfl fun U7 hqb7 hc7 _=>?_
     have ho6':OwnT U6 96 tP sq4 ((q3' ++ [(nt,nb)]).map ofP):=by rw [List.map_append]; exact ho6
     have hU7:=hU5.push ho6' hc6 hown6 hc7 hqb7
     have hsn4:sq4.n = q3'.length + 1:=by have:=ho6.len; simpa using this
     refine LoadT.sc (s:=.sl) (x:=sq4) (cqb hU7.cq) ?_
     refine Br.no (by rw [hsn4]; omega) ?_
     have hk7:KeepL U U7:=by
      intro z o hz ho
      have g3:=hk3 z o (hkU2 z o hz ho) ho
      have nm:¬ z = b20:=fun he=>by
       obtain ⟨es,cl,hmm,_⟩:=hU3.map
       rw [he,hmm] at g3; cases g3; cases ho
      have g5:=hc93.heap (hc4.heap g3 nm) fun h=>h
      have g6:=hc6.heap g5 fun hk=>by
       obtain ⟨c,hcc⟩:=hU5.own.elem hk
       rw [hcc] at g5; cases g5; cases ho
      exact hc7.heap g6 fun he=>by
       have he:z = b28:=he
       rw [he,hqb6] at g6; cases g6; cases ho
     refine hJ _ _ ⟨st4,M4,sq4,?_,hU7.sub fun p hp=>ms hp,hk7,hI4,by rw [hm4,hm3],by rw [hp4,hp3]⟩
     rw [hp3]
  ·rintro d U hd hlo ⟨st3,M3,q3',sq3,E3,hU,hI3,hB3',hm3,hp3,hst3,hPI3,hcmp⟩
   have hnr:d ∉ rs:=fun hr=>by have:=lt_of_heap (hV4.mks.2 d hr); omega
   have hq3l:q3'.length ≤ 400:=pairs_len hPI3.nodup fun p hp=>by have:=hPI3.lt p hp; omega
   have mci:(ci,#[.int .i64 (i:Int)],3) ∈ (q1,av,27) :: (q3,#[.int .i64 (s:Int)],3) :: (ci,#[.int .i64 (i:Int)],3) :: cs0:=by simp
   have hUm:=hU.mark hd (by omega) hnr
   refine LoadT.sc (s:=.int .i64) (x:=(i:Int)) (cci (hU.cells _ mci)) ?_
   refine New.mk fun b108 U1 hb108 hn108 _ hc108=>?_
   refine Store1.at0' hn108 (by show 0 < 1; decide) rfl fun U2 hh108 hc108' _=>?_
   refine LoadT.sc (s:=.int .i64) (x:=(i:Int)) (by rw [cellOf0 hh108]; rfl) ?_
   have hil:i < q3'.length:=(List.getElem?_eq_some_iff.1 hst3).1
   rw [wrap64 (x:=(i:Int) + 1) (by omega) (by omega)]
   refine Store1.at0' hh108 (by show 0 < 1; decide) rfl fun U3 hh108' hc108'' _=>?_
   have hNU:Chg Nil U U3:=(hc108.trans hc108' (fun _ _ h=>h) fun i hi he=>by have he:i = b108:=he; omega).trans hc108'' (fun _ _ h=>h) fun i hi he=>by have he:i = b108:=he; omega
   have hU3:=hUm.nil hNU
   have hU4:=(hU3.add hUm hh108' (by omega)).sub (cs':=(b108,#[.int .i64 ((i + 1:Nat):Int)],3) :: cs0) fun p hp=>by
    rcases List.mem_cons.1 hp with rfl | hp
    ·simp
    ·simp [hp]
   refine ⟨⟨i + 1,d :: rs,st3,M3,q3',sq3,b108,E3,rfl,rfl,hU4,hI3,hB3',hm3,hp3,hil,⟨hPI3.nodup,hPI3.first,hPI3.lt,hPI3.snd,fun u s0 t0 y s' t' hu hq0 h1 h2=>?_⟩⟩,?_⟩
   ·by_cases hui:u < i
    ·exact hPI3.cmp u s0 t0 y s' t' hui hq0 h1 h2
    ·have:u = i:=by omega
     subst this
     rw [hst3] at hq0
     cases hq0
     refine hcmp y s' t' ?_ h2
     rw [List.take_length]
     exact edge_in hca h1 hrA
   ·rw [cellOf0 hh108',cci (hV.cells _ List.mem_cons_self)]
    show 401 - ((i:Int) + 1).toNat < 401 - ((i:Int)).toNat
    omega
  ·rintro c d U hd hlo hf
   exact hf.elim
 ·have hiq':i = q.length:=by have h:¬ (i:Int) < ((sq.n:Nat):Int):=hge; rw [hsn] at h; omega
  have h0q:0 < q.length:=(List.getElem?_eq_some_iff.1 hPI.first).1
  refine LoadT.sc (s:=.ptr) (x:=some (at0 fb)) (c34 (hV.cells _ (List.mem_cons_of_mem _ m34))) ?_
  refine RetN.call (made_lang (w0:=w6) (k:=nk) (v:=0) hV.rep hV.chg hV.foot hI hB (by omega) hm (by omega) (by omega)) ?_
  rintro ⟨⟨z1,z2,ua,un,_⟩,z3,_⟩ V1 ⟨o,hF,hN1,hcF,hAu,hz3⟩
  have h5V:=hN1.heap h56 fun h=>h
  have h7V:=hN1.heap h76 fun h=>h
  refine StoreN.whole (vs:=[.int .i64 z1,.int .i64 z2,ua.v,un.v]) h5V rfl fun V2 hh5' hc5' _=>?_
  have h7V2:=hc5'.heap h7V fun he=>by have he:b7 = b5:=he; omega
  refine Store1.at0' h7V2 (by show 0 < 1; decide) rfl fun V3 hh7' hc7' _=>?_
  have h5V3:=hc7'.heap hh5' fun he=>by have he:b5 = b7:=he; omega
  have hmk1:Marks V1 rs:=hV.mks.chg hcF fun r hr hk=>by
   obtain ⟨c,e,hcc,_⟩:=Rep.foot_cells hV.rep hk
   have:=hV.mks.2 r hr
   rw [hcc] at this; cases this
  have hmk3:Marks V3 rs:=(hmk1.chg hc5' fun r hr he=>by
   have he:r = b5:=he
   have:=hmk1.2 r hr
   rw [he,h5V] at this; cases this).chg hc7' fun r hr he=>by
   have he:r = b7:=he
   have:=hmk1.2 r hr
   rw [he,h7V] at this; cases this
  refine retM_marks rs V3 hmk3 fun V4 hc4=>?_
  have h5V4:=hc4.heap h5V3 fun hr=>by have:=hmk3.2 _ hr; rw [h5V3] at this; cases this
  have h7V4:=hc4.heap hh7' fun hr=>by have:=hmk3.2 _ hr; rw [hh7'] at this; cases this
  refine LoadT.mk tA (x:=(z1,z2,ua,un,())) (fun j v hv=>by rw [show at0 b5 = Addr.mk b5 0 none from rfl,cellOf h5V4]; simpa [Ty.cells] using hv) ?_
  refine LoadT.sc (s:=.int .i64) (x:=z3) (by rw [show at0 b7 = Addr.mk b7 0 none from rfl,cellOf0 h7V4]; rfl) ?_
  have hP:Prd (nk:Int) a b q:=⟨hPI.nodup,hPI.first,hPI.lt,fun u s t y s' t' h1 h2 h3=>by
   obtain ⟨v,v1,_⟩:=hPI.cmp u s t y s' t' (by rw [hiq']; exact (List.getElem?_eq_some_iff.1 h1).1) h1 h2 h3
   exact ⟨v,v1⟩⟩
  have hFD:FoldedD nk (prodD (nk:Int) a b q) 0 o:=foldedD_iff hF fun u y v=>by
   show (u,y,v) ∈ E ↔ _
   refine ⟨hPI.snd u y v,?_⟩
   rintro ⟨s,t,s',t',h1,h2,h3,h4⟩
   obtain ⟨v',v1,v2⟩:=hPI.cmp u s t y s' t' (by rw [hiq']; exact (List.getElem?_eq_some_iff.1 h1).1) h1 h3 h4
   have hv:v' = v:=by
    exact (List.getElem?_inj (List.getElem?_eq_some_iff.1 v1).1 hPI.nodup).1 (v1.trans h2.symm)
   rw [← hv]; exact v2
  have hres:=IntIs.ok (k:=(nk:Int)) hz hP hFD
  have hS:Chg (fun k=>k = b5 ∨ k = b7 ∨ k ∈ rs) V1 V4:=((hc5'.mono fun _ _ h=>.inl h).then (hc7'.mono fun _ _ h=>.inr (.inl h))).then (hc4.mono fun _ _ h=>.inr (.inr h))
  refine ⟨((z1,z2,ua,un,()),z3,()),rfl,_,hres,?_,hAu V4 _ hS fun r hr=>?_,hz3⟩
  ·refine (hc06.then hN1).trans hS (fun _ _ h=>h) fun j hj hr=>?_
   rcases hr with hr | hr | hr
   ·omega
   ·omega
   ·have:=hV.mB j hr; have:=hc06.size; omega
  ·have:=hV.chg.size
   rcases hr with hr | hr | hr
   ·omega
   ·omega
   ·exact lt_of_heap (hV.mks.2 r hr)
end Go.Proofs.YtffdjfkekdoeaaaDoor.Fo
end
section
set_option maxRecDepth 10000
namespace Go.Proofs.YtffdjfkekdoeaaaDoor
open Fw
noncomputable def cayleyref21_shifted.ann:Ann where
 loops:=fun | 3=>[(1,.sc (.int .i64)),(2,.sc .adr),(5,.sc .sl),(6,.sc (.int .i64))] | _=>[]
 joins:=fun | 8=>some [(1,.sc (.int .i64)),(2,.sc .adr),(5,.sc .sl),(6,.sc (.int .i64)),(7,.sc .adr)] | 10=>some [(1,.sc (.int .i64)),(2,.sc .adr),(5,.sc .sl),(6,.sc (.int .i64)),(7,.sc .adr)] | _=>none
noncomputable def cayleyref21_shifted.body:Code:=match Tryd.f72.body with | some c=>c | none=>.skip
def cayleyref21_shifted.sh (p0_0:Int) (p0_1:Int) (p0_2:Sl) (p1:Int) (R:Ending → World → Prop) (w:World):Prop:=
 New w (.cells #[(.int .i64 p0_0),(.int .i64 p0_1),(.slice p0_2.a p0_2.n p0_2.c)] 54) fun b1 w2=>
 New w2 (.cells #[] 100) fun b3 w4=>
 LoopT (σ:=Int × Addr × Sl × Int × Unit) (p1,(Addr.mk b1 0 none),⟨(some (Addr.mk b3 0 none)),0,0⟩,0,()) w4 fun l5 g6 w7 I8=>
  LoadT (.sc .sl) w7 (l5.2.1.add 2) fun x9=>
  Br (decide ((l5.2.2.2.1:Int) < ((x9.n:Nat):Int)))
   (LoadT (.sc .sl) w7 (l5.2.1.add 2) fun x10=>
   Idx x10.a x10.n 3 l5.2.2.2.1 fun a11=>
   LoadT (.agg [.int .i64,.int .i64,.int .i64]) w7 a11 fun x12=>
   New w7 (.cells #[(.int .i64 0),(.int .i64 0),(.int .i64 0)] 100) fun b13 w14=>
   StoreN w14 (Addr.mk b13 0 none) [(.int .i64 x12.1),(.int .i64 x12.2.1),(.int .i64 x12.2.2.1)] fun w15=>
   Join (σ:=Int × Addr × Sl × Int × Addr × Unit) (fun j18 g17 w22=>
    Join (σ:=Int × Addr × Sl × Int × Addr × Unit) (fun j25 g24 w29=>
     LoadT (.agg [.int .i64,.int .i64,.int .i64]) w29 j25.2.2.2.2.1 fun x30=>
     New w29 (.cells #[(.int .i64 x30.1),(.int .i64 x30.2.1),(.int .i64 x30.2.2.1)] 100) fun b31 w32=>
     RunT Tryd.prog (.sc .sl) (Builtin.append_ #[52,52] 52 #[(.slice j25.2.2.1.a j25.2.2.1.n j25.2.2.1.c),(.slice (some (Addr.mk b31 0 none)) 1 1)]) w32 fun r33 w34=>
     I8 (j25.1,j25.2.1,r33,(IntKind.wrap .i64 (j25.2.2.2.1 + 1)),()) w34) fun J23=>
     LoadT (.sc (.int .i64)) w22 (j18.2.2.2.2.1.add 2) fun x26=>
     Br (decide ((x26:Int) > 0))
      (LoadT (.sc (.int .i64)) w22 (j18.2.2.2.2.1.add 2) fun x27=>
      Store1 w22 (j18.2.2.2.2.1.add 2) (.int .i64 (IntKind.wrap .i64 (x27 + j18.1))) fun w28=>
      J23 (j18.1,j18.2.1,j18.2.2.1,j18.2.2.2.1,j18.2.2.2.2.1,()) w28)
      (J23 (j18.1,j18.2.1,j18.2.2.1,j18.2.2.2.1,j18.2.2.2.2.1,()) w22)) fun J16=>
    LoadT (.sc (.int .i64)) w15 ((Addr.mk b13 0 none).add 0) fun x19=>
    Br (decide ((x19:Int) > 0))
     (LoadT (.sc (.int .i64)) w15 ((Addr.mk b13 0 none).add 0) fun x20=>
     Store1 w15 ((Addr.mk b13 0 none).add 0) (.int .i64 (IntKind.wrap .i64 (x20 + l5.1))) fun w21=>
     J16 (l5.1,l5.2.1,l5.2.2.1,l5.2.2.2.1,(Addr.mk b13 0 none),()) w21)
     (J16 (l5.1,l5.2.1,l5.2.2.1,l5.2.2.2.1,(Addr.mk b13 0 none),()) w15))
   (R (.returned (.slice l5.2.2.1.a l5.2.2.1.n l5.2.2.1.c)) w7)
theorem cayleyref21_shifted.calls (p0_0:Int) (p0_1:Int) (p0_2:Sl) (p1:Int) {R:Ending → World → Prop} {w:World} (h:cayleyref21_shifted.sh p0_0 p0_1 p0_2 p1 R w):Calls Tryd.prog 72 #[(.agg #[(.int .i64 p0_0),(.int .i64 p0_1),(.slice p0_2.a p0_2.n p0_2.c)]),(.int .i64 p1)] w R:=calls_of_wpc mixed Tryd.func72 (by kernel_rfl) (by kernel_rfl) ((show _ = wpc Tryd.prog cayleyref21_shifted.ann cayleyref21_shifted.body (fnKs Tryd.prog Tryd.f72 R) [] (env0 #[(.agg #[(.int .i64 p0_0),(.int .i64 p0_1),(.slice p0_2.a p0_2.n p0_2.c)]),(.int .i64 p1)]) w by kernel_rfl).mp h)
noncomputable def cayleyref21_Join.ann:Ann where
 loops:=fun | _=>[]
 joins:=fun | _=>none
noncomputable def cayleyref21_Join.body:Code:=match Tryd.f36.body with | some c=>c | none=>.skip
def cayleyref21_Join.sh (p0:Int) (p1_0:Int) (p1_1:Int) (p1_2:Sl) (p1_3:Sl) (p2_0:Int) (p2_1:Int) (p2_2:Sl) (p2_3:Sl) (R:Ending → World → Prop) (w:World):Prop:=
 New w (.cells #[(.int .i64 p1_0),(.int .i64 p1_1),(.slice p1_2.a p1_2.n p1_2.c),(.slice p1_3.a p1_3.n p1_3.c)] 27) fun b1 w2=>
 New w2 (.cells #[(.int .i64 p2_0),(.int .i64 p2_1),(.slice p2_2.a p2_2.n p2_2.c),(.slice p2_3.a p2_3.n p2_3.c)] 27) fun b3 w4=>
 New w4 (.cells #[(.int .i64 0),(.int .i64 0),(.slice none 0 0),(.slice none 0 0)] 27) fun b5 w6=>
 LoadT (.agg [.int .i64,.int .i64,.sl,.sl]) w6 (Addr.mk b1 0 none) fun x7=>
 CallT Tryd.prog 27 #[(.int .i64 p0),(.agg #[(.int .i64 x7.1),(.int .i64 x7.2.1),(.slice x7.2.2.1.a x7.2.2.1.n x7.2.2.1.c),(.slice x7.2.2.2.1.a x7.2.2.2.1.n x7.2.2.2.1.c)])] (.agg [.int .i64,.int .i64,.sl]) w6 (fun r8 w9=>
  New w9 (.cells #[(.int .i64 0),(.int .i64 0),(.slice none 0 0)] 54) fun b11 w12=>
  StoreN w12 (Addr.mk b11 0 none) [(.int .i64 r8.1),(.int .i64 r8.2.1),(.slice r8.2.2.1.a r8.2.2.1.n r8.2.2.1.c)] fun w13=>
  ∃ S14:World → Prop,S14 w13.drew ∧
  (LoadS S14 (.sc .sl) ((Addr.mk b11 0 none).add 2) fun x15=>
  LoadS S14 (.agg [.int .i64,.int .i64,.sl,.sl]) (Addr.mk b3 0 none) fun x16=>
  LoadS S14 (.sc (.int .i64)) ((Addr.mk b11 0 none).add 1) fun x17=>
  CallT Tryd.prog 27 #[(.int .i64 p0),(.agg #[(.int .i64 x16.1),(.int .i64 x16.2.1),(.slice x16.2.2.1.a x16.2.2.1.n x16.2.2.1.c),(.slice x16.2.2.2.1.a x16.2.2.2.1.n x16.2.2.2.1.c)])] (.agg [.int .i64,.int .i64,.sl]) w13.drew (fun r18 w19=>
    S14 w19 ∧
    (CallT Tryd.prog 72 #[(.agg #[(.int .i64 r18.1),(.int .i64 r18.2.1),(.slice r18.2.2.1.a r18.2.2.1.n r18.2.2.1.c)]),(.int .i64 x17)] (.sc .sl) w19 (fun r21 w22=>
      S14 w22 ∧
      (RunT Tryd.prog (.sc .sl) (Builtin.append_ #[52,52] 52 #[(.slice x15.a x15.n x15.c),(.slice r21.a r21.n r21.c)]) w22 fun r24 w25=>
       S14 w25 ∧
       (Store1 w25 ((Addr.mk b11 0 none).add 2) (.slice r24.a r24.n r24.c) fun w26=>
        LoadT (.agg [.int .i64,.int .i64,.sl]) w26 (Addr.mk b11 0 none) fun x27=>
        CallT Tryd.prog 51 #[(.agg #[(.int .i64 x27.1),(.int .i64 x27.2.1),(.slice x27.2.2.1.a x27.2.2.1.n x27.2.2.1.c)])] (.agg [.int .i64,.int .i64,.sl,.sl]) w26 (fun r28 w29=>
         StoreN w29 (Addr.mk b5 0 none) [(.int .i64 r28.1),(.int .i64 r28.2.1),(.slice r28.2.2.1.a r28.2.2.1.n r28.2.2.1.c),(.slice r28.2.2.2.1.a r28.2.2.2.1.n r28.2.2.2.1.c)] fun w31=>
         LoadT (.agg [.int .i64,.int .i64,.sl,.sl]) w31 (Addr.mk b5 0 none) fun x32=>
         R (.returned (.agg #[(.int .i64 x32.1),(.int .i64 x32.2.1),(.slice x32.2.2.1.a x32.2.2.1.n x32.2.2.1.c),(.slice x32.2.2.2.1.a x32.2.2.2.1.n x32.2.2.2.1.c)])) w31) (fun h30 w29=>R (.panicked h30) w29)))) (fun h23 w22=>R (.panicked h23) w22))) (fun h20 w19=>R (.panicked h20) w19))) (fun h10 w9=>R (.panicked h10) w9)
theorem cayleyref21_Join.calls (p0:Int) (p1_0:Int) (p1_1:Int) (p1_2:Sl) (p1_3:Sl) (p2_0:Int) (p2_1:Int) (p2_2:Sl) (p2_3:Sl) {R:Ending → World → Prop} {w:World} (h:cayleyref21_Join.sh p0 p1_0 p1_1 p1_2 p1_3 p2_0 p2_1 p2_2 p2_3 R w):Calls Tryd.prog 36 #[(.int .i64 p0),(.agg #[(.int .i64 p1_0),(.int .i64 p1_1),(.slice p1_2.a p1_2.n p1_2.c),(.slice p1_3.a p1_3.n p1_3.c)]),(.agg #[(.int .i64 p2_0),(.int .i64 p2_1),(.slice p2_2.a p2_2.n p2_2.c),(.slice p2_3.a p2_3.n p2_3.c)])] w R:=calls_of_wpc mixed Tryd.func36 (by kernel_rfl) (by kernel_rfl) ((show _ = wpc Tryd.prog cayleyref21_Join.ann cayleyref21_Join.body (fnKs Tryd.prog Tryd.f36 R) [] (env0 #[(.int .i64 p0),(.agg #[(.int .i64 p1_0),(.int .i64 p1_1),(.slice p1_2.a p1_2.n p1_2.c),(.slice p1_3.a p1_3.n p1_3.c)]),(.agg #[(.int .i64 p2_0),(.int .i64 p2_1),(.slice p2_2.a p2_2.n p2_2.c),(.slice p2_3.a p2_3.n p2_3.c)])]) w by kernel_rfl).mp h)
end Go.Proofs.YtffdjfkekdoeaaaDoor
end
section
set_option maxRecDepth 8000
set_option maxHeartbeats 4000000
namespace Go.Proofs.YtffdjfkekdoeaaaDoor.Fo
open Fw Wd Rf Pl
theorem OwnT.appendAny {P:Program} {w:World} {st ty e:TypeId} {t:Ty} {bytes:Nat} (ok:slOk P st e t.sz bytes = true) (ht:t.one = true) (hsz:0 < t.sz) {s:Sl} {xs:List t.den} (h:OwnT w e t s xs)
  {s2:Sl} {ys:List t.den} (h2:RdT w t s2 ys) (hs2:s2.a ≠ none)
  (hb:(xs.length + ys.length) * bytes ≤ 140737488355328) (h63:xs.length + ys.length ≤ maxLen) {K:Sl → World → Prop}
  (k:∀ s' w',OwnT w' e t s' (xs ++ ys) → Chg s.own w w' → (∀ i,s'.own i → s.own i ∨ w.heap.size ≤ i) → K s' w') :
  RunT P (.sc .sl) (Builtin.append_ #[st,st] ty #[s.v,s2.v]) w K:=by
 by_cases hs:s.a = none
 ·cases ys with
  | cons y l=>
   obtain ⟨b,hb2⟩:∃ b,s2.a = some b:=by cases hh:s2.a with | none=>exact absurd hh hs2 | some b=>exact ⟨b,rfl⟩
   have hv2:s2.v = .slice (some b) s2.n s2.c:=by simp only [Sl.v]; rw [hb2]
   rw [hv2]
   have hn2:=h2.len
   exact Fw.OwnT.append (t:=t) (m:=s2.n) ok ht hsz h (y :: l) hn2 (by rw [hn2]; simp) (RdT.flat h2 hb2) (by rw [hn2]; exact hb) (by rw [hn2]; exact h63) fun s' w' a1 a2 a3=>k s' w' a1 a2 a3
  | nil=>
   obtain ⟨b,hb2⟩:∃ b,s2.a = some b:=by cases hh:s2.a with | none=>exact absurd hh hs2 | some b=>exact ⟨b,rfl⟩
   have hv2:s2.v = .slice (some b) s2.n s2.c:=by simp only [Sl.v]; rw [hb2]
   have hn2:s2.n = 0:=h2.len
   rw [hv2,hn2]
   obtain ⟨i,z,h1,h2',h3,h4,h5,h6⟩:=slOk_spec ok
   rcases h.block with ⟨ha,hx⟩ | ⟨g,cur,ha,_⟩
   ·subst hx
    obtain ⟨v',w',hr,ho,hg,hnil⟩:=run_append_own (P:=P) w 0 st ty e i z t.sz i.bytes h1 h2' h5 h3 rfl h6 hsz s.v s.n [] h.row b 0 s2.c [] (by simp) (by simp) (by simp) (by
     have:=h.len; simp at this; rw [this]; exact Nat.zero_le _) (by have:=h.len; simp at this; rw [this]; simp) (Nat.zero_le _)
    have hv:s.v = .slice none 0 0:=by
     rcases h.row.2 with ⟨hv,_⟩ | ⟨g,cap,cur,hv,_⟩
     ·exact hv
     ·simp only [Sl.v,Value.slice.injEq] at hv; rw [hs] at hv; cases hv.1
    have hv':=hnil.2 ⟨hv,rfl⟩
    subst hv'
    refine ⟨⟨none,0,0⟩,w',hr,k _ _ (OwnT.nil _ _ _) (Chg.grown hg fun q hq=>?_) fun i hi=>?_⟩
    ·rw [hv] at hq; cases hq
    ·obtain ⟨a,had,_⟩:=hi; cases had
   ·rw [hs] at ha; cases ha
 ·exact OwnT.appendR ok ht hsz h hs h2 hs2 hb h63 fun s' w' a1 _ a2 a3=>k s' w' a1 a2 a3
def shF (b v:Nat):Nat:=if 0 < v then v + b else v
def shE (b:Nat) (e:Ed):Ed:=(shF b e.1,e.2.1,shF b e.2.2)
theorem shifted_ret {w:World} {g1 g2:Int} {s:Sl} {es:List Ed} (h:RdT w tE s (es.map ofE)) (hb:es.length ≤ 1000000) (hB:InB 1000000 es) {b:Nat} (hb2:b ≤ 1000000) :
  Ret Tryd.prog 72 #[.agg #[.int .i64 g1,.int .i64 g2,s.v],.int .i64 (b:Int)] (.sc .sl) w fun y w'=>OwnT w' 100 tE y ((es.map (shE b)).map ofE) ∧ y.a ≠ none ∧ Chg Nil w w' ∧ ∀ k,y.own k → w.heap.size ≤ k:=by
 refine cayleyref21_shifted.calls g1 g2 s (b:Int) ?_
 unfold cayleyref21_shifted.sh
 refine New.mk fun b1 w1 hb1 hh1 hs1 hc1=>?_
 refine New.mk fun b3 w2 hb3 hh3 hs3 hc3=>?_
 have hn:s.n = es.length:=by rw [h.len,List.length_map]
 have h12:=hc3.heap hh1 fun h=>h
 have hc02:=hc1.then hc3
 have z1:=hc1.size
 refine LoopT.mk (fun y W=>∃ (i:Nat) (so:Sl),i ≤ es.length ∧ y = ((b:Int),at0 b1,so,(i:Int),()) ∧ Chg Nil w W ∧ W.heap[b1]? = some (.cells #[.int .i64 g1,.int .i64 g2,s.v] 54 (0,0)) ∧ OwnT W 100 tE so (((es.take i).map (shE b)).map ofE) ∧ so.a ≠ none ∧ (∀ k,so.own k → b1 < k)) (fun y _=>es.length - y.2.2.2.1.toNat)
  ⟨0,_,Nat.zero_le _,rfl,hc02,h12,own_empty (t:=tE) hh3 (by decide),by simp,fun k ⟨ad,had,he⟩=>by cases had; dsimp only at he; omega⟩ ?_
 rintro y g W ⟨i,so,hi,rfl,hW,hW1,ho,hne,hlo⟩
 dsimp only
 refine LoadT.sc (s:=.sl) (x:=s) (by rw [show at0 b1 = Addr.mk b1 0 none from rfl,cellOf hW1]; rfl) ?_
 refine Br.dec (fun hlt=>?_) (fun hge=>?_)
 ·have hlt:(i:Int) < ((s.n:Nat):Int):=hlt
  have hlt':i < es.length:=by rw [hn] at hlt; omega
  obtain ⟨⟨f,x,t⟩,he⟩:∃ e,es[i]? = some e:=⟨_,List.getElem?_eq_getElem hlt'⟩
  have hei:(es.map ofE)[i]? = some ((f:Int),(x:Int),(t:Int),()):=by rw [List.getElem?_map,he]; rfl
  have htk:es.take (i + 1) = es.take i ++ [(f,x,t)]:=by rw [List.take_add_one,he]; rfl
  obtain ⟨hf1,ht1⟩:=hB _ (List.mem_of_getElem? he)
  dsimp only at hf1 ht1
  refine LoadT.sc (s:=.sl) (x:=s) (by rw [show at0 b1 = Addr.mk b1 0 none from rfl,cellOf hW1]; rfl) ?_
  refine (h.chg hW fun _ _ h=>h).get (t:=tE) i rfl hei ?_
  refine New.mk fun b13 W1 hb13 hn13 _ hc13=>?_
  refine StoreN.whole (vs:=[.int .i64 (f:Int),.int .i64 (x:Int),.int .i64 (t:Int)]) hn13 rfl fun W2 h13 hc13' _=>?_
  have hN2:Chg Nil W W2:=hc13.trans hc13' (fun _ _ h=>h) fun i hi he=>by have he:i = b13:=he; omega
  refine Join.by' (fun y V=>y = ((b:Int),at0 b1,so,(i:Int),at0 b13,()) ∧ Chg Nil W V ∧ V.heap[b13]? = some (.cells #[.int .i64 ((shF b f:Nat):Int),.int .i64 (x:Int),.int .i64 (t:Int)] 100 (0,0))) ?_ ?_
  rotate_left
  ·intro J hJ
   refine LoadT.sc (s:=.int .i64) (x:=(f:Int)) (by rw [cellOf h13]; rfl) ?_
   refine Br.dec (fun hp=>?_) (fun hp=>?_)
   ·have hp:(f:Int) > 0:=hp
    refine LoadT.sc (s:=.int .i64) (x:=(f:Int)) (by rw [cellOf h13]; rfl) ?_
    rw [wrap64 (by omega) (by omega)]
    refine Store1.at h13 0 (by show 0 < 3; decide) rfl fun W3 h3 hc3' _=>?_
    refine hJ _ _ ⟨rfl,hN2.trans hc3' (fun _ _ h=>h) fun i hi he=>by have he:i = b13:=he; omega,?_⟩
    have:((shF b f:Nat):Int) = (f:Int) + (b:Int):=by unfold shF; rw [if_pos (by omega)]; omega
    rw [this]; exact h3
   ·have hp:¬ (f:Int) > 0:=hp
    refine hJ _ _ ⟨rfl,hN2,?_⟩
    have:shF b f = f:=by unfold shF; rw [if_neg (by omega)]
    rw [this]; exact h13
  rintro y V g ⟨rfl,hV,hV13⟩
  dsimp only
  refine Join.by' (fun y V=>y = ((b:Int),at0 b1,so,(i:Int),at0 b13,()) ∧ Chg Nil W V ∧ V.heap[b13]? = some (.cells #[.int .i64 ((shF b f:Nat):Int),.int .i64 (x:Int),.int .i64 ((shF b t:Nat):Int)] 100 (0,0))) ?_ ?_
  rotate_left
  ·intro J hJ
   refine LoadT.sc (s:=.int .i64) (x:=(t:Int)) (by rw [show at0 b13 = Addr.mk b13 0 none from rfl,cellOf hV13]; rfl) ?_
   refine Br.dec (fun hp=>?_) (fun hp=>?_)
   ·have hp:(t:Int) > 0:=hp
    refine LoadT.sc (s:=.int .i64) (x:=(t:Int)) (by rw [show at0 b13 = Addr.mk b13 0 none from rfl,cellOf hV13]; rfl) ?_
    rw [wrap64 (by omega) (by omega)]
    refine Store1.at hV13 2 (by show 2 < 3; decide) rfl fun W3 h3 hc3' _=>?_
    refine hJ _ _ ⟨rfl,hV.trans hc3' (fun _ _ h=>h) fun i hi he=>by have he:i = b13:=he; omega,?_⟩
    have:((shF b t:Nat):Int) = (t:Int) + (b:Int):=by unfold shF; rw [if_pos (by omega)]; omega
    rw [this]; exact h3
   ·have hp:¬ (t:Int) > 0:=hp
    refine hJ _ _ ⟨rfl,hV,?_⟩
    have:shF b t = t:=by unfold shF; rw [if_neg (by omega)]
    rw [this]; exact hV13
  rintro y V2 g ⟨rfl,hV2,hV213⟩
  dsimp only
  refine LoadT.mk tE (x:=(((shF b f:Nat):Int),(x:Int),((shF b t:Nat):Int),())) (fun j v hv=>by rw [show at0 b13 = Addr.mk b13 0 none from rfl,cellOf hV213]; simpa [Ty.cells] using hv) ?_
  refine New.mk fun b31 V3 hb31 hn31 _ hc31=>?_
  have hV3:=hV2.then hc31
  have ho3:=ho.chg hV3 fun _ _ h=>h
  have hlen:(((es.take i).map (shE b)).map ofE).length = i:=by simp; omega
  refine OwnT.append (t:=tE) (m:=1) ok52 rfl (by decide) ho3 [(((shF b f:Nat):Int),(x:Int),((shF b t:Nat):Int),())] rfl (by decide) (fun j v hv=>by rw [cellOf hn31]; simpa [Ty.cells] using hv) (by rw [hlen]; omega) (by rw [hlen]; simp only [maxLen]; omega) fun so' V4 ho4 hc4 hown4=>?_
  have hso:so'.a ≠ none:=by
   rcases ho4.block with ⟨_,hx⟩ | ⟨g,cur,hg,_⟩
   ·simp at hx
   ·rw [hg]; simp
  have z1:=lt_of_heap hW1
  have zW:=hV3.size
  rw [wrap64 (x:=(i:Int) + 1) (by omega) (by omega)]
  refine ⟨⟨i + 1,so',hlt',rfl,(hW.then hV3).trans hc4 (fun _ _ h=>h) (fun j hj hk=>by have:=hlo j hk; omega),hc4.heap (hV3.heap hW1 fun h=>h) (fun hk=>by have:=hlo _ hk; omega),?_,hso,fun j hj=>?_⟩,?_⟩
  ·rw [htk]
   simpa [shE,ofE] using ho4
  ·rcases hown4 j hj with h1 | h1
   ·exact hlo j h1
   ·omega
  ·show es.length - (i + 1) < es.length - i
   omega
 ·have hge:¬ (i:Int) < ((s.n:Nat):Int):=hge
  have hin:i = es.length:=by rw [hn] at hge; omega
  subst hin
  rw [List.take_length] at ho
  exact ⟨so,rfl,ho,hne,hW,fun k hk=>by have:=hlo k hk; omega⟩
theorem stall_rows {k K:Nat} {es:List Ed} {res:List Row} (h:stallF k K es = some res):∀ r ∈ res,r.length = 2 * k:=by
 unfold stallF at h
 split at h
 ·cases h
 split at h
 ·cases h
 exact numE_rows _ _ _ _ res (by simp) h
def joinE (k:Nat) (a b:Aut):List Ed:=graphL k 0 a.next ++ (graphL k 0 b.next).map (shE a.acc.length)
theorem Join_ret21 {w:World} {k:Nat} (hk:1 ≤ k ∧ k ≤ 8) {x y:Int × Int × Sl × Sl × Unit} {a b:Aut} (ha:AutIn w x a) (hb:AutIn w y b) (hca:a.check (k:Int) = 0) (hcb:b.check (k:Int) = 0) {K:Nat} {res:List Row} (hf:stallF k K (joinE k a b) = some res) :
  Ret Tryd.prog 36 #[.int .i64 (k:Int),.agg #[.int .i64 x.1,.int .i64 x.2.1,x.2.2.1.v,x.2.2.2.1.v],.agg #[.int .i64 y.1,.int .i64 y.2.1,y.2.2.1.v,y.2.2.2.1.v]] tA w fun z w'=>AutIn w' z (autE k res) ∧ Chg Nil w w':=by
 obtain ⟨x1,x2,sa,sn,_⟩:=x
 obtain ⟨y1,y2,ta,tn,_⟩:=y
 obtain ⟨hsa,_,na1,na2,na3,_,hrowsA⟩:=check_spec hca
 obtain ⟨hsb,_,nb1,nb2,nb3,_,hrowsB⟩:=check_spec hcb
 refine cayleyref21_Join.calls (k:Int) x1 x2 sa sn y1 y2 ta tn ?_
 unfold cayleyref21_Join.sh
 refine New.mk fun b1 w1 hb1 hh1 hs1 hc1=>?_
 refine New.mk fun b3 w2 hb3 hh3 hs3 hc3=>?_
 refine New.mk fun b5 w3 hb5 hh5 hs5 hc5=>?_
 have h1:w3.heap[b1]? = some _:=hc5.heap (hc3.heap hh1 fun h=>h) fun h=>h
 have h3:w3.heap[b3]? = some _:=hc5.heap hh3 fun h=>h
 have hc03:=(hc1.then hc3).then hc5
 have z1:=hc1.size
 have z3:=hc3.size
 refine LoadT.mk tA (x:=(x1,x2,sa,sn,())) (fun j v hv=>by rw [cellOf h1]; simpa [Ty.cells] using hv) ?_
 refine Ret.call (GraphOf_ret (k:=k) (x:=(x1,x2,sa,sn,())) hk.2 (ha.nil hc03) (by omega) (fun r hr=>by have:=(hrowsA r hr).1; omega)) ?_
 rintro ⟨g1,g2,g3,_⟩ w4 ⟨e1,e2,ho4,hc4,hown4⟩
 have e1:g1 = (k:Int):=e1
 have e2:g2 = ((a.acc.length:Nat):Int):=e2
 subst e1 e2
 have ho4:OwnT w4 100 tE g3 ((graphL k 0 a.next).map ofE):=ho4
 have hown4:∀ q,g3.own q → w3.heap.size ≤ q:=hown4
 have z4:=hc4.size
 refine New.mk fun b11 w5 hb11 hn11 _ hc11=>?_
 refine StoreN.whole (vs:=[.int .i64 (k:Int),.int .i64 ((a.acc.length:Nat):Int),g3.v]) hn11 rfl fun w6 h11 hc11' _=>?_
 have hN6:Chg Nil w4 w6:=hc11.trans hc11' (fun _ _ h=>h) fun i hi he=>by have he:i = b11:=he; omega
 have hc36:=hc4.then hN6
 have ho6:=ho4.chg hN6 fun _ _ h=>h
 have hlt4:=ho4.lt
 have n11:¬ g3.own b11:=fun ⟨ad,had,he⟩=>by have:=hlt4 ad had; omega
 refine ⟨fun V=>Chg g3.own w6.drew V,Chg.refl _,?_⟩
 have keep:∀ {V:World} {q:Nat} {o:Obj},Chg g3.own w6.drew V → w6.heap[q]? = some o → ¬ g3.own q → V.heap[q]? = some o:=fun hV hq hn=>hV.heap (w:=w6.drew) hq hn
 have h36:=hc36.heap h3 fun h=>h
 have n3:¬ g3.own b3:=fun ho=>by have:=hown4 _ ho; have:=lt_of_heap h3; omega
 refine LoadS.sc (s:=.sl) (x:=g3) (fun V hV=>by rw [cellOf (keep hV h11 n11)]; rfl) ?_
 refine LoadS.mk tA (x:=(y1,y2,ta,tn,())) (fun V hV j v hv=>by rw [cellOf (keep hV h36 n3)]; simpa [Ty.cells] using hv) ?_
 refine LoadS.sc (s:=.int .i64) (x:=((a.acc.length:Nat):Int)) (fun V hV=>by rw [cellOf (keep hV h11 n11)]; rfl) ?_
 have hc06:=(hc03.then hc36).then (Chg.drew w6)
 refine Ret.call (GraphOf_ret (k:=k) (x:=(y1,y2,ta,tn,())) hk.2 (hb.nil hc06) (by omega) (fun r hr=>by have:=(hrowsB r hr).1; omega)) ?_
 rintro ⟨q1,q2,q3,_⟩ w7 ⟨e1,e2,ho7,hc7,hown7⟩
 have e1:q1 = (k:Int):=e1
 subst e1
 have ho7:OwnT w7 100 tE q3 ((graphL k 0 b.next).map ofE):=ho7
 have hltA:=graphL_lt (k:=k) (next:=a.next) (fun r hr t ht=>((hrowsA r hr).2 t ht).2) na1
 have hltB:=graphL_lt (k:=k) (next:=b.next) (fun r hr t ht=>((hrowsB r hr).2 t ht).2) nb1
 have hlA:=graphL_len k a.next 0
 have hlB:=graphL_len k b.next 0
 have hmA:k * a.next.length ≤ 8 * 2000:=Nat.mul_le_mul hk.2 na2
 have hmB:k * b.next.length ≤ 8 * 2000:=Nat.mul_le_mul hk.2 nb2
 refine ⟨hc7.nil,?_⟩
 refine Ret.call (shifted_ret (b:=a.acc.length) ho7.rd (by omega) (fun e he=>by have:=hltB e he; omega) (by omega)) ?_
 rintro ss w8 ⟨ho8,hne8,hc8,hown8⟩
 have hN8:Chg Nil w6 w8:=((Chg.drew w6).then hc7).then hc8
 refine ⟨(hc7.then hc8).nil,?_⟩
 have ho8':=ho6.chg hN8 fun _ _ h=>h
 have lA:((graphL k 0 a.next).map ofE).length ≤ 16000:=by rw [List.length_map]; omega
 have lB:(((graphL k 0 b.next).map (shE a.acc.length)).map ofE).length ≤ 16000:=by rw [List.length_map,List.length_map]; omega
 refine OwnT.appendAny (t:=tE) ok52 rfl (by decide) ho8' ho8.rd hne8 (by omega) (by simp only [maxLen]; omega) fun so w9 ho9 hc9 hown9=>?_
 have hc69:Chg g3.own w6 w9:=hN8.nil.then hc9
 refine ⟨(hc7.then hc8).nil.then hc9,?_⟩
 have h119:=hc69.heap h11 n11
 refine Store1.at h119 2 (by show 2 < 3; decide) rfl fun w10 h1110 hc10 _=>?_
 have z6:=hN6.size
 have z8:=hN8.size
 have l11:=lt_of_heap h11
 have hso:¬ so.own b11:=fun ho=>by
  rcases hown9 _ ho with h | h
  ·exact n11 h
  ·omega
 refine LoadT.mk tG (x:=((k:Int),((a.acc.length:Nat):Int),so,())) (fun j v hv=>by rw [cellOf h1110]; simpa [Ty.cells] using hv) ?_
 have ho10:OwnT w10 100 tE so ((joinE k a b).map ofE):=by
  have:(joinE k a b).map ofE = (graphL k 0 a.next).map ofE ++ ((graphL k 0 b.next).map (shE a.acc.length)).map ofE:=by unfold joinE; rw [List.map_append]
  rw [this]
  exact ho9.chg hc10 fun ad had he=>hso ⟨ad,had,he⟩
 refine Ret.call (Stallings_ret (k:=k) (B:=5000) hk.2 ho10 ?_ (by decide) (by decide) (fun e he=>?_) hf) ?_
 ·unfold joinE; rw [List.length_append,List.length_map]; omega
 ·unfold joinE at he
  rcases List.mem_append.1 he with he | he
  ·have:=hltA e he; omega
  ·obtain ⟨e0,h0,rfl⟩:=List.mem_map.1 he
   have:=hltB e0 h0
   unfold shE shF
   dsimp only
   refine ⟨?_,?_⟩ <;> split <;> omega
 rintro ⟨r1,r2,ua,un,_⟩ w11 ⟨e1,e2,hA,hc11,hlen⟩
 have e1:r1 = ((2 * k:Nat):Int):=e1
 have e2:r2 = 0:=e2
 subst e1 e2
 have hc610:Chg (fun q=>g3.own q ∨ q = b11) w6 w10:=(hc69.mono fun _ _ h=>.inl h).then (hc10.mono fun _ _ h=>.inr h)
 have h511:=(hc610.heap (hc36.heap hh5 fun h=>h) fun h=>by
  rcases h with h | h
  ·have:=hown4 _ h; have:=lt_of_heap hh5; omega
  ·have:=lt_of_heap hh5; omega)
 have z10:=hc610.size
 refine StoreN.whole (vs:=[.int .i64 ((2 * k:Nat):Int),.int .i64 0,ua.v,un.v]) (hc11.heap h511 fun h=>h) rfl fun w12 h12 hc12 _=>?_
 refine LoadT.mk tA (x:=(((2 * k:Nat):Int),0,ua,un,())) (fun j v hv=>by rw [cellOf h12]; simpa [Ty.cells] using hv) ?_
 have hc310:Chg Nil w3 w10:=hc36.trans hc610 (fun _ _ h=>h) fun i hi h=>by
  rcases h with h | h
  ·have:=hown4 _ h; omega
  ·omega
 refine ⟨_,rfl,?_,((hc03.then hc310).then hc11).trans hc12 (fun _ _ h=>h) fun i hi he=>by have he:i = b5:=he; omega⟩
 have hAu:AutR 0 w12 ua un (accF res.length) (res.map (·.map ofO)):=(hA.chg hc12 fun q hq he=>by have he:q = b5:=he; have:=lt_of_heap hh5; have:=hc310.size; omega).mono (Nat.zero_le _)
 have hrl:∀ r ∈ res,r.length ≤ 16:=fun r hr=>by
  have:=stall_rows hf r hr
  omega
 exact ⟨rfl,rfl,hAu,by show (accF res.length).length ≤ maxLen; rw [accF,List.length_map,List.length_range]; simp only [maxLen]; omega,by show (res.map (·.map ofO)).length ≤ maxLen; rw [List.length_map]; simp only [maxLen]; omega,fun r hr=>by
  obtain ⟨r',hr',rfl⟩:=List.mem_map.1 hr
  rw [List.length_map]; have:=hrl r' hr'; simp only [maxLen]; omega⟩
end Go.Proofs.YtffdjfkekdoeaaaDoor.Fo
end
section
set_option maxRecDepth 10000
namespace Go.Proofs.YtffdjfkekdoeaaaDoor
open Fw
noncomputable def cayleyref21_Intersect.ann:Ann where
 loops:=fun | 4=>[(0,.sc (.int .i64)),(4,.sc .adr),(5,.sc .adr),(6,.sc .adr),(8,.sc .sl),(9,.sc .adr),(10,.sc (.int .i64))] | 7=>[(0,.sc (.int .i64)),(4,.sc .adr),(5,.sc .adr),(6,.sc .adr),(8,.sc .sl),(9,.sc .adr),(10,.sc (.int .i64)),(11,.sc (.int .i64))] | 13=>[(0,.sc (.int .i64)),(4,.sc .adr),(5,.sc .adr),(6,.sc .adr),(8,.sc .sl),(9,.sc .adr),(10,.sc (.int .i64)),(11,.sc (.int .i64)),(12,.sc (.int .i64)),(13,.sc (.int .i64)),(14,.sc (.int .i64)),(15,.sc (.int .i64))] | _=>[]
 joins:=fun | 6=>some [(0,.sc (.int .i64)),(4,.sc .adr),(5,.sc .adr),(6,.sc .adr),(8,.sc .sl),(9,.sc .adr),(10,.sc (.int .i64))] | 11=>some [(0,.sc (.int .i64)),(4,.sc .adr),(5,.sc .adr),(6,.sc .adr),(8,.sc .sl),(9,.sc .adr),(10,.sc (.int .i64)),(11,.sc (.int .i64)),(12,.sc (.int .i64)),(13,.sc (.int .i64))] | 20=>some [(0,.sc (.int .i64)),(4,.sc .adr),(5,.sc .adr),(6,.sc .adr),(8,.sc .sl),(9,.sc .adr),(10,.sc (.int .i64)),(11,.sc (.int .i64)),(14,.sc (.int .i64))] | 22=>some [(6,.sc .adr),(8,.sc .sl),(9,.sc .adr)] | _=>none
noncomputable def cayleyref21_Intersect.body:Code:=match Tryd.f35.body with | some c=>c | none=>.skip
def cayleyref21_Intersect.sh (p0:Int) (p1_0:Int) (p1_1:Int) (p1_2:Sl) (p1_3:Sl) (p2_0:Int) (p2_1:Int) (p2_2:Sl) (p2_3:Sl) (R:Ending → World → Prop) (w:World):Prop:=
 New w (.cells #[(.int .i64 p1_0),(.int .i64 p1_1),(.slice p1_2.a p1_2.n p1_2.c),(.slice p1_3.a p1_3.n p1_3.c)] 27) fun b1 w2=>
 New w2 (.cells #[(.int .i64 p2_0),(.int .i64 p2_1),(.slice p2_2.a p2_2.n p2_2.c),(.slice p2_3.a p2_3.n p2_3.c)] 27) fun b3 w4=>
 New w4 (.cells #[(.int .i64 0),(.int .i64 0),(.slice none 0 0),(.slice none 0 0)] 27) fun b5 w6=>
 New w6 (.cells #[(.int .i64 0),(.int .i64 0)] 96) fun b7 w8=>
 New w8 (.cells #[(.int .i64 0),(.int .i64 0),(.slice none 0 0)] 54) fun b9 w10=>
 StoreN w10 (Addr.mk b9 0 none) [(.int .i64 p0),(.int .i64 1),(.slice none 0 0)] fun w11=>
 Join (σ:=Addr × Sl × Addr × Unit) (fun j14 g13 w68=>
  Store1 w68 (j14.2.2.1.add 1) (.int .i64 ((j14.2.1.n:Nat):Int)) fun w69=>
  LoadT (.agg [.int .i64,.int .i64,.sl]) w69 j14.2.2.1 fun x70=>
  CallT Tryd.prog 71 #[(.agg #[(.int .i64 x70.1),(.int .i64 x70.2.1),(.slice x70.2.2.1.a x70.2.2.1.n x70.2.2.1.c)]),(.bool false)] (.agg [.int .i64,.int .i64,.sl]) w69 (fun r71 w72=>
   CallT Tryd.prog 70 #[(.agg #[(.int .i64 r71.1),(.int .i64 r71.2.1),(.slice r71.2.2.1.a r71.2.2.1.n r71.2.2.1.c)]),(.int .i64 0)] (.agg [.int .i64,.int .i64,.sl,.sl]) w72 (fun r74 w75=>
    StoreN w75 j14.1 [(.int .i64 r74.1),(.int .i64 r74.2.1),(.slice r74.2.2.1.a r74.2.2.1.n r74.2.2.1.c),(.slice r74.2.2.2.1.a r74.2.2.2.1.n r74.2.2.2.1.c)] fun w77=>
    LoadT (.agg [.int .i64,.int .i64,.sl,.sl]) w77 j14.1 fun x78=>
    R (.returned (.tuple #[(.agg #[(.int .i64 x78.1),(.int .i64 x78.2.1),(.slice x78.2.2.1.a x78.2.2.1.n x78.2.2.1.c),(.slice x78.2.2.2.1.a x78.2.2.2.1.n x78.2.2.2.1.c)]),(.int .i64 ((j14.2.1.n:Nat):Int))])) w77) (fun h76 w75=>R (.panicked h76) w75)) (fun h73 w72=>R (.panicked h73) w72)) fun J12=>
  LoopT (σ:=Int × Addr × Addr × Addr × Sl × Addr × Int × Unit) (p0,(Addr.mk b1 0 none),(Addr.mk b3 0 none),(Addr.mk b5 0 none),⟨(some (Addr.mk b7 0 none)),1,1⟩,(Addr.mk b9 0 none),0,()) w11 fun l15 g16 w17 I18=>
   Join (σ:=Int × Addr × Addr × Addr × Sl × Addr × Int × Unit) (fun j21 g20 w22=>
    LoopT (σ:=Int × Addr × Addr × Addr × Sl × Addr × Int × Int × Unit) (j21.1,j21.2.1,j21.2.2.1,j21.2.2.2.1,j21.2.2.2.2.1,j21.2.2.2.2.2.1,j21.2.2.2.2.2.2.1,0,()) w22 fun l23 g24 w25 I26=>
     Br (decide ((l23.2.2.2.2.2.2.2.1:Int) < (IntKind.wrap .i64 (2 * l23.1))))
      (LoadT (.sc .sl) w25.drew (l23.2.1.add 3) fun x27=>
      Idx l23.2.2.2.2.1.a l23.2.2.2.2.1.n 2 l23.2.2.2.2.2.2.1 fun a28=>
      Idx (some a28) 2 1 0 fun a29=>
      LoadT (.sc (.int .i64)) w25.drew a29 fun x30=>
      Idx x27.a x27.n 1 x30 fun a31=>
      LoadT (.sc .sl) w25.drew a31 fun x32=>
      Idx x32.a x32.n 1 l23.2.2.2.2.2.2.2.1 fun a33=>
      LoadT (.sc (.int .i64)) w25.drew a33 fun x34=>
      LoadT (.sc .sl) w25.drew (l23.2.2.1.add 3) fun x35=>
      Idx l23.2.2.2.2.1.a l23.2.2.2.2.1.n 2 l23.2.2.2.2.2.2.1 fun a36=>
      Idx (some a36) 2 1 1 fun a37=>
      LoadT (.sc (.int .i64)) w25.drew a37 fun x38=>
      Idx x35.a x35.n 1 x38 fun a39=>
      LoadT (.sc .sl) w25.drew a39 fun x40=>
      Idx x40.a x40.n 1 l23.2.2.2.2.2.2.2.1 fun a41=>
      LoadT (.sc (.int .i64)) w25.drew a41 fun x42=>
      Join (σ:=Int × Addr × Addr × Addr × Sl × Addr × Int × Int × Int × Int × Unit) (fun j45 g44 w46=>
       LoopT (σ:=Int × Addr × Addr × Addr × Sl × Addr × Int × Int × Int × Int × Int × Int × Unit) (j45.1,j45.2.1,j45.2.2.1,j45.2.2.2.1,j45.2.2.2.2.1,j45.2.2.2.2.2.1,j45.2.2.2.2.2.2.1,j45.2.2.2.2.2.2.2.1,j45.2.2.2.2.2.2.2.2.1,j45.2.2.2.2.2.2.2.2.2.1,(-1),0,()) w46 fun l47 g48 w49 I50=>
        Br (decide ((l47.2.2.2.2.2.2.2.2.2.2.2.1:Int) < ((l47.2.2.2.2.1.n:Nat):Int)))
         (Idx l47.2.2.2.2.1.a l47.2.2.2.2.1.n 2 l47.2.2.2.2.2.2.2.2.2.2.2.1 fun a51=>
         LoadT (.agg [.int .i64,.int .i64]) w49 a51 fun x52=>
         RunT Tryd.prog (.sc .bool) (do eqGuard .eql 96 (.tmp 76) (.tmp 79) (.agg #[(.int .i64 x52.1),(.int .i64 x52.2.1)]) (.agg #[(.int .i64 l47.2.2.2.2.2.2.2.2.1),(.int .i64 l47.2.2.2.2.2.2.2.2.2.1)]); binOp .eql 96 (.agg #[(.int .i64 x52.1),(.int .i64 x52.2.1)]) (.agg #[(.int .i64 l47.2.2.2.2.2.2.2.2.1),(.int .i64 l47.2.2.2.2.2.2.2.2.2.1)])) w49 fun r53 w54=>
         Br r53
          (I50 (l47.1,l47.2.1,l47.2.2.1,l47.2.2.2.1,l47.2.2.2.2.1,l47.2.2.2.2.2.1,l47.2.2.2.2.2.2.1,l47.2.2.2.2.2.2.2.1,l47.2.2.2.2.2.2.2.2.1,l47.2.2.2.2.2.2.2.2.2.1,l47.2.2.2.2.2.2.2.2.2.2.2.1,(IntKind.wrap .i64 (l47.2.2.2.2.2.2.2.2.2.2.2.1 + 1)),()) w54)
          (I50 (l47.1,l47.2.1,l47.2.2.1,l47.2.2.2.1,l47.2.2.2.2.1,l47.2.2.2.2.2.1,l47.2.2.2.2.2.2.1,l47.2.2.2.2.2.2.2.1,l47.2.2.2.2.2.2.2.2.1,l47.2.2.2.2.2.2.2.2.2.1,l47.2.2.2.2.2.2.2.2.2.2.1,(IntKind.wrap .i64 (l47.2.2.2.2.2.2.2.2.2.2.2.1 + 1)),()) w54))
         (Join (σ:=Int × Addr × Addr × Addr × Sl × Addr × Int × Int × Int × Unit) (fun j57 g56 w62=>
          (2:Int) ≠ 0 ∧
          Br (((Int.tmod j57.2.2.2.2.2.2.2.1 2):Int) == 0)
           (LoadT (.sc .sl) w62 (j57.2.2.2.2.2.1.add 2) fun x63=>
           CallT Tryd.prog 69 #[(.slice x63.a x63.n x63.c),(.agg #[(.int .i64 j57.2.2.2.2.2.2.1),(.int .i64 j57.2.2.2.2.2.2.2.1),(.int .i64 j57.2.2.2.2.2.2.2.2.1)])] (.sc .sl) w62 (fun r64 w65=>
            Store1 w65 (j57.2.2.2.2.2.1.add 2) (.slice r64.a r64.n r64.c) fun w67=>
            I26 (j57.1,j57.2.1,j57.2.2.1,j57.2.2.2.1,j57.2.2.2.2.1,j57.2.2.2.2.2.1,j57.2.2.2.2.2.2.1,(IntKind.wrap .i64 (j57.2.2.2.2.2.2.2.1 + 1)),()) w67) (fun h66 w65=>R (.panicked h66) w65))
           (I26 (j57.1,j57.2.1,j57.2.2.1,j57.2.2.2.1,j57.2.2.2.2.1,j57.2.2.2.2.2.1,j57.2.2.2.2.2.2.1,(IntKind.wrap .i64 (j57.2.2.2.2.2.2.2.1 + 1)),()) w62)) fun J55=>
          Br (decide ((l47.2.2.2.2.2.2.2.2.2.2.1:Int) < 0))
           (New w49 (.cells #[(.int .i64 l47.2.2.2.2.2.2.2.2.1),(.int .i64 l47.2.2.2.2.2.2.2.2.2.1)] 96) fun b58 w59=>
           RunT Tryd.prog (.sc .sl) (Builtin.append_ #[106,106] 106 #[(.slice l47.2.2.2.2.1.a l47.2.2.2.2.1.n l47.2.2.2.2.1.c),(.slice (some (Addr.mk b58 0 none)) 1 1)]) w59 fun r60 w61=>
           J55 (l47.1,l47.2.1,l47.2.2.1,l47.2.2.2.1,r60,l47.2.2.2.2.2.1,l47.2.2.2.2.2.2.1,l47.2.2.2.2.2.2.2.1,((l47.2.2.2.2.1.n:Nat):Int),()) w61)
           (J55 (l47.1,l47.2.1,l47.2.2.1,l47.2.2.2.1,l47.2.2.2.2.1,l47.2.2.2.2.2.1,l47.2.2.2.2.2.2.1,l47.2.2.2.2.2.2.2.1,l47.2.2.2.2.2.2.2.2.2.2.1,()) w49))) fun J43=>
       Br (decide ((x34:Int) < 0))
        (Br true
         (I26 (l23.1,l23.2.1,l23.2.2.1,l23.2.2.2.1,l23.2.2.2.2.1,l23.2.2.2.2.2.1,l23.2.2.2.2.2.2.1,(IntKind.wrap .i64 (l23.2.2.2.2.2.2.2.1 + 1)),()) w25.drew)
         (J43 (l23.1,l23.2.1,l23.2.2.1,l23.2.2.2.1,l23.2.2.2.2.1,l23.2.2.2.2.2.1,l23.2.2.2.2.2.2.1,l23.2.2.2.2.2.2.2.1,x34,x42,()) w25.drew))
        (Br (decide ((x42:Int) < 0))
         (I26 (l23.1,l23.2.1,l23.2.2.1,l23.2.2.2.1,l23.2.2.2.2.1,l23.2.2.2.2.2.1,l23.2.2.2.2.2.2.1,(IntKind.wrap .i64 (l23.2.2.2.2.2.2.2.1 + 1)),()) w25.drew)
         (J43 (l23.1,l23.2.1,l23.2.2.1,l23.2.2.2.1,l23.2.2.2.2.1,l23.2.2.2.2.2.1,l23.2.2.2.2.2.2.1,l23.2.2.2.2.2.2.2.1,x34,x42,()) w25.drew)))
      (I18 (l23.1,l23.2.1,l23.2.2.1,l23.2.2.2.1,l23.2.2.2.2.1,l23.2.2.2.2.2.1,(IntKind.wrap .i64 (l23.2.2.2.2.2.2.1 + 1)),()) w25)) fun J19=>
    Br (decide ((l15.2.2.2.2.2.2.1:Int) < ((l15.2.2.2.2.1.n:Nat):Int)))
     (Br (decide ((((l15.2.2.2.2.1.n:Nat):Int):Int) ≤ 20000))
      (J19 (l15.1,l15.2.1,l15.2.2.1,l15.2.2.2.1,l15.2.2.2.2.1,l15.2.2.2.2.2.1,l15.2.2.2.2.2.2.1,()) w17)
      (J12 (l15.2.2.2.1,l15.2.2.2.2.1,l15.2.2.2.2.2.1,()) w17))
     (Br false
      (J19 (l15.1,l15.2.1,l15.2.2.1,l15.2.2.2.1,l15.2.2.2.2.1,l15.2.2.2.2.2.1,l15.2.2.2.2.2.2.1,()) w17)
      (J12 (l15.2.2.2.1,l15.2.2.2.2.1,l15.2.2.2.2.2.1,()) w17))
theorem cayleyref21_Intersect.calls (p0:Int) (p1_0:Int) (p1_1:Int) (p1_2:Sl) (p1_3:Sl) (p2_0:Int) (p2_1:Int) (p2_2:Sl) (p2_3:Sl) {R:Ending → World → Prop} {w:World} (h:cayleyref21_Intersect.sh p0 p1_0 p1_1 p1_2 p1_3 p2_0 p2_1 p2_2 p2_3 R w):Calls Tryd.prog 35 #[(.int .i64 p0),(.agg #[(.int .i64 p1_0),(.int .i64 p1_1),(.slice p1_2.a p1_2.n p1_2.c),(.slice p1_3.a p1_3.n p1_3.c)]),(.agg #[(.int .i64 p2_0),(.int .i64 p2_1),(.slice p2_2.a p2_2.n p2_2.c),(.slice p2_3.a p2_3.n p2_3.c)])] w R:=calls_of_wpc mixed Tryd.func35 (by kernel_rfl) (by kernel_rfl) ((show _ = wpc Tryd.prog cayleyref21_Intersect.ann cayleyref21_Intersect.body (fnKs Tryd.prog Tryd.f35 R) [] (env0 #[(.int .i64 p0),(.agg #[(.int .i64 p1_0),(.int .i64 p1_1),(.slice p1_2.a p1_2.n p1_2.c),(.slice p1_3.a p1_3.n p1_3.c)]),(.agg #[(.int .i64 p2_0),(.int .i64 p2_1),(.slice p2_2.a p2_2.n p2_2.c),(.slice p2_3.a p2_3.n p2_3.c)])]) w by kernel_rfl).mp h)
end Go.Proofs.YtffdjfkekdoeaaaDoor
end
section
set_option maxRecDepth 8000
set_option maxHeartbeats 8000000
namespace Go.Proofs.YtffdjfkekdoeaaaDoor.Fo
open Fw Wd Rf Pl
theorem guard96:Tryd.prog.eqGuardType Tryd.prog.depth 96 = false:=by kernel_rfl
theorem eq_pair96 (w:World) (x y:Operand) (a b c d:Int) :
  (do eqGuard .eql 96 x y (.agg #[.int .i64 a,.int .i64 b]) (.agg #[.int .i64 c,.int .i64 d]); binOp .eql 96 (.agg #[.int .i64 a,.int .i64 b]) (.agg #[.int .i64 c,.int .i64 d]):Sem Value).run Tryd.prog w = .ok (.bool (a == c && b == d)) w:=by
 rw [Sem.run_bind,run_eqGuard_agg w _ _ _ _ _ _ guard96,Result.andThen_ok,run_eql_struct,show (10000:Nat) = 9998 + 2 from rfl,equalIn_pair 9998 w a b c d]
 rfl
structure RI (k:Int) (a b:Aut) (q:List (Nat × Nat)) (es:List Ed) (i:Nat):Prop where
 nodup:q.Nodup
 first:q[0]? = some (0,0)
 lt:∀ p ∈ q,p.1 < a.next.length ∧ p.2 < b.next.length
 enod:es.Nodup
 snd:∀ u y v,(u,y,v) ∈ es → y % 2 = 0 ∧ prodD k a b q u y v
 cmp:∀ (u s t y s' t':Nat),u < i → q[u]? = some (s,t) → Dl k a s y s' → Dl k b t y t' → ∃ v:Nat,q[v]? = some (s',t') ∧ (y % 2 = 0 → (u,y,v) ∈ es)
theorem insertE_nodup {es:List Ed} (h:es.Nodup) (e:Ed):(insertE es e).Nodup:=by
 unfold insertE
 split
 ·exact h
 ·rename_i hn
  exact List.nodup_append.2 ⟨h,by simp,fun x hx y hy he=>by simp only [List.mem_singleton] at hy; subst hy; subst he; exact hn hx⟩
theorem insertE_mem {es:List Ed} {e f:Ed}:f ∈ insertE es e ↔ f ∈ es ∨ f = e:=by
 unfold insertE
 split
 ·rename_i hm
  constructor
  ·exact .inl
  ·rintro (h | rfl)
   ·exact h
   ·exact hm
 ·simp
theorem RI.dir {k:Int} (hk:k ≤ 8) {a b:Aut} (hca:a.check k = 0) (hcb:b.check k = 0) {q:List (Nat × Nat)} {es:List Ed} {i:Nat} (h:RI k a b q es i) (hi:q.length ≤ i) {u y v:Nat}:Dir es u y v ↔ prodD k a b q u y v:=by
 have hAa:=dl_aut hk hca
 have hAb:=dl_aut hk hcb
 have ev:∀ {u y v:Nat},y % 2 = 0 → prodD k a b q u y v → (u,y,v) ∈ es:=fun {u y v} hy hd=>by
  obtain ⟨s,t,s',t',h1,h2,h3,h4⟩:=hd
  obtain ⟨v',v1,v2⟩:=h.cmp u s t y s' t' (Nat.lt_of_lt_of_le (List.getElem?_eq_some_iff.1 h1).1 hi) h1 h3 h4
  have:v' = v:=(List.getElem?_inj (List.getElem?_eq_some_iff.1 v1).1 h.nodup).1 (v1.trans h2.symm)
  subst this
  exact v2 hy
 have bk:∀ {u y v:Nat},prodD k a b q u y v → prodD k a b q v (y ^^^ 1) u:=fun {u y v} hd=>by
  obtain ⟨s,t,s',t',h1,h2,h3,h4⟩:=hd
  exact ⟨s',t',s,t,h2,h1,hAa.inv _ _ _ h3,hAb.inv _ _ _ h4⟩
 constructor
 ·rintro (⟨h1,h2⟩ | ⟨h1,h2⟩)
  ·exact (h.snd _ _ _ h2).2
  ·have:=bk (h.snd _ _ _ h2).2
   rwa [Pl.xor1,if_pos (by omega),show y - 1 + 1 = y by omega] at this
 ·intro hd
  by_cases hy:y % 2 = 0
  ·exact .inl ⟨hy,ev hy hd⟩
  ·have:=bk hd
   rw [Pl.xor1,if_neg hy] at this
   exact .inr ⟨by omega,ev (by omega) this⟩
theorem Intersect_ret21 {w:World} {k:Nat} (hk:1 ≤ k ∧ k ≤ 8) {x y:Int × Int × Sl × Sl × Unit} {a b:Aut} (ha:AutIn w x a) (hb:AutIn w y b) (hca:a.check (k:Int) = 0) (hcb:b.check (k:Int) = 0) (ha20:a.next.length ≤ 20) (hb20:b.next.length ≤ 20) :
  RetN Tryd.prog 35 #[.int .i64 (k:Int),.agg #[.int .i64 x.1,.int .i64 x.2.1,x.2.2.1.v,x.2.2.2.1.v],.agg #[.int .i64 y.1,.int .i64 y.2.1,y.2.2.1.v,y.2.2.2.1.v]] [tA,tI] w fun z w'=>
   ∃ (q:List (Nat × Nat)) (R:List Row),Prd (k:Int) a b q ∧ FoldedD k (prodD (k:Int) a b q) 0 (some R) ∧ AutIn w' z.1 (autE k R) ∧ Chg Nil w w':=by
 obtain ⟨x1,x2,sa,sn,_⟩:=x
 obtain ⟨y1,y2,ta,tn,_⟩:=y
 obtain ⟨_,_,na1,na2,na3,_,hrowsA⟩:=check_spec hca
 obtain ⟨_,_,nb1,nb2,nb3,_,hrowsB⟩:=check_spec hcb
 have hkk:(k:Int) ≤ 8:=by omega
 refine cayleyref21_Intersect.calls (k:Int) x1 x2 sa sn y1 y2 ta tn ?_
 unfold cayleyref21_Intersect.sh
 refine New.mk fun b1 w1 hb1 hh1 hs1 hc1=>?_
 refine New.mk fun b3 w2 hb3 hh3 hs3 hc3=>?_
 refine New.mk fun b5 w3 hb5 hh5 hs5 hc5=>?_
 refine New.mk fun b7 w4 hb7 hh7 hs7 hc7=>?_
 refine New.mk fun b9 w5 hb9 hh9 hs9 hc9=>?_
 refine StoreN.whole (vs:=[.int .i64 (k:Int),.int .i64 1,.slice none 0 0]) hh9 rfl fun w6 hh9' hc9' _=>?_
 have z1:=hc1.size
 have z3:=hc3.size
 have z5:=hc5.size
 have z7:=hc7.size
 have hN:Chg Nil w4 w6:=hc9.trans hc9' (fun _ _ h=>h) fun i hi he=>by have he:i = b9:=he; omega
 have hc06:=((((hc1.then hc3).then hc5).then hc7).then hN)
 have h16:=hN.heap (hc7.heap (hc5.heap (hc3.heap hh1 fun h=>h) fun h=>h) fun h=>h) fun h=>h
 have h36:=hN.heap (hc7.heap (hc5.heap hh3 fun h=>h) fun h=>h) fun h=>h
 have h56:=hN.heap (hc7.heap hh5 fun h=>h) fun h=>h
 have h76:=hN.heap hh7 fun h=>h
 generalize hav:(#[.int .i64 x1,.int .i64 x2,.slice sa.a sa.n sa.c,.slice sn.a sn.n sn.c]:Array Value) = av at *
 generalize hbv:(#[.int .i64 y1,.int .i64 y2,.slice ta.a ta.n ta.c,.slice tn.a tn.n tn.c]:Array Value) = bv at *
 obtain ⟨_,_,_,slsA,hrnA,hslA,hrwsA,_⟩:=ha.rd
 obtain ⟨_,_,_,slsB,hrnB,hslB,hrwsB,_⟩:=hb.rd
 have hrnA:RdT w (.sc .sl) sn slsA:=hrnA
 have hrnB:RdT w (.sc .sl) tn slsB:=hrnB
 let Inv:Sl → List (Nat × Nat) → Sl → List Ed → World → Prop:=fun sq q se es W=>Chg Nil w W ∧ W.heap[b1]? = some (.cells av 27 (0,0)) ∧ W.heap[b3]? = some (.cells bv 27 (0,0)) ∧ W.heap[b5]? = some (.cells #[.int .i64 0,.int .i64 0,.slice none 0 0,.slice none 0 0] 27 (0,0)) ∧
  W.heap[b9]? = some (.cells #[.int .i64 (k:Int),.int .i64 1,se.v] 54 (0,0)) ∧ OwnT W 96 tP sq (q.map ofP) ∧ OwnT W 100 tE se (es.map ofE) ∧ (∀ j,sq.own j → j = b7 ∨ b9 < j) ∧ (∀ j,se.own j → b9 < j)
 have INil:∀ {sq q se es W W'},Inv sq q se es W → Chg Nil W W' → Inv sq q se es W':=fun {sq q se es W W'} ⟨i1,i2,i3,i4,i5,i6,i7,i8⟩ hc=>
  ⟨i1.then hc,hc.heap i2 (fun h=>h),hc.heap i3 (fun h=>h),hc.heap i4 (fun h=>h),hc.heap i5 (fun h=>h),i6.chg hc (fun _ _ h=>h),i7.chg hc (fun _ _ h=>h),i8⟩
 have hI0:Inv ⟨some ⟨b7,0,none⟩,1,1⟩ [(0,0)] ⟨none,0,0⟩ [] w6:=⟨hc06,h16,h36,h56,hh9',own_lit (t:=tP) h76 (by decide) rfl rfl (by decide),OwnT.nil _ _ _,fun j ⟨ad,had,he⟩=>.inl (by cases had; exact he.symm),fun j hj=>Own.nilk j hj⟩
 -- behind the search
 refine Join.by' (fun z W=>∃ sq q se es i,z = (at0 b5,sq,at0 b9,()) ∧ Inv sq q se es W ∧ RI (k:Int) a b q es i ∧ q.length ≤ i) ?_ ?_
 ·rintro z W g ⟨sq,q,se,es,i,rfl,⟨i1,i2,i3,i4,i5,i6,i7,i8,i9⟩,hRI,hqi⟩
  dsimp only
  have hql:q.length ≤ 400:=pairs_len hRI.nodup fun p hp=>by have:=hRI.lt p hp; omega
  have h0q:0 < q.length:=(List.getElem?_eq_some_iff.1 hRI.first).1
  have hdir:=fun {u y v}=>RI.dir hkk hca hcb hRI hqi (u:=u) (y:=y) (v:=v)
  have hB:InB q.length es:=fun e he=>by
   obtain ⟨_,s,t,s',t',h1,h2,_⟩:=hRI.snd e.1 e.2.1 e.2.2 he
   exact ⟨(List.getElem?_eq_some_iff.1 h1).1,(List.getElem?_eq_some_iff.1 h2).1⟩
  have hev:Evn es:=fun e he=>(hRI.snd e.1 e.2.1 e.2.2 he).1
  have hlet:∀ e ∈ es,e.2.1 < 2 * k:=fun e he=>by
   obtain ⟨_,s,t,s',t',_,_,h3,_⟩:=hRI.snd e.1 e.2.1 e.2.2 he
   have:=h3.2.1; omega
  have hAa:=dl_aut hkk hca
  have hAb:=dl_aut hkk hcb
  have hdet:Det es:=fun s x t t' h h'=>by
   obtain ⟨a1,a2,a3,a4,a5,a6,a7,a8⟩:=hdir.1 h
   obtain ⟨c1,c2,c3,c4,c5,c6,c7,c8⟩:=hdir.1 h'
   rw [a5] at c5
   cases c5
   have e1:=hAa.det _ _ _ _ a7 c7
   have e2:=hAb.det _ _ _ _ a8 c8
   subst e1 e2
   exact (List.getElem?_inj (List.getElem?_eq_some_iff.1 a6).1 hRI.nodup).1 (a6.trans c6.symm)
  have helen:es.length ≤ 400 * 16 * 400:=by
   have:=nodup_len (400 * 16 * 400) (es.map fun e=>(e.1 * 16 + e.2.1) * 400 + e.2.2) ?_ ?_
   ·simpa using this
   ·rw [List.Nodup,List.pairwise_map]
    refine List.Pairwise.imp_of_mem (fun {x y} hx hy hne he=>hne ?_) hRI.enod
    obtain ⟨p1,p2⟩:=hB x hx
    obtain ⟨p3,p4⟩:=hB y hy
    have p5:=hlet x hx
    have p6:=hlet y hy
    obtain ⟨x1,x2,x3⟩:=x
    obtain ⟨y1,y2,y3⟩:=y
    dsimp only at *
    have e3:x3 = y3:=by omega
    have e2:x1 * 16 + x2 = y1 * 16 + y2:=by omega
    have e1:x1 = y1:=by omega
    have e4:x2 = y2:=by omega
    rw [e1,e3,e4]
   ·intro v hv
    obtain ⟨e,he,rfl⟩:=List.mem_map.1 hv
    obtain ⟨p1,p2⟩:=hB e he
    have p5:=hlet e he
    omega
  obtain ⟨K1,es2,hpr,hPr⟩:=prunedE_ev _ es (Nat.le_refl _) hev (Uq.of_nodup hRI.enod) hdet
  have hB2:InB q.length es2:=fun e he=>hB e (hPr.sub.mem he)
  obtain ⟨res,hres⟩:=numE_some (k:=k) hB2 (q.length + 1) 0 [0] [] (by simp) (by simpa using h0q) (by simp) (by omega)
  have hrl:=numE_len hB2 _ 0 [0] [] res (by simp) (by simpa using h0q) (by simp) rfl hres
  obtain ⟨o,ho⟩:=edges_folded hk hev hB h0q (by omega) hlet
  have:=num_of ho hdet hPr hres (by omega)
  subst this
  have hF:FoldedD k (prodD (k:Int) a b q) 0 (some res):=foldedD_iff ho fun s x t=>hdir
  have hP:Prd (k:Int) a b q:=⟨hRI.nodup,hRI.first,hRI.lt,fun u s t y s' t' h1 h2 h3=>by
   obtain ⟨v,v1,_⟩:=hRI.cmp u s t y s' t' (Nat.lt_of_lt_of_le (List.getElem?_eq_some_iff.1 h1).1 hqi) h1 h2 h3
   exact ⟨v,v1⟩⟩
  have l9:=lt_of_heap i5
  refine Store1.at i5 1 (by show 1 < 3; decide) rfl fun W1 h91 hcA _=>?_
  refine LoadT.mk tG (x:=((k:Int),((sq.n:Nat):Int),se,())) (fun j v hv=>by rw [show at0 b9 = Addr.mk b9 0 none from rfl,cellOf h91]; simpa [Ty.cells] using hv) ?_
  have i7':=i7.chg hcA fun ad had he=>by have:=i9 ad.block ⟨ad,had,rfl⟩; have he:ad.block = b9:=he; omega
  refine Ret.call (Pruned_ret false i7'.rd (fun k hk=>OwnT.ltk i7' hk) (OwnT.cap i7') (by omega) hpr) ?_
  rintro ⟨p1,p2,p3,_⟩ W2 ⟨e1,e2,r2,_,_,hcB,_⟩
  have e1:p1 = (k:Int):=e1
  subst e1
  have hl2:es2.length ≤ es.length:=hPr.sub.length_le
  refine Ret.call (Numbered_ret hk.2 r2 (by omega) (B:=q.length) (by omega) hB2 h0q hres) ?_
  rintro ⟨n1,n2,ua,un,_⟩ W3 ⟨e1,e2,hA,hcC,_⟩
  have e1:n1 = ((2 * k:Nat):Int):=e1
  have e2:n2 = 0:=e2
  subst e1 e2
  have h5W:=(hcB.then hcC).heap (hcA.heap i4 fun he=>by have he:b5 = b9:=he; omega) fun h=>h
  refine StoreN.whole (vs:=[.int .i64 ((2 * k:Nat):Int),.int .i64 0,ua.v,un.v]) h5W rfl fun W4 h54 hcD _=>?_
  refine LoadT.mk tA (x:=(((2 * k:Nat):Int),0,ua,un,())) (fun j v hv=>by rw [show at0 b5 = Addr.mk b5 0 none from rfl,cellOf h54]; simpa [Ty.cells] using hv) ?_
  have hwA:Chg Nil w W1:=i1.trans hcA (fun _ _ h=>h) fun i hi he=>by have he:i = b9:=he; omega
  refine ⟨((((2 * k:Nat):Int),0,ua,un,()),((sq.n:Nat):Int),()),rfl,q,res,hP,hF,?_,((hwA.then hcB).then hcC).trans hcD (fun _ _ h=>h) fun i hi he=>by have he:i = b5:=he; omega⟩
  have hAu:AutR 0 W4 ua un (accF res.length) (res.map (·.map ofO)):=(hA.chg hcD fun q hq he=>by have he:q = b5:=he; have:=lt_of_heap i4; have:=hcA.size; have:=hcB.size; omega).mono (Nat.zero_le _)
  have hrr:∀ r ∈ res,r.length = 2 * k:=numE_rows _ _ _ _ res (by simp) hres
  exact ⟨rfl,rfl,hAu,by show (accF res.length).length ≤ maxLen; rw [accF,List.length_map,List.length_range]; simp only [maxLen]; omega,by show (res.map (·.map ofO)).length ≤ maxLen; rw [List.length_map]; simp only [maxLen]; omega,fun r hr=>by
   obtain ⟨r',hr',rfl⟩:=List.mem_map.1 hr
   rw [List.length_map]; have:=hrr r' hr'; simp only [maxLen]; omega⟩
 intro J hJ
 refine LoopT.mk (fun z W=>∃ sq q se es i,z = ((k:Int),at0 b1,at0 b3,at0 b5,sq,at0 b9,((i:Nat):Int),()) ∧ Inv sq q se es W ∧ RI (k:Int) a b q es i ∧ i ≤ q.length) (fun z _=>401 - z.2.2.2.2.2.2.1.toNat)
  ⟨_,_,_,_,0,rfl,hI0,⟨by simp,rfl,by simp; omega,List.nodup_nil,fun u y v h=>by simp at h,fun u s t y s' t' h=>by omega⟩,Nat.zero_le _⟩ ?_
 clear hI0
 rintro z g W ⟨sq,q,se,es,i,rfl,hI,hRI,hiq⟩
 dsimp only
 have hql:q.length ≤ 400:=pairs_len hRI.nodup fun p hp=>by have:=hRI.lt p hp; omega
 have hsn:sq.n = q.length:=by have:=hI.2.2.2.2.2.1.len; simpa using this
 refine Join.by' (fun z V=>z = ((k:Int),at0 b1,at0 b3,at0 b5,sq,at0 b9,((i:Nat):Int),()) ∧ V = W ∧ i < q.length) ?_ ?_
 rotate_left
 ·intro J2 hJ2
  refine Br.dec (fun hlt=>?_) (fun hge=>?_)
  ·have hlt:(i:Int) < ((sq.n:Nat):Int):=hlt
   refine Br.yes (by rw [hsn]; omega) (hJ2 _ _ ⟨rfl,rfl,by rw [hsn] at hlt; omega⟩)
  ·have hge:¬ (i:Int) < ((sq.n:Nat):Int):=hge
   exact Br.f rfl (hJ _ _ ⟨sq,q,se,es,i,rfl,hI,hRI,by rw [hsn] at hge; omega⟩)
 rintro z V g ⟨rfl,hV,hiq2⟩
 rw [hV]; clear hV
 dsimp only
 obtain ⟨⟨s,t⟩,hst⟩:∃ p,q[i]? = some p:=⟨_,List.getElem?_eq_getElem hiq2⟩
 obtain ⟨hsl,htl⟩:=hRI.lt _ (List.mem_of_getElem? hst)
 dsimp only at hsl htl
 obtain ⟨rowA,hrA⟩:∃ r,a.next[s]? = some r:=⟨_,List.getElem?_eq_getElem hsl⟩
 obtain ⟨rowB,hrB⟩:∃ r,b.next[t]? = some r:=⟨_,List.getElem?_eq_getElem htl⟩
 obtain ⟨rslA,hrsA⟩:∃ r,slsA[s]? = some r:=⟨_,List.getElem?_eq_getElem (by rw [hslA]; exact hsl)⟩
 obtain ⟨rslB,hrsB⟩:∃ r,slsB[t]? = some r:=⟨_,List.getElem?_eq_getElem (by rw [hslB]; exact htl)⟩
 have hrrA:=hrwsA s rslA rowA hrsA hrA
 have hrrB:=hrwsB t rslB rowB hrsB hrB
 obtain ⟨hrlA,hrvA⟩:=hrowsA rowA (List.mem_of_getElem? hrA)
 obtain ⟨hrlB,hrvB⟩:=hrowsB rowB (List.mem_of_getElem? hrB)
 have hpair:∀ {q:List (Nat × Nat)} {j u v:Nat},q[j]? = some (u,v) → (q.map ofP)[j]? = some ((u:Int),(v:Int),()):=fun h=>by rw [List.getElem?_map,h]; rfl
 refine LoopT.mk (fun z V=>∃ sq q se es xx,z = ((k:Int),at0 b1,at0 b3,at0 b5,sq,at0 b9,((i:Nat):Int),((xx:Nat):Int),()) ∧ Inv sq q se es V ∧ RI (k:Int) a b q es i ∧ q[i]? = some (s,t) ∧ xx ≤ 2 * k ∧
   ∀ (y s' t':Nat),y < xx → Dl (k:Int) a s y s' → Dl (k:Int) b t y t' → ∃ v:Nat,q[v]? = some (s',t') ∧ (y % 2 = 0 → (i,y,v) ∈ es)) (fun z _=>2 * k - z.2.2.2.2.2.2.2.1.toNat) ⟨sq,q,se,es,0,rfl,hI,hRI,hst,Nat.zero_le _,fun y s' t' h=>by omega⟩ ?_
 clear hI hRI hst hiq2 hiq hsn hql
 rintro z g V ⟨sq,q,se,es,xx,rfl,hI,hRI,hst,hxx,hcmp⟩
 dsimp only
 have hql:q.length ≤ 400:=pairs_len hRI.nodup fun p hp=>by have:=hRI.lt p hp; omega
 have hsn:sq.n = q.length:=by have:=hI.2.2.2.2.2.1.len; simpa using this
 have hil:i < q.length:=(List.getElem?_eq_some_iff.1 hst).1
 have hw2:IntKind.wrap .i64 (2 * (k:Int)) = ((2 * k:Nat):Int):=by rw [wrap64 (by omega) (by omega)]; omega
 have hwx:IntKind.wrap .i64 ((xx:Int) + 1) = ((xx + 1:Nat):Int):=by rw [wrap64 (by omega) (by omega)]; omega
 have hwi:IntKind.wrap .i64 ((i:Int) + 1) = ((i + 1:Nat):Int):=by rw [wrap64 (by omega) (by omega)]; omega
 rw [hw2,hwx,hwi]
 refine Br.dec (fun hlt=>?_) (fun hge=>?_)
 rotate_left
 ·have hge:¬ (xx:Int) < ((2 * k:Nat):Int):=hge
  refine ⟨⟨sq,q,se,es,i + 1,rfl,hI,⟨hRI.nodup,hRI.first,hRI.lt,hRI.enod,hRI.snd,fun u s0 t0 y s' t' hu hq0 h1 h2=>?_⟩,hil⟩,by omega⟩
  by_cases hui:u < i
  ·exact hRI.cmp u s0 t0 y s' t' hui hq0 h1 h2
  ·have:u = i:=by omega
   subst this
   rw [hst] at hq0; cases hq0
   exact hcmp y s' t' (by have:=h1.2.1; omega) h1 h2
 have hlt:(xx:Int) < ((2 * k:Nat):Int):=hlt
 have hxk:xx < 2 * k:=by omega
 have hId:=INil hI (Chg.drew V)
 have hxA:xx < rowA.length:=by omega
 have hxB:xx < rowB.length:=by omega
 have hvA:rowA[xx]? = some rowA[xx]:=List.getElem?_eq_getElem hxA
 have hvB:rowB[xx]? = some rowB[xx]:=List.getElem?_eq_getElem hxB
 have hgA:getN a.next s xx = rowA[xx]:=by
  unfold getN
  rw [List.getD_eq_getElem?_getD (l:=a.next),hrA]
  show rowA.getD xx 0 = _
  rw [List.getD_eq_getElem?_getD,hvA]; rfl
 have hgB:getN b.next t xx = rowB[xx]:=by
  unfold getN
  rw [List.getD_eq_getElem?_getD (l:=b.next),hrB]
  show rowB.getD xx 0 = _
  rw [List.getD_eq_getElem?_getD,hvB]; rfl
 have hbA:=hrvA _ (List.getElem_mem hxA)
 have hbB:=hrvB _ (List.getElem_mem hxB)
 refine LoadT.sc (s:=.sl) (x:=sn) (by rw [show at0 b1 = Addr.mk b1 0 none from rfl,cellOf hId.2.1,← hav]; rfl) ?_
 refine hId.2.2.2.2.2.1.rd.idx (t:=tP) i rfl (hpair hst) fun ad had=>?_
 refine Idx.mk 0 rfl (by decide) ?_
 refine LoadT.sc (s:=.int .i64) (x:=(s:Int)) (by have:=had 0 _ rfl; rw [Fw.add0] at this; rw [Nat.zero_mul,Fw.add0]; exact this) ?_
 refine (hrnA.chg (S:=Nil) hId.1 fun _ _ h=>h).get (t:=.sc .sl) s rfl hrsA ?_
 refine (hrrA.chg (S:=Nil) hId.1 fun _ _ h=>h).get (t:=tI) xx rfl hvA ?_
 refine LoadT.sc (s:=.sl) (x:=tn) (by rw [show at0 b3 = Addr.mk b3 0 none from rfl,cellOf hId.2.2.1,← hbv]; rfl) ?_
 refine hId.2.2.2.2.2.1.rd.idx (t:=tP) i rfl (hpair hst) fun ad had=>?_
 refine Idx.mk 1 rfl (by decide) ?_
 refine LoadT.sc (s:=.int .i64) (x:=(t:Int)) (had 1 _ rfl) ?_
 refine (hrnB.chg (S:=Nil) hId.1 fun _ _ h=>h).get (t:=.sc .sl) t rfl hrsB ?_
 refine (hrrB.chg (S:=Nil) hId.1 fun _ _ h=>h).get (t:=tI) xx rfl hvB ?_
 -- nothing to add
 have skip:(rowA[xx] < 0 ∨ rowB[xx] < 0) → (∃ sq' q' se' es' x',((k:Int),at0 b1,at0 b3,at0 b5,sq,at0 b9,((i:Nat):Int),((xx + 1:Nat):Int),()) = ((k:Int),at0 b1,at0 b3,at0 b5,sq',at0 b9,((i:Nat):Int),((x':Nat):Int),()) ∧ Inv sq' q' se' es' V.drew ∧ RI (k:Int) a b q' es' i ∧ q'[i]? = some (s,t) ∧ x' ≤ 2 * k ∧
   ∀ (y s' t':Nat),y < x' → Dl (k:Int) a s y s' → Dl (k:Int) b t y t' → ∃ v:Nat,q'[v]? = some (s',t') ∧ (y % 2 = 0 → (i,y,v) ∈ es')) ∧ 2 * k - ((xx + 1:Nat):Int).toNat < 2 * k - ((xx:Nat):Int).toNat:=fun hneg=>by
  refine ⟨⟨sq,q,se,es,xx + 1,rfl,hId,hRI,hst,hxk,fun y s' t' hy h1 h2=>?_⟩,by omega⟩
  by_cases hyx:y < xx
  ·exact hcmp y s' t' hyx h1 h2
  ·have:y = xx:=by omega
   subst this
   have e1:=h1.2.2
   have e2:=h2.2.2
   omega
 refine Join.by' (fun z U=>z = ((k:Int),at0 b1,at0 b3,at0 b5,sq,at0 b9,((i:Nat):Int),((xx:Nat):Int),rowA[xx],rowB[xx],()) ∧ U = V.drew ∧ ¬ rowA[xx] < 0 ∧ ¬ rowB[xx] < 0) ?_ ?_
 rotate_left
 ·intro J2 hJ2
  refine Br.dec (fun h=>Br.t rfl (skip (.inl h))) (fun h=>?_)
  exact Br.dec (fun h2=>skip (.inr h2)) (fun h2=>hJ2 _ _ ⟨rfl,rfl,h,h2⟩)
 rintro z U g ⟨rfl,hU,hpA,hpB⟩
 rw [hU]; clear hU
 dsimp only
 obtain ⟨nt,hnt⟩:=Int.eq_ofNat_of_zero_le (show 0 ≤ rowA[xx] by omega)
 obtain ⟨nb,hnb⟩:=Int.eq_ofNat_of_zero_le (show 0 ≤ rowB[xx] by omega)
 have hda:Dl (k:Int) a s xx nt:=⟨hsl,by omega,by rw [hgA,hnt]⟩
 have hdb:Dl (k:Int) b t xx nb:=⟨htl,by omega,by rw [hgB,hnb]⟩
 have hAa:=dl_aut hkk hca
 have hAb:=dl_aut hkk hcb
 have hbnd:nt < a.next.length ∧ nb < b.next.length:=⟨(edge_bas hkk hca hda.1 hda.2.1 hda.2.2).1,(edge_bas hkk hcb hdb.1 hdb.2.1 hdb.2.2).1⟩
 rw [hnt,hnb]
 -- the pair's number
 refine LoopT.mk (fun z U=>∃ (m:Nat) (at':Int),m ≤ q.length ∧ z = ((k:Int),at0 b1,at0 b3,at0 b5,sq,at0 b9,((i:Nat):Int),((xx:Nat):Int),(nt:Int),(nb:Int),at',((m:Nat):Int),()) ∧ Inv sq q se es U ∧ ((at' = -1 ∧ (nt,nb) ∉ q.take m) ∨ ∃ j:Nat,at' = (j:Int) ∧ q[j]? = some (nt,nb)))
  (fun z _=>q.length - z.2.2.2.2.2.2.2.2.2.2.2.1.toNat) ⟨0,-1,Nat.zero_le _,rfl,hId,.inl ⟨rfl,by simp⟩⟩ ?_
 clear hId
 rintro z g U ⟨m,at',hm,rfl,hIU,hat⟩
 dsimp only
 refine Br.dec (fun hlt=>?_) (fun hge=>?_)
 ·have hlt:(m:Int) < ((sq.n:Nat):Int):=hlt
  have hml:m < q.length:=by rw [hsn] at hlt; omega
  obtain ⟨⟨c,d⟩,hcd⟩:∃ p,q[m]? = some p:=⟨_,List.getElem?_eq_getElem hml⟩
  have htk:q.take (m + 1) = q.take m ++ [(c,d)]:=by rw [List.take_add_one,hcd]; rfl
  have hwm:IntKind.wrap .i64 ((m:Int) + 1) = ((m + 1:Nat):Int):=by rw [wrap64 (by omega) (by omega)]; omega
  rw [hwm]
  refine hIU.2.2.2.2.2.1.rd.get (t:=tP) m rfl (hpair hcd) ?_
  refine ⟨_,U,eq_pair96 U _ _ _ _ _ _,?_⟩
  have hmu:q.length - ((m + 1:Nat):Int).toNat < q.length - ((m:Nat):Int).toNat:=by omega
  refine Br.mk (fun h=>⟨⟨m + 1,_,hml,rfl,hIU,.inr ⟨m,rfl,?_⟩⟩,hmu⟩) (fun h=>⟨⟨m + 1,_,hml,rfl,hIU,?_⟩,hmu⟩)
  ·have h:((c:Int) == (nt:Int) && (d:Int) == (nb:Int)) = true:=h
   simp only [Bool.and_eq_true,beq_iff_eq] at h
   rw [hcd]
   congr 1
   apply Prod.ext
   ·show c = nt
    omega
   ·show d = nb
    omega
  ·rcases hat with ⟨h1,h2⟩ | h1
   ·refine .inl ⟨h1,fun hmem=>?_⟩
    rw [htk] at hmem
    rcases List.mem_append.1 hmem with hmem | hmem
    ·exact h2 hmem
    ·simp only [List.mem_singleton,Prod.mk.injEq] at hmem
     obtain ⟨rfl,rfl⟩:=hmem
     have h:((nt:Int) == (nt:Int) && (nb:Int) == (nb:Int)) = false:=h
     simp at h
   ·exact .inr h1
 have hge:¬ (m:Int) < ((sq.n:Nat):Int):=hge
 have hmq:m = q.length:=by rw [hsn] at hge; omega
 subst hmq
 rw [List.take_length] at hat
 refine Join.by' (fun z T=>∃ sq' q' j,z = ((k:Int),at0 b1,at0 b3,at0 b5,sq',at0 b9,((i:Nat):Int),((xx:Nat):Int),((j:Nat):Int),()) ∧ Inv sq' q' se es T ∧ q'[j]? = some (nt,nb) ∧ (∀ (u:Nat) p,q[u]? = some p → q'[u]? = some p) ∧ q'.Nodup ∧ (∀ p ∈ q',p.1 < a.next.length ∧ p.2 < b.next.length) ∧ q'.length ≤ 400) ?_ ?_
 rotate_left
 ·intro J2 hJ2
  refine Br.dec (fun h=>?_) (fun h=>?_)
  ·have h:at' < 0:=h
   have hni:(nt,nb) ∉ q:=by
    rcases hat with ⟨_,h2⟩ | ⟨j,h1,_⟩
    ·exact h2
    ·omega
   obtain ⟨i1,i2,i3,i4,i5,i6,i7,i8,i9⟩:=hIU
   refine New.mk fun b58 U1 hb58 hn58 _ hc58=>?_
   have hlen:(q.map ofP).length = q.length:=List.length_map ..
   have i6':=i6.chg hc58 fun _ _ h=>h
   refine OwnT.append (t:=tP) (m:=1) ok106 rfl (by decide) i6' [((nt:Int),(nb:Int),())] rfl (by decide) (fun i v hv=>by rw [cellOf hn58]; simpa [Ty.cells] using hv) (by rw [hlen]; omega) (by rw [hlen]; simp only [maxLen]; omega) fun sq' U2 ho2 hc2 hown2=>?_
   have hnd:(q ++ [(nt,nb)]).Nodup:=List.nodup_append.2 ⟨hRI.nodup,by simp,fun x hx y hy he=>by simp only [List.mem_singleton] at hy; subst hy; subst he; exact hni hx⟩
   have hlt4:∀ p ∈ q ++ [(nt,nb)],p.1 < a.next.length ∧ p.2 < b.next.length:=fun p hp=>by
    rcases List.mem_append.1 hp with hp | hp
    ·exact hRI.lt p hp
    ·simp only [List.mem_singleton] at hp; subst hp; exact hbnd
   have l9:=lt_of_heap i5
   have z58:=hc58.size
   have hns:∀ {j:Nat},j ≠ b7 → j ≤ b9 → ¬ sq.own j:=fun h1 h2 h3=>by
    rcases i8 _ h3 with h4 | h4
    ·exact h1 h4
    ·omega
   have l1:=lt_of_heap hh1
   have e1:b1 ≠ b7 ∧ b1 ≤ b9:=by omega
   have e3:b3 ≠ b7 ∧ b3 ≤ b9:=by omega
   have e5:b5 ≠ b7 ∧ b5 ≤ b9:=by omega
   have e9:b9 ≠ b7:=by omega
   have htt:∀ {j:Nat},se.own j → ¬ sq.own j:=fun {j} h1 h2=>by
    obtain ⟨c1,h3⟩:=i7.elem h1
    obtain ⟨c2,h4⟩:=i6.elem h2
    rw [h3] at h4; cases h4
   rw [hsn]
   refine hJ2 _ _ ⟨sq',q ++ [(nt,nb)],q.length,rfl,⟨(i1.then hc58).trans hc2 (fun _ _ h=>h) (fun j hj hk=>by rcases i8 j hk with h | h <;> omega),hc2.heap (hc58.heap i2 fun h=>h) (hns e1.1 e1.2),hc2.heap (hc58.heap i3 fun h=>h) (hns e3.1 e3.2),hc2.heap (hc58.heap i4 fun h=>h) (hns e5.1 e5.2),
    hc2.heap (hc58.heap i5 fun h=>h) (hns e9 (Nat.le_refl _)),by rw [List.map_append]; exact ho2,(i7.chg hc58 fun _ _ h=>h).chg hc2 fun ad had hk=>htt ⟨ad,had,rfl⟩ hk,fun j hj=>?_,i9⟩,by simp,fun u p hp=>get_app hp,hnd,hlt4,pairs_len hnd fun p hp=>by have:=hlt4 p hp; omega⟩
   rcases hown2 j hj with h1 | h1
   ·exact i8 j h1
   ·right; omega
  ·have h:¬ at' < 0:=h
   obtain ⟨j,hj1,hj2⟩:∃ j:Nat,at' = (j:Int) ∧ q[j]? = some (nt,nb):=by
    rcases hat with ⟨h1,_⟩ | h1
    ·omega
    ·exact h1
   rw [hj1]
   exact hJ2 _ _ ⟨sq,q,j,rfl,hIU,hj2,fun _ _ h=>h,hRI.nodup,hRI.lt,hql⟩
 rintro z T g ⟨sq',q',j,rfl,hIT,hj,hext,hnd,hlt',hq'l⟩
 dsimp only
 have hmod:Int.tmod (xx:Int) 2 = ((xx % 2:Nat):Int):=by rw [Int.tmod_eq_emod_of_nonneg (by omega)]; omega
 rw [hmod,hwx]
 have hI1:i < q'.length:=by have:=hext i _ hst; exact (List.getElem?_eq_some_iff.1 this).1
 have mk:∀ (es':List Ed),es'.Nodup → (∀ e,e ∈ es → e ∈ es') → (∀ u y v,(u,y,v) ∈ es' → y % 2 = 0 ∧ prodD (k:Int) a b q' u y v) → (xx % 2 = 0 → (i,xx,j) ∈ es') →
   RI (k:Int) a b q' es' i ∧ ∀ (y s' t':Nat),y < xx + 1 → Dl (k:Int) a s y s' → Dl (k:Int) b t y t' → ∃ v:Nat,q'[v]? = some (s',t') ∧ (y % 2 = 0 → (i,y,v) ∈ es'):=fun es' h1 h2 h3 h4=>by
  refine ⟨⟨hnd,hext 0 _ hRI.first,hlt',h1,h3,fun u s0 t0 y s' t' hu hq0 g1 g2=>?_⟩,fun y s' t' hy g1 g2=>?_⟩
  ·have hu3:u < q.length:=by omega
   have e1:q[u]? = some q[u]:=List.getElem?_eq_getElem hu3
   have e2:=hext u _ e1
   rw [hq0] at e2
   rw [← e2] at e1
   obtain ⟨v,v1,v2⟩:=hRI.cmp u s0 t0 y s' t' hu e1 g1 g2
   exact ⟨v,hext _ _ v1,fun hy=>h2 _ (v2 hy)⟩
  ·by_cases hyx:y < xx
   ·obtain ⟨v,v1,v2⟩:=hcmp y s' t' hyx g1 g2
    exact ⟨v,hext _ _ v1,fun hy=>h2 _ (v2 hy)⟩
   ·have:y = xx:=by omega
    subst this
    have e1:=hAa.det _ _ _ _ g1 hda
    have e2:=hAb.det _ _ _ _ g2 hdb
    subst e1 e2
    exact ⟨j,hj,h4⟩
 have hold:∀ u y v,(u,y,v) ∈ es → y % 2 = 0 ∧ prodD (k:Int) a b q' u y v:=fun u y v h=>by
  obtain ⟨g1,c1,c2,c3,c4,c5,c6,c7⟩:=hRI.snd u y v h
  exact ⟨g1,c1,c2,c3,c4,hext _ _ c5,hext _ _ c6,c7⟩
 have hmu:2 * k - ((xx + 1:Nat):Int).toNat < 2 * k - ((xx:Nat):Int).toNat:=by omega
 refine ⟨by decide,?_⟩
 refine Br.mk (fun he=>?_) (fun ho=>?_)
 ·have he:xx % 2 = 0:=by have:((xx % 2:Nat):Int) = 0:=by simpa using he
                         omega
  obtain ⟨i1,i2,i3,i4,i5,i6,i7,i8,i9⟩:=hIT
  refine LoadT.sc (s:=.sl) (x:=se) (by rw [show at0 b9 = Addr.mk b9 0 none from rfl,cellOf i5]; rfl) ?_
  have helen:es.length ≤ 1000000000:=by
   have:=i7.len
   have h2:=OwnT.cap i7
   rcases i7.block with ⟨_,hx⟩ | ⟨g,cur,h3,h4,h5,h6,h7,h8⟩
   ·rw [List.map_eq_nil_iff.1 hx]; simp
   ·have:=nodup_len (400 * 16 * 400) (es.map fun e=>(e.1 * 16 + e.2.1) * 400 + e.2.2) ?_ ?_
    ·simp at this; omega
    ·rw [List.Nodup,List.pairwise_map]
     refine List.Pairwise.imp_of_mem (fun {x y} hx hy hne he=>hne ?_) hRI.enod
     obtain ⟨_,s1,t1,s2,t2,p1,p2,p3,_⟩:=hold x.1 x.2.1 x.2.2 hx
     obtain ⟨_,s3,t3,s4,t4,p4,p5,p6,_⟩:=hold y.1 y.2.1 y.2.2 hy
     have l1:=(List.getElem?_eq_some_iff.1 p1).1
     have l2:=(List.getElem?_eq_some_iff.1 p2).1
     have l3:=p3.2.1
     have l4:=(List.getElem?_eq_some_iff.1 p4).1
     have l5:=(List.getElem?_eq_some_iff.1 p5).1
     have l6:=p6.2.1
     obtain ⟨x1,x2,x3⟩:=x
     obtain ⟨y1,y2,y3⟩:=y
     dsimp only at *
     have e3:x3 = y3:=by omega
     have e2:x1 * 16 + x2 = y1 * 16 + y2:=by omega
     have e1:x1 = y1:=by omega
     have e4:x2 = y2:=by omega
     rw [e1,e3,e4]
    ·intro v hv
     obtain ⟨e,hem,rfl⟩:=List.mem_map.1 hv
     obtain ⟨_,s1,t1,s2,t2,p1,p2,p3,_⟩:=hold e.1 e.2.1 e.2.2 hem
     have l1:=(List.getElem?_eq_some_iff.1 p1).1
     have l2:=(List.getElem?_eq_some_iff.1 p2).1
     have l3:=p3.2.1
     omega
  refine Ret.call (insert_ret i7 helen (i,xx,j)) ?_
  rintro se' T1 ⟨ho1,hcT,hown1⟩
  have l9:=lt_of_heap i5
  have hns:∀ {j:Nat},j ≤ b9 → ¬ se.own j:=fun h1 h2=>by have:=i9 _ h2; omega
  have l1:=lt_of_heap hh1
  refine Store1.at (hcT.heap i5 (hns (Nat.le_refl _))) 2 (by show 2 < 3; decide) rfl fun T2 h92 hcU _=>?_
  have hne:∀ {j:Nat},j ≠ b9 → ¬ (j = b9):=fun h=>h
  have hse:∀ j,se'.own j → b9 < j:=fun j hj=>by
   rcases hown1 j hj with h1 | h1
   ·exact i9 j h1
   ·omega
  have htt:∀ {j:Nat},sq'.own j → ¬ se.own j:=fun {j} h1 h2=>by
   obtain ⟨c1,h3⟩:=i6.elem h1
   obtain ⟨c2,h4⟩:=i7.elem h2
   rw [h3] at h4; cases h4
  have hIT2:Inv sq' q' se' (insertE es (i,xx,j)) T2:=⟨(i1.trans hcT (fun _ _ h=>h) (fun j hj hk=>by have:=i9 j hk; omega)).trans hcU (fun _ _ h=>h) (fun j hj he=>by have he:j = b9:=he; omega),
   hcU.heap (hcT.heap i2 (hns (by omega))) (hne (by omega)),hcU.heap (hcT.heap i3 (hns (by omega))) (hne (by omega)),hcU.heap (hcT.heap i4 (hns (by omega))) (hne (by omega)),h92,
   (i6.chg hcT fun ad had hk=>htt ⟨ad,had,rfl⟩ hk).chg hcU fun ad had he=>by have:=i8 ad.block ⟨ad,had,rfl⟩; have he:ad.block = b9:=he; omega,
   ho1.chg hcU fun ad had he=>by have:=hse ad.block ⟨ad,had,rfl⟩; have he:ad.block = b9:=he; omega,i8,hse⟩
  obtain ⟨m1,m2⟩:=mk (insertE es (i,xx,j)) (insertE_nodup hRI.enod _) (fun e he=>insertE_mem.2 (.inl he)) (fun u y v h=>by
   rcases insertE_mem.1 h with h | h
   ·exact hold u y v h
   ·simp only [Prod.mk.injEq] at h
    obtain ⟨rfl,rfl,rfl⟩:=h
    exact ⟨he,s,t,nt,nb,hext _ _ hst,hj,hda,hdb⟩) (fun _=>insertE_mem.2 (.inr rfl))
  exact ⟨⟨sq',q',se',_,xx + 1,rfl,hIT2,m1,hext _ _ hst,hxk,m2⟩,hmu⟩
 ·have ho:¬ xx % 2 = 0:=fun he=>by rw [he] at ho; simp at ho
  obtain ⟨m1,m2⟩:=mk es hRI.enod (fun e he=>he) hold (fun h=>absurd h ho)
  exact ⟨⟨sq',q',se,es,xx + 1,rfl,hIT,m1,hext _ _ hst,hxk,m2⟩,hmu⟩
end Go.Proofs.YtffdjfkekdoeaaaDoor.Fo
end
section
set_option maxRecDepth 4000
set_option maxHeartbeats 2000000
namespace Go.Proofs.YtffdjfkekdoeaaaDoor.Pl
open Fw Wd Fo Rf
def evE (s:Nat) (l:List (Int × Int × Unit)):List (Int × Int):=(l.filter fun e=>e.1.toNat % 2 == 0).map fun e=>((s:Int),e.1)
def evL:Nat → List (List Int) → List (Int × Int)
 | _,[]=>[]
 | s,row :: l=>evE s (edgesFrom 0 row) ++ evL (s + 1) l
theorem basE_eq (T:Tree) (s:Nat):∀ (l:List (Int × Int × Unit)) (B:Bas),(basE T s l B).number = B.number ++ (evE s l).filter (fun k=>decide (k ∉ T.keys)) ∧ (B.basis.length = B.number.length → (basE T s l B).basis.length = (basE T s l B).number.length)
 | [],B=>by simp [basE,evE]
 | (x,t,u) :: l,B=>by
  simp only [basE]
  have ih:=fun B=>basE_eq T s l B
  by_cases hx:x.toNat % 2 = 0
  ·have he:evE s ((x,t,u) :: l) = ((s:Int),x) :: evE s l:=by simp [evE,hx]
   rw [he]
   by_cases hm:((s:Int),x) ∈ T.keys
   ·rw [if_neg (by rintro ⟨_,h⟩; exact h hm),List.filter_cons_of_neg (by simpa using hm)]
    exact ih B
   ·rw [if_pos ⟨hx,hm⟩,List.filter_cons_of_pos (by simpa using hm)]
    obtain ⟨h1,h2⟩:=ih ⟨B.number ++ [((s:Int),x)],B.basis ++ [ReduceF (T.paths.getD s ⟨#[]⟩ ++ letS x ++ InverseF (T.paths.getD t.toNat ⟨#[]⟩))]⟩
    refine ⟨by rw [h1]; simp,fun h=>h2 (by simp [h])⟩
  ·have he:evE s ((x,t,u) :: l) = evE s l:=by simp [evE,hx]
   rw [he,if_neg (by rintro ⟨h,_⟩; exact hx h)]
   exact ih B
theorem basR_eq (T:Tree):∀ (l:List (List Int)) (s:Nat) (B:Bas),(basR T s l B).number = B.number ++ (evL s l).filter (fun k=>decide (k ∉ T.keys)) ∧ (B.basis.length = B.number.length → (basR T s l B).basis.length = (basR T s l B).number.length)
 | [],s,B=>by simp [basR,evL]
 | row :: l,s,B=>by
  simp only [basR,evL]
  obtain ⟨h1,h2⟩:=basE_eq T s (edgesFrom 0 row) B
  obtain ⟨h3,h4⟩:=basR_eq T l (s + 1) (basE T s (edgesFrom 0 row) B)
  exact ⟨by rw [h3,h1,List.filter_append,List.append_assoc],fun h=>h4 (h2 h)⟩
theorem basF_eq (next:List (List Int)):(basF next).number = (evL 0 next).filter (fun k=>decide (k ∉ (treeF next).keys)) ∧ (basF next).basis.length = (basF next).number.length:=by
 obtain ⟨h1,h2⟩:=basR_eq (treeF next) next 0 ⟨[],[]⟩
 exact ⟨by unfold basF; rw [h1]; rfl,h2 rfl⟩
theorem mem_evE {s:Nat} {l:List (Int × Int × Unit)} {k:Int × Int}:k ∈ evE s l ↔ k.1 = (s:Int) ∧ k.2.toNat % 2 = 0 ∧ ∃ t u,(k.2,t,u) ∈ l:=by
 unfold evE
 constructor
 ·intro h
  obtain ⟨e,he,rfl⟩:=List.mem_map.1 h
  obtain ⟨h1,h2⟩:=List.mem_filter.1 he
  exact ⟨rfl,by simpa using h2,e.2.1,e.2.2,h1⟩
 ·rintro ⟨h1,h2,t,u,h3⟩
  obtain ⟨k1,k2⟩:=k
  dsimp only at h1 h2 h3
  subst h1
  exact List.mem_map.2 ⟨(k2,t,u),List.mem_filter.2 ⟨h3,by simpa using h2⟩,rfl⟩
theorem mem_evL:∀ {l:List (List Int)} {s:Nat} {k:Int × Int},k ∈ evL s l ↔ ∃ (i:Nat) (row:List Int),l[i]? = some row ∧ k.1 = ((s + i:Nat):Int) ∧ k.2.toNat % 2 = 0 ∧ ∃ t u,(k.2,t,u) ∈ edgesFrom 0 row
 | [],s,k=>by simp [evL]
 | row :: l,s,k=>by
  simp only [evL,List.mem_append,mem_evE,mem_evL (l:=l) (s:=s + 1)]
  constructor
  ·rintro (⟨h1,h2,h3⟩ | ⟨i,r,h0,h1,h2,h3⟩)
   ·exact ⟨0,row,rfl,by simpa using h1,h2,h3⟩
   ·exact ⟨i + 1,r,by simpa using h0,by rw [h1]; omega,h2,h3⟩
  ·rintro ⟨i,r,h0,h1,h2,h3⟩
   cases i with
   | zero=>
    simp only [List.getElem?_cons_zero,Option.some.injEq] at h0
    subst h0
    exact .inl ⟨by simpa using h1,h2,h3⟩
   | succ i=>exact .inr ⟨i,r,by simpa using h0,by rw [h1]; omega,h2,h3⟩
theorem evE_nodup (s:Nat) (row:List Int):(evE s (edgesFrom 0 row)).Nodup:=by
 unfold evE
 refine List.Pairwise.map _ (R:=fun a b=>a.1 < b.1) (fun a b h=>?_) ((edges_sorted row 0).sublist List.filter_sublist)
 intro he
 simp only [Prod.mk.injEq,true_and] at he
 omega
theorem evL_nodup:∀ (l:List (List Int)) (s:Nat),(evL s l).Nodup
 | [],s=>List.nodup_nil
 | row :: l,s=>by
  simp only [evL]
  rw [List.nodup_append]
  refine ⟨evE_nodup s row,evL_nodup l (s + 1),fun a ha b hb he=>?_⟩
  subst he
  have h1:=(mem_evE.1 ha).1
  obtain ⟨i,r,_,h2,_⟩:=mem_evL.1 hb
  omega
theorem nodup_sub {α:Type} [DecidableEq α]:∀ (a b:List α),a.Nodup → (∀ x ∈ a,x ∈ b) → a.length ≤ b.length
 | [],b,_,_=>Nat.zero_le _
 | x :: a,b,hn,h=>by
  obtain ⟨h1,h2⟩:=List.nodup_cons.1 hn
  have hx:=h x (by simp)
  have:=nodup_sub a (b.erase x) h2 fun y hy=>by
   have hne:y ≠ x:=fun he=>h1 (he ▸ hy)
   exact (List.mem_erase_of_ne hne).2 (h y (by simp [hy]))
  rw [List.length_erase_of_mem hx] at this
  have hpos:0 < b.length:=List.length_pos_of_mem hx
  simp only [List.length_cons]; omega
theorem filter_count {α:Type} (p:α → Bool):∀ l:List α,(l.filter p).length + (l.filter (fun x=>!p x)).length = l.length
 | []=>rfl
 | x :: l=>by
  have:=filter_count p l
  cases h:p x <;> simp [h] <;> omega
theorem number_count {k:Int} (hk:k ≤ 8) {a:Aut} (hc:a.check k = 0):(basF a.next).number.length + a.next.length = (evL 0 a.next).length + 1:=by
 obtain ⟨hT,hW,hseen⟩:=tree_ok hk hc
 obtain ⟨_,_,_,_,_,_,hrows⟩:=check_spec hc
 rw [(basF_eq a.next).1]
 have h1:=filter_count (fun k=>decide (k ∈ (treeF a.next).keys)) (evL 0 a.next)
 have e:(fun k=>!decide (k ∈ (treeF a.next).keys)) = (fun k=>decide (k ∉ (treeF a.next).keys)):=by funext k; simp
 rw [e] at h1
 have h2:((evL 0 a.next).filter (fun k=>decide (k ∈ (treeF a.next).keys))).length = ((treeF a.next).keys.filter isEven).length:=by
  apply Nat.le_antisymm
  ·refine nodup_sub _ _ ((evL_nodup _ _).sublist List.filter_sublist) fun x hx=>?_
   obtain ⟨hx1,hx2⟩:=List.mem_filter.1 hx
   obtain ⟨i,r,q1,q2,q3,q4⟩:=mem_evL.1 hx1
   exact List.mem_filter.2 ⟨by simpa using hx2,by unfold isEven; simpa using q3⟩
  ·refine nodup_sub _ _ (hW.nodup.sublist List.filter_sublist) fun x hx=>?_
   obtain ⟨hx1,hx2⟩:=List.mem_filter.1 hx
   obtain ⟨x1,x2⟩:=x
   obtain ⟨u',y',t',p1,p2,p3,p4,p5,p6,_⟩:=hW.keyw x1 x2 hx1
   subst p1; subst p2
   have hul:u' < a.next.length:=by omega
   have hrow:a.next[u']? = some a.next[u']:=List.getElem?_eq_getElem hul
   have hg:a.next[u'].getD y' 0 = (t':Int):=by unfold getN at p4; rw [getD_get hul] at p4; exact p4
   refine List.mem_filter.2 ⟨mem_evL.2 ⟨u',_,hrow,by simp,by unfold isEven at hx2; simpa using hx2,a.next[u'].getD y' 0,(),?_⟩,by simpa using hx1⟩
   by_cases hy:y' < a.next[u'].length
   ·have:=edges_of a.next[u'] 0 y' hy (by rw [hg]; omega)
    simpa using this
   · -- the key is a transition: its letter is there
    exfalso
    have h4:=(hrows _ (List.getElem_mem hul)).1
    omega
 have h3:=hW.evens
 omega
theorem graphR_count (s:Nat):∀ (n i:Nat) (row:List Int),row.length = 2 * n → ∀ full:List Int,(∀ j,full.getD (2 * i + j) 0 = row.getD j 0) → (graphR s full i n).length = (evE s (edgesFrom (2 * i) row)).length
 | 0,i,row,h,full,hf=>by
  have:row = []:=List.eq_nil_of_length_eq_zero (by omega)
  subst this; simp [graphR,edgesFrom,evE]
 | n + 1,i,row,h,full,hf=>by
  match row,h with
  | x :: y :: l,h=>
   have h0:full.getD (2 * i) 0 = x:=by have:=hf 0; simpa using this
   have ih:=graphR_count s n (i + 1) l (by simp at h; omega) full (fun j=>by have:=hf (j + 2); rw [show 2 * (i + 1) + j = 2 * i + (j + 2) by omega,this]; simp)
   have e1:((2 * i:Nat):Int).toNat % 2 = 0:=by omega
   have e2:¬ ((2 * i + 1:Nat):Int).toNat % 2 = 0:=by omega
   simp only [graphR,edgesFrom,h0,List.length_append,ih]
   rw [show 2 * i + 1 + 1 = 2 * (i + 1) by omega]
   generalize edgesFrom (2 * (i + 1)) l = Z
   have p1:(((2 * i:Nat):Int).toNat % 2 == 0) = true:=by rw [e1]; rfl
   have p2:(((2 * i + 1:Nat):Int).toNat % 2 == 0) = false:=beq_eq_false_iff_ne.2 e2
   have q1:∀ t u Z,(evE s ((((2 * i:Nat):Int),t,u) :: Z)).length = 1 + (evE s Z).length:=fun t u Z=>by
    unfold evE; rw [List.filter_cons_of_pos (p:=fun e:Int × Int × Unit=>e.1.toNat % 2 == 0) (a:=(((2 * i:Nat):Int),t,u)) p1,List.map_cons,List.length_cons,Nat.add_comm]
   have q2:∀ t u Z,(evE s ((((2 * i + 1:Nat):Int),t,u) :: Z)).length = (evE s Z).length:=fun t u Z=>by
    unfold evE; rw [List.filter_cons_of_neg (p:=fun e:Int × Int × Unit=>e.1.toNat % 2 == 0) (a:=(((2 * i + 1:Nat):Int),t,u)) (by show ¬ (_ == 0) = true; rw [p2]; simp)]
   by_cases hx:0 ≤ x <;> by_cases hy:0 ≤ y <;> simp only [hx,hy,if_true,if_false,q1,q2,List.length_singleton,List.length_nil,Nat.zero_add]
theorem graphL_count {k:Nat}:∀ (l:List (List Int)) (s:Nat),(∀ r ∈ l,r.length = 2 * k) → (graphL k s l).length = (evL s l).length
 | [],s,_=>rfl
 | row :: l,s,h=>by
  simp only [graphL,evL,List.length_append]
  rw [graphL_count l (s + 1) fun r hr=>h r (by simp [hr]),graphR_count s k 0 row (h row (by simp)) row (fun j=>by simp)]
theorem graphR_full (s:Nat) (row:List Int):∀ (n i:Nat),(∀ j,0 ≤ row.getD j 0) → (graphR s row i n).length = n
 | 0,i,_=>rfl
 | n + 1,i,h=>by
  simp only [graphR,if_pos (h (2 * i)),List.length_append,graphR_full s row n (i + 1) h,List.length_singleton]
  omega
theorem graphL_full {k:Nat}:∀ (l:List (List Int)) (s:Nat),(∀ r ∈ l,∀ j,0 ≤ r.getD j 0) → (graphL k s l).length = l.length * k
 | [],s,_=>by simp [graphL]
 | row :: l,s,h=>by
  simp only [graphL,List.length_append,List.length_cons]
  rw [graphL_full l (s + 1) fun r hr=>h r (by simp [hr]),graphR_full s row k 0 (h row (by simp)),Nat.add_mul,Nat.one_mul,Nat.add_comm]
theorem deg_full:∀ (row:List Int),row.length ≤ degF (row.map toO) → ∀ t ∈ row,0 ≤ t
 | [],_,t,h=>by simp at h
 | x :: l,hd,t,ht=>by
  have hl:degF (l.map toO) ≤ l.length:=Nat.le_trans (List.length_filter_le _ _) (by simp)
  have hs:degF ((x :: l).map toO) = degF (l.map toO) + (if 0 ≤ x then 1 else 0):=by
   unfold degF
   simp only [List.map_cons,List.filter_cons]
   by_cases hx:0 ≤ x
   ·have:(toO x).isSome = true:=by unfold toO; rw [if_neg (by omega)]; rfl
    rw [this,if_pos hx]; simp
   ·have:(toO x).isSome = false:=by unfold toO; rw [if_pos (by omega)]; rfl
    rw [this,if_neg hx]; simp
  rw [hs] at hd
  simp only [List.length_cons] at hd
  have hx:0 ≤ x:=by
   by_cases hx:0 ≤ x
   ·exact hx
   ·rw [if_neg hx] at hd; omega
  rw [if_pos hx] at hd
  rcases List.mem_cons.1 ht with rfl | ht
  ·exact hx
  ·exact deg_full l (by omega) t ht
theorem indexes {k:Int} (hk:1 ≤ k ∧ k ≤ 8) {a:Aut} (hc:a.check k = 0):((basisF k a).1.length:Int) = ((graphL k.toNat 0 a.next).length:Int) - (a.next.length:Int) + 1 ∧ (basisF k a).2 = 0 ∧ (indexF k a).2 = 0 ∧ ((indexF k a).1 = 0 ∨ ((basisF k a).1.length:Int) = 1 + (indexF k a).1 * (k - 1)) ∧ (graphL k.toNat 0 a.next).length ≤ 16000 ∧ 0 ≤ (indexF k a).1 ∧ (indexF k a).1 ≤ 2000:=by
 obtain ⟨_,_,h1,h2,_,hs,hr⟩:=check_spec hc
 have hex:examF k [a] [] = 0:=by
  unfold examF
  rw [if_neg (by simpa using hk)]
  simp [hc]
 have hB:basisF k a = ((basF a.next).basis,0):=by simp [basisF,hex]
 have hI:indexF k a = if a.next.any (fun r=>decide ((degF (r.map toO):Int) < 2 * k)) then (0,0) else ((a.next.length:Int),0):=by
  unfold indexF; rw [if_neg (by rw [hex]; simp)]
 have hn:=number_count hk.2 hc
 have hg:=graphL_count (k:=k.toNat) a.next 0 (fun r hm=>by have:=(hr r hm).1; omega)
 have hb:=(basF_eq a.next).2
 have hgl:=graphL_len k.toNat a.next 0
 have hkn:k.toNat * a.next.length ≤ 8 * 2000:=Nat.mul_le_mul (by omega) (by omega)
 refine ⟨by rw [hB]; dsimp only; omega,by rw [hB],by rw [hI]; split <;> rfl,?_,by omega,by rw [hI]; split <;> simp,by rw [hI]; split <;> simp; omega⟩
 rw [hI]
 split
 ·exact .inl rfl
 ·rename_i hany
  refine .inr ?_
  rw [hB]
  dsimp only
  have hfull:=graphL_full (k:=k.toNat) a.next 0 (fun r hm j=>by
   have hd:¬ (degF (r.map toO):Int) < 2 * k:=fun hh=>hany (List.any_eq_true.2 ⟨r,hm,by simpa using hh⟩)
   have hl:=(hr r hm).1
   have:=deg_full r (by omega)
   by_cases hj:j < r.length
   ·rw [getD_get hj]; exact this _ (List.getElem_mem hj)
   ·rw [List.getD_eq_getElem?_getD,List.getElem?_eq_none (by omega)]; exact Int.le_refl _)
  obtain ⟨nk,rfl⟩:=Int.eq_ofNat_of_zero_le (show 0 ≤ k by omega)
  simp only [Int.toNat_natCast] at hfull hg
  rw [Int.mul_sub,Int.mul_one]
  have:((a.next.length * nk:Nat):Int) = (a.next.length:Int) * (nk:Int):=by push_cast; rfl
  rw [← this]
  omega
end Go.Proofs.YtffdjfkekdoeaaaDoor.Pl
end
section
set_option maxRecDepth 4000
set_option maxHeartbeats 2000000
namespace Go.Proofs.YtffdjfkekdoeaaaDoor.Pl
open Fo Rf Wd
def sg (x:Nat):Int:=if x % 2 = 0 then 1 else -1
def lt1 (a b:Nat):Int:=if a < b then 1 else -1
def th (x y:Nat):Int:=lt1 (x ^^^ 1) y
def Qw:List Nat → Int
 | x :: y :: l=>sg x + th x y + Qw (y :: l)
 | _=>0
def Ww:List Nat → List Nat → Int
 | [],_=>0
 | _ :: _,[]=>0
 | [a],b :: r'=>if a = b then (match r' with | []=>0 | y :: l=>th a y + Qw (y :: l)) else Qw (b :: r') + lt1 a b
 | a :: x :: l,b :: r'=>if a = b then (match r' with | []=>-(th a x + Qw (x :: l)) | y :: l'=>Ww (x :: l) (y :: l')) else Qw (b :: r') - Qw (a :: x :: l) + lt1 a b
theorem lt1_anti {a b:Nat} (h:a ≠ b):lt1 b a = - lt1 a b:=by
 unfold lt1; split <;> split <;> omega
theorem lt1_two (a b:Nat):lt1 a b = 1 ∨ lt1 a b = -1:=by unfold lt1; split <;> simp
theorem sg_two (x:Nat):sg x = 1 ∨ sg x = -1:=by unfold sg; split <;> simp
theorem sg_flip (x:Nat):sg (x ^^^ 1) = - sg x:=by
 unfold sg
 rw [xor1]
 split <;> split <;> first | omega | (split at * <;> omega) | simp_all
theorem Qw_even:∀ (u:List Nat),Qw u % 2 = 0
 | []=>rfl
 | [_]=>rfl
 | x :: y :: l=>by
  have ih:=Qw_even (y :: l)
  have h1:=sg_two x
  have h2:=lt1_two (x ^^^ 1) y
  simp only [Qw,th]
  omega
theorem cyc3 {z a b:Nat} (h1:z ≠ a) (h2:z ≠ b) (h3:a ≠ b):lt1 a b + lt1 z a - lt1 z b = 1 ∨ lt1 a b + lt1 z a - lt1 z b = -1:=by
 unfold lt1
 split <;> split <;> split <;> omega
theorem Rd.tail {x:Nat} {l:List Nat} (h:Rd (x :: l)):Rd l:=by
 cases l with
 | nil=>trivial
 | cons y l=>exact h.2
theorem Ww_ne {a b:Nat} {r r':List Nat} (h:a ≠ b):Ww (a :: r) (b :: r') = Qw (b :: r') - Qw (a :: r) + lt1 a b:=by
 cases r with
 | nil=>simp only [Ww,if_neg h,Qw]; omega
 | cons x l=>simp only [Ww,if_neg h]
theorem Ww_eq {a x y:Nat} {l l':List Nat}:Ww (a :: x :: l) (a :: y :: l') = Ww (x :: l) (y :: l'):=by simp only [Ww,if_pos]
theorem Ww_pre {a y:Nat} {l:List Nat}:Ww [a] (a :: y :: l) = th a y + Qw (y :: l):=by simp only [Ww,if_pos]
theorem Ww_post {a y:Nat} {l:List Nat}:Ww (a :: y :: l) [a] = -(th a y + Qw (y :: l)):=by simp only [Ww,if_pos]
theorem Ww_one (a:Nat):Ww [a] [a] = 0:=by simp [Ww]
theorem Ww_self:∀ (u:List Nat),Ww u u = 0
 | []=>rfl
 | [a]=>Ww_one a
 | a :: x :: l=>by rw [Ww_eq]; exact Ww_self (x :: l)
theorem Ww_anti:∀ (u u':List Nat),Ww u' u = - Ww u u'
 | [],[]=>rfl
 | [],_ :: _=>rfl
 | _ :: _,[]=>by cases ‹List Nat› <;> rfl
 | a :: r,b :: r'=>by
  by_cases h:a = b
  ·subst h
   cases r with
   | nil=>cases r' with
    | nil=>rw [Ww_one]; rfl
    | cons y l'=>rw [Ww_pre,Ww_post]
   | cons x l=>cases r' with
    | nil=>rw [Ww_pre,Ww_post]; omega
    | cons y l'=>rw [Ww_eq,Ww_eq]; exact Ww_anti (x :: l) (y :: l')
  ·rw [Ww_ne h,Ww_ne (fun he=>h he.symm),lt1_anti h]; omega
theorem Ww_star:∀ (u u':List Nat),u ≠ [] → u' ≠ [] → Rd u → Rd u' → u ≠ u' → Ww u u' = Qw u' - Qw u + 1 ∨ Ww u u' = Qw u' - Qw u - 1
 | [],_,h,_,_,_,_=>absurd rfl h
 | _ :: _,[],_,h,_,_,_=>absurd rfl h
 | a :: r,b :: r',_,_,hu,hu',hne=>by
  by_cases h:a = b
  ·subst h
   cases r with
   | nil=>cases r' with
    | nil=>exact absurd rfl hne
    | cons y l'=>
     rw [Ww_pre]
     have:=sg_two a
     simp only [Qw]
     omega
   | cons x l=>cases r' with
    | nil=>
     rw [Ww_post]
     have:=sg_two a
     simp only [Qw]
     omega
    | cons y l'=>
     rw [Ww_eq]
     have ih:=Ww_star (x :: l) (y :: l') (by simp) (by simp) hu.tail hu'.tail (fun he=>hne (by rw [he]))
     simp only [Qw]
     by_cases hxy:x = y
     ·subst hxy; omega
     ·have h1:=hu.1
      have h2:=hu'.1
      have h3:=cyc3 (z:=a ^^^ 1) (a:=x) (b:=y) (fun he=>h1 he.symm) (fun he=>h2 he.symm) hxy
      have h4:=Ww_ne (r:=l) (r':=l') hxy
      simp only [th]
      omega
  ·rw [Ww_ne h]
   have:=lt1_two a b
   omega
theorem Ww_nz {u u':List Nat} (h1:u ≠ []) (h2:u' ≠ []) (h3:Rd u) (h4:Rd u') (hne:u ≠ u'):Ww u u' ≠ 0:=by
 have:=Ww_star u u' h1 h2 h3 h4 hne
 have:=Qw_even u
 have:=Qw_even u'
 omega
theorem Ww_le {u u':List Nat} (h1:u ≠ []) (h2:u' ≠ []) (h3:Rd u) (h4:Rd u') (h:0 < Ww u u'):Qw u ≤ Qw u':=by
 by_cases hne:u = u'
 ·subst hne; omega
 ·have:=Ww_star u u' h1 h2 h3 h4 hne
  omega
theorem Ww_trans:∀ (u u' u'':List Nat),u ≠ [] → u' ≠ [] → u'' ≠ [] → Rd u → Rd u' → Rd u'' → 0 < Ww u u' → 0 < Ww u' u'' → 0 < Ww u u''
 | [],_,_,h,_,_,_,_,_,_,_=>absurd rfl h
 | _ :: _,[],_,_,h,_,_,_,_,_,_=>absurd rfl h
 | _ :: _,_ :: _,[],_,_,h,_,_,_,_,_=>absurd rfl h
 | a :: r,b :: r',c :: r'',n1,n2,n3,hu,hu',hu'',h1,h2=>by
  have q1:=Ww_le n1 n2 hu hu' h1
  have q2:=Ww_le n2 n3 hu' hu'' h2
  have e1:=Qw_even (a :: r)
  have e2:=Qw_even (b :: r')
  have e3:=Qw_even (c :: r'')
  by_cases hac:a = c
  ·subst hac
   have hstar:Qw (a :: r) + 2 ≤ Qw (a :: r'') → 0 < Ww (a :: r) (a :: r''):=fun hq=>by
    by_cases hne:a :: r = a :: r''
    ·rw [hne] at hq; omega
    ·have:=Ww_star _ _ n1 n3 hu hu'' hne
     omega
   by_cases hab:a = b
   ·subst hab
    cases r with
    | nil=>
     cases r' with
     | nil=>rw [Ww_one] at h1; omega
     | cons y l'=>
      cases r'' with
      | nil=>rw [Ww_pre] at h1; rw [Ww_post] at h2; omega
      | cons z l''=>
       rw [Ww_pre] at h1 ⊢
       simp only [Qw] at q1 q2 e1 e2 e3
       omega
    | cons x l=>
     cases r' with
     | nil=>
      cases r'' with
      | nil=>rw [Ww_one] at h2; omega
      | cons z l''=>
       rw [Ww_post] at h1
       rw [Ww_pre] at h2
       have:=sg_two a
       simp only [Qw] at hstar e1 e3
       exact hstar (by omega)
     | cons y l'=>
      cases r'' with
      | nil=>
       rw [Ww_post] at h2 ⊢
       simp only [Qw] at q1 q2 e1 e2 e3
       omega
      | cons z l''=>
       rw [Ww_eq] at h1 h2 ⊢
       exact Ww_trans (x :: l) (y :: l') (z :: l'') (by simp) (by simp) (by simp) hu.tail hu'.tail hu''.tail h1 h2
   ·rw [Ww_ne hab] at h1
    rw [Ww_ne (fun he=>hab he.symm),lt1_anti hab] at h2
    exact hstar (by omega)
  ·rw [Ww_ne hac]
   by_cases hab:a = b
   ·subst hab
    rw [Ww_ne hac] at h2
    omega
   ·by_cases hbc:b = c
    ·subst hbc
     rw [Ww_ne hab] at h1
     omega
    ·rw [Ww_ne hab] at h1
     rw [Ww_ne hbc] at h2
     unfold lt1 at *
     split at h1 <;> split at h2 <;> split <;> omega
def mv (x:Nat):List Nat → List Nat
 | []=>[]
 | y :: q=>if y = x ^^^ 1 then (match q with | []=>[x] | z :: l=>z :: l) else x :: y :: q
theorem Ww_mv {x:Nat}:∀ {q q':List Nat},q ≠ [] → q' ≠ [] → Rd q → Rd q' → Ww (mv x q) (mv x q') = Ww q q':=by
 -- one half
 have half:∀ {y y':Nat} {q q':List Nat},Rd (y :: q) → Rd (y' :: q') → y = x ^^^ 1 → Ww (mv x (y :: q)) (mv x (y' :: q')) = Ww (y :: q) (y' :: q'):=by
  intro y y' q q' h h' hy
  subst hy
  by_cases hy':y' = x ^^^ 1
  ·subst hy'
   simp only [mv,if_pos]
   cases q with
   | nil=>cases q' with
    | nil=>rw [Ww_one,Ww_one]
    | cons z l=>
     have hz:x ≠ z:=fun he=>h'.1 (by rw [xor_two]; exact he.symm)
     show Ww [x] (z :: l) = _
     rw [Ww_ne hz,Ww_pre]
     simp only [th,xor_two,Qw]
     omega
   | cons z l=>cases q' with
    | nil=>
     have hz:z ≠ x:=fun he=>h.1 (by rw [xor_two]; exact he)
     show Ww (z :: l) [x] = _
     rw [Ww_ne hz,Ww_post,lt1_anti (fun he=>hz he.symm)]
     simp only [th,xor_two,Qw]
     omega
    | cons z' l'=>
     show Ww (z :: l) (z' :: l') = _
     rw [Ww_eq]
  ·simp only [mv,if_pos,if_neg hy']
   cases q with
   | nil=>
    show Ww [x] (x :: y' :: q') = _
    rw [Ww_pre,Ww_ne (fun he=>hy' he.symm)]
    simp only [th,Qw]
    omega
   | cons z l=>
    have hz:z ≠ x:=fun he=>h.1 (by rw [xor_two]; exact he)
    show Ww (z :: l) (x :: y' :: q') = _
    rw [Ww_ne hz,Ww_ne (fun he=>hy' he.symm),lt1_anti (fun he=>hz he.symm)]
    have:=sg_flip x
    simp only [Qw,th,xor_two]
    omega
 intro q q' n n' h h'
 cases q with
 | nil=>exact absurd rfl n
 | cons y q=>cases q' with
  | nil=>exact absurd rfl n'
  | cons y' q'=>
   by_cases hy:y = x ^^^ 1
   ·exact half h h' hy
   ·by_cases hy':y' = x ^^^ 1
    ·have:=half h' h hy'
     rw [Ww_anti,this,← Ww_anti]
    ·simp only [mv,if_neg hy,if_neg hy']
     rw [Ww_eq]
def Edw (u:List Nat):Prop:=u ≠ [] ∧ Rd u
def LeW (u u':List Nat):Prop:=0 ≤ Ww u u'
theorem LeW.refl (u:List Nat):LeW u u:=by unfold LeW; rw [Ww_self]; omega
theorem LeW.total (u u':List Nat):LeW u u' ∨ LeW u' u:=by unfold LeW; rw [Ww_anti u u']; omega
theorem LeW.lt {u u':List Nat} (h:Edw u) (h':Edw u') (hl:LeW u u') (hne:u ≠ u'):0 < Ww u u':=by
 have:=Ww_nz h.1 h'.1 h.2 h'.2 hne
 unfold LeW at hl
 omega
theorem LeW.trans {u u' u'':List Nat} (h:Edw u) (h':Edw u') (h'':Edw u'') (h1:LeW u u') (h2:LeW u' u''):LeW u u'':=by
 by_cases e1:u = u'
 ·subst e1; exact h2
 ·by_cases e2:u' = u''
  ·subst e2; exact h1
  ·have:=Ww_trans u u' u'' h.1 h'.1 h''.1 h.2 h'.2 h''.2 (h1.lt h h' e1) (h2.lt h' h'' e2)
   exact Int.le_of_lt this
theorem LeW.antisymm {u u':List Nat} (h:Edw u) (h':Edw u') (h1:LeW u u') (h2:LeW u' u):u = u':=Classical.byContradiction fun hne=>by
 have:=h1.lt h h' hne
 unfold LeW at h2
 rw [Ww_anti u u'] at h2
 omega
theorem greatest:∀ (l:List (List Nat)),l ≠ [] → (∀ u ∈ l,Edw u) → ∃ m ∈ l,∀ u ∈ l,LeW u m
 | [],h,_=>absurd rfl h
 | [a],_,_=>⟨a,by simp,fun u hu=>by simp only [List.mem_singleton] at hu; subst hu; exact .refl _⟩
 | a :: b :: l,_,he=>by
  obtain ⟨m,hm,hg⟩:=greatest (b :: l) (by simp) fun u hu=>he u (List.mem_cons_of_mem _ hu)
  have ha:=he a (by simp)
  have hm':=he m (List.mem_cons_of_mem _ hm)
  rcases LeW.total a m with h | h
  ·exact ⟨m,List.mem_cons_of_mem _ hm,fun u hu=>by
    rcases List.mem_cons.1 hu with rfl | hu
    ·exact h
    ·exact hg u hu⟩
  ·exact ⟨a,by simp,fun u hu=>by
    rcases List.mem_cons.1 hu with rfl | hu
    ·exact .refl _
    ·exact (hg u hu).trans (he u (List.mem_cons_of_mem _ hu)) hm' ha h⟩
theorem least {α:Type} (f:α → List Nat):∀ (l:List α),l ≠ [] → (∀ u ∈ l,Edw (f u)) → ∃ m ∈ l,∀ u ∈ l,LeW (f m) (f u)
 | [],h,_=>absurd rfl h
 | [a],_,_=>⟨a,by simp,fun u hu=>by simp only [List.mem_singleton] at hu; subst hu; exact .refl _⟩
 | a :: b :: l,_,he=>by
  obtain ⟨m,hm,hg⟩:=least f (b :: l) (by simp) fun u hu=>he u (List.mem_cons_of_mem _ hu)
  have ha:=he a (by simp)
  have hm':=he m (List.mem_cons_of_mem _ hm)
  rcases LeW.total (f m) (f a) with h | h
  ·exact ⟨m,List.mem_cons_of_mem _ hm,fun u hu=>by
    rcases List.mem_cons.1 hu with rfl | hu
    ·exact h
    ·exact hg u hu⟩
  ·exact ⟨a,by simp,fun u hu=>by
    rcases List.mem_cons.1 hu with rfl | hu
    ·exact .refl _
    ·exact h.trans ha hm' (he u (List.mem_cons_of_mem _ hu)) (hg u hu)⟩
end Go.Proofs.YtffdjfkekdoeaaaDoor.Pl
end
section
set_option maxRecDepth 4000
set_option maxHeartbeats 2000000
namespace Go.Proofs.YtffdjfkekdoeaaaDoor.Pl
open Fo Rf Wd
structure Gq (m:Nat) (vs:List Nat) (es:List Ed):Prop where
 vn:vs.Nodup
 en:es.Nodup
 ev:Evn es
 lt:∀ e ∈ es,e.2.1 + 1 < m
 inn:∀ e ∈ es,e.1 ∈ vs ∧ e.2.2 ∈ vs
 det:Det es
section
variable {m:Nat} {vs:List Nat} {es:List Ed}
theorem Gq.aut (h:Gq m vs es):Aut' (Dir es):=⟨h.det,fun _ _ _ hd=>hd.back⟩
theorem Gq.dlt (h:Gq m vs es) {s x t:Nat} (hd:Dir es s x t):x < m ∧ s ∈ vs ∧ t ∈ vs:=by
 rcases hd with ⟨h1,h2⟩ | ⟨h1,h2⟩
 ·have:=h.lt _ h2; have:=h.inn _ h2; dsimp only at *; exact ⟨by omega,this.1,this.2⟩
 ·have:=h.lt _ h2; have:=h.inn _ h2; dsimp only at *; exact ⟨by omega,this.2,this.1⟩
theorem Gq.run_lt (h:Gq m vs es) {s t:Nat} {l:List Nat} (hr:Run (Dir es) s l t):∀ x ∈ l,x < m:=by
 induction hr with
 | nil s=>intro x hx; simp at hx
 | cons h1 _ ih=>
  intro x hx
  rcases List.mem_cons.1 hx with rfl | hx
  ·exact (h.dlt h1).1
  ·exact ih x hx
end
def Dn (es:List Ed) (N t x:Nat):Prop:=∃ r u,r.length = N ∧ Rd (x :: r) ∧ Run (Dir es) t r u ∧ ∀ p,p ≠ [] → p <+: r → Ww [x] (x :: p) < 0
def BrE (es:List Ed) (N:Nat) (e:Ed):Prop:=Dn es N e.2.2 e.2.1 ∧ Dn es N e.1 (e.2.1 ^^^ 1)
theorem Rd.pfx:∀ {a l:List Nat},a <+: l → Rd l → Rd a
 | _,_,⟨b,rfl⟩,h=>Rd_pre h
theorem Run.pfx {δ:Nat → Nat → Nat → Prop} {s t:Nat} {a l:List Nat} (h:Run δ s l t) (ha:a <+: l):∃ u,Run δ s a u:=by
 obtain ⟨b,rfl⟩:=ha
 obtain ⟨u,h1,_⟩:=h.split
 exact ⟨u,h1⟩
theorem Dn.map {es es':List Ed} {N t x:Nat} {f:Nat → Nat} (hf:∀ s x t,Dir es s x t → Dir es' (f s) x (f t)) (h:Dn es N t x):Dn es' N (f t) x:=by
 obtain ⟨r,u,h1,h2,h3,h4⟩:=h
 exact ⟨r,f u,h1,h2,h3.mono hf,h4⟩
def allW (m:Nat):Nat → List (List Nat)
 | 0=>[[]]
 | n + 1=>(allW m n).flatMap fun l=>(List.range m).map fun x=>x :: l
theorem allW_mem {m:Nat}:∀ {n:Nat} {l:List Nat},l.length = n → (∀ x ∈ l,x < m) → l ∈ allW m n
 | 0,l,h,_=>by rw [List.length_eq_zero_iff.1 h]; simp [allW]
 | n + 1,[],h,_=>by simp at h
 | n + 1,x :: l,h,hx=>by
  simp only [allW,List.mem_flatMap,List.mem_map,List.mem_range]
  exact ⟨l,allW_mem (by simpa using h) fun y hy=>hx y (by simp [hy]),x,hx x (by simp),rfl⟩
def Okw (es:List Ed) (N v:Nat) (l:List Nat):Prop:=l.length = N ∧ Rd l ∧ ∃ u,Run (Dir es) v l u
def Top (l f:List Nat):Prop:=f ≠ [] ∧ f <+: l ∧ ∀ p,p ≠ [] → p <+: l → LeW p f
theorem prefix_take {p l:List Nat} (h:p <+: l) (hp:p ≠ []):∃ i,i < l.length ∧ p = l.take (i + 1):=by
 obtain ⟨b,rfl⟩:=h
 have:0 < p.length:=List.length_pos_iff.2 hp
 refine ⟨p.length - 1,by rw [List.length_append]; omega,?_⟩
 rw [show p.length - 1 + 1 = p.length by omega,List.take_left]
theorem top_ex {l:List Nat} (h:l ≠ []) (hr:Rd l):∃ f,Top l f:=by
 have hl:0 < l.length:=List.length_pos_iff.2 h
 have hne:∀ i,l.take (i + 1) ≠ []:=fun i he=>by
  have:=congrArg List.length he
  rw [List.length_take,List.length_nil] at this
  omega
 obtain ⟨f,hf,hg⟩:=greatest ((List.range l.length).map fun i=>l.take (i + 1)) (by
  intro he
  have:=congrArg List.length he
  simp at this
  exact h this) (fun u hu=>by
  obtain ⟨i,_,rfl⟩:=List.mem_map.1 hu
  exact ⟨hne i,Rd.pfx (List.take_prefix _ _) hr⟩)
 obtain ⟨i,hi,rfl⟩:=List.mem_map.1 hf
 refine ⟨_,hne i,List.take_prefix _ _,fun p hp1 hp2=>hg p ?_⟩
 obtain ⟨j,hj,rfl⟩:=prefix_take hp2 hp1
 exact List.mem_map.2 ⟨j,List.mem_range.2 hj,rfl⟩
noncomputable def tp (l:List Nat):List Nat:=open Classical in if h:∃ f,Top l f then Classical.choose h else []
theorem tp_spec {l:List Nat} (h:l ≠ []) (hr:Rd l):Top l (tp l):=by
 have he:=top_ex h hr
 unfold tp
 rw [dif_pos he]
 exact Classical.choose_spec he
theorem tp_ed {l:List Nat} (h:l ≠ []) (hr:Rd l):Edw (tp l):=by
 obtain ⟨h1,h2,_⟩:=tp_spec h hr
 exact ⟨h1,Rd.pfx h2 hr⟩
theorem best {m:Nat} {vs:List Nat} {es:List Ed} (hG:Gq m vs es) {N v:Nat} (hN:1 ≤ N) (P:List Nat → Prop) (h:∃ l,Okw es N v l ∧ P l):∃ l,Okw es N v l ∧ P l ∧ ∀ l',Okw es N v l' → P l' → LeW (tp l) (tp l'):=by
 classical
 have hmem:∀ l,Okw es N v l → P l → l ∈ (allW m N).filter (fun l=>decide (Okw es N v l ∧ P l)):=fun l h1 h2=>by
  obtain ⟨g1,g2,u,g3⟩:=id h1
  exact List.mem_filter.2 ⟨allW_mem g1 (hG.run_lt g3),decide_eq_true ⟨h1,h2⟩⟩
 obtain ⟨l0,h0,h0'⟩:=h
 have hne:∀ l,Okw es N v l → l ≠ []:=fun l hl he=>by rw [he] at hl; have:=hl.1; simp at this; omega
 obtain ⟨l,hl,hg⟩:=least tp ((allW m N).filter (fun l=>decide (Okw es N v l ∧ P l))) (fun he=>by
  have:=hmem l0 h0 h0'
  rw [he] at this; simp at this) (fun u hu=>by
  have:=of_decide_eq_true (List.mem_filter.1 hu).2
  exact tp_ed (hne u this.1) this.1.2.1)
 have:=of_decide_eq_true (List.mem_filter.1 hl).2
 exact ⟨l,this.1,this.2,fun l' h1 h2=>hg l' (hmem l' h1 h2)⟩
def NoDead (vs:List Nat) (es:List Ed):Prop:=∀ v ∈ vs,∀ x,∃ x' t,x' ≠ x ∧ Dir es v x' t
theorem ext_word {m:Nat} {vs:List Nat} {es:List Ed} (hG:Gq m vs es) (h2:NoDead vs es):∀ (N v x:Nat),v ∈ vs → ∃ l,Okw es N v l ∧ l.head? ≠ some x
 | 0,v,x,hv=>⟨[],⟨rfl,trivial,v,.nil v⟩,by simp⟩
 | N + 1,v,x,hv=>by
  obtain ⟨y,t,hy,hd⟩:=h2 v hv x
  obtain ⟨l,⟨h1,h3,u,h4⟩,h5⟩:=ext_word hG h2 N t (y ^^^ 1) (hG.dlt hd).2.2
  refine ⟨y :: l,⟨by simp [h1],?_,u,.cons hd h4⟩,by simpa using hy⟩
  cases l with
  | nil=>trivial
  | cons z l=>exact ⟨fun he=>h5 (by rw [he]; rfl),h3⟩
section
variable {m:Nat} {vs:List Nat} {es:List Ed} {N:Nat}
def Zv (es:List Ed) (N v z:Nat):Prop:=∃ l,Okw es N v l ∧ l.head? = some z ∧ ∀ l',Okw es N v l' → LeW (tp l) (tp l')
theorem rd_cons {x:Nat} {l:List Nat} (h:Rd l) (hx:l.head? ≠ some (x ^^^ 1)):Rd (x :: l):=by
 cases l with
 | nil=>trivial
 | cons y l=>exact ⟨fun he=>hx (by rw [he]; rfl),h⟩
theorem side (hG:Gq m vs es) (hN:1 ≤ N) {s x t:Nat} (hd:Dir es s x t) {lA lB:List Nat} (hA:Okw es N s lA) (hAx:lA.head? ≠ some x) (hAb:∀ l',Okw es N s l' → l'.head? ≠ some x → LeW (tp lA) (tp l'))
  (hB:Okw es N t lB) (hBx:lB.head? ≠ some (x ^^^ 1)) (hle:LeW (x :: tp lB) (tp lA)) (hnb:¬ (Dn es N t x ∧ Dn es N s (x ^^^ 1))):∃ l,Okw es N s l ∧ l.head? = some x ∧ ∀ l',Okw es N s l' → LeW (tp l) (tp l'):=by
 have hneA:lA ≠ []:=fun he=>by rw [he] at hA; have:=hA.1; simp at this; omega
 have hneB:lB ≠ []:=fun he=>by rw [he] at hB; have:=hB.1; simp at this; omega
 obtain ⟨a1,a2,a3⟩:=tp_spec hneA hA.2.1
 obtain ⟨b1,b2,b3⟩:=tp_spec hneB hB.2.1
 have eA:=tp_ed hneA hA.2.1
 have eB:=tp_ed hneB hB.2.1
 have ex:Edw [x]:=⟨by simp,trivial⟩
 have hxB:Rd (x :: lB):=rd_cons hB.2.1 hBx
 have hxp:∀ p,p <+: lB → Rd (x :: p):=fun p ⟨b,hb⟩=>by rw [← hb] at hxB; exact Rd_pre (a:=x :: p) (b:=b) hxB
 have exB:Edw (x :: tp lB):=⟨by simp,hxp _ b2⟩
 have cons2:∀ p q,p ≠ [] → q ≠ [] → Ww (x :: p) (x :: q) = Ww p q:=fun p q hp hq=>by
  cases p with
  | nil=>exact absurd rfl hp
  | cons y p=>cases q with
   | nil=>exact absurd rfl hq
   | cons z q=>exact Ww_eq
 have hAhead:∀ p,p ≠ [] → p <+: lA → p.head? ≠ some x:=fun p hp ⟨b,hb⟩ he=>by
  cases p with
  | nil=>exact hp rfl
  | cons y p=>rw [← hb] at hAx; exact hAx he
 have hlt:∀ p,p ≠ [] → p <+: lB → LeW (x :: p) (x :: tp lB):=fun p hp hpl=>by
  unfold LeW; rw [cons2 p _ hp b1]; exact b3 p hp hpl
 by_cases hgt:0 < Ww [x] (tp lA)
 · -- the words by x are better
  have hlen:(x :: lB.dropLast).length = N:=by rw [List.length_cons,List.length_dropLast,hB.1]; omega
  have hdl:lB.dropLast <+: lB:=List.dropLast_prefix _
  obtain ⟨u,hu⟩:=hB.2.2
  obtain ⟨u',hu'⟩:=hu.pfx hdl
  have h0:Okw es N s (x :: lB.dropLast):=⟨hlen,hxp _ hdl,u',.cons hd hu'⟩
  obtain ⟨c1,c2,c3⟩:=tp_spec (l:=x :: lB.dropLast) (by simp) h0.2.1
  have e0:=tp_ed (l:=x :: lB.dropLast) (by simp) h0.2.1
  have hless:LeW (tp (x :: lB.dropLast)) (tp lA) ∧ tp (x :: lB.dropLast) ≠ tp lA:=by
   have hh:(tp (x :: lB.dropLast)).head? = some x:=by
    obtain ⟨b,hb⟩:=c2
    cases h:tp (x :: lB.dropLast) with
    | nil=>exact absurd h c1
    | cons y q=>rw [h] at hb; simp only [List.cons_append,List.cons.injEq] at hb; rw [hb.1]; rfl
   refine ⟨?_,fun he=>hAhead _ a1 a2 (by rw [← he]; exact hh)⟩
   obtain ⟨b,hb⟩:=c2
   cases h:tp (x :: lB.dropLast) with
   | nil=>exact absurd h c1
   | cons y q=>
    rw [h] at hb hh e0
    simp only [List.head?_cons,Option.some.injEq] at hh
    subst hh
    simp only [List.cons_append,List.cons.injEq,true_and] at hb
    cases q with
    | nil=>exact Int.le_of_lt hgt
    | cons z q=>exact (hlt (z :: q) (by simp) (List.IsPrefix.trans ⟨b,hb⟩ hdl)).trans e0 exB eA hle
  obtain ⟨l,h1,_,h3⟩:=best hG hN (fun _=>True) ⟨_,h0,trivial⟩
  have hnel:l ≠ []:=fun he=>by rw [he] at h1; have:=h1.1; simp at this; omega
  have el:=tp_ed hnel h1.2.1
  refine ⟨l,h1,Classical.byContradiction fun hne=>?_,fun l' hl'=>h3 l' hl' trivial⟩
  have h4:=hAb l h1 hne
  have h5:=h3 _ h0 trivial
  exact hless.2 (LeW.antisymm e0 eA hless.1 (h4.trans eA el e0 h5))
 · -- the edge is a bridge
  exfalso
  have hne:[x] ≠ tp lA:=fun he=>hAhead _ a1 a2 (by rw [← he]; rfl)
  have hax:LeW (tp lA) [x]:=by unfold LeW; rw [Ww_anti [x]]; omega
  refine hnb ⟨⟨lB,_,hB.1,hxB,hB.2.2.choose_spec,fun p hp hpl=>?_⟩,⟨lA,_,hA.1,rd_cons hA.2.1 (by rw [xor_two]; exact hAx),hA.2.2.choose_spec,fun p hp hpl=>?_⟩⟩
  ·have ep:Edw (x :: p):=⟨by simp,hxp p hpl⟩
   have h1:=((hlt p hp hpl).trans ep exB eA hle).trans ep eA ex hax
   have h2:x :: p ≠ [x]:=fun he=>by simp only [List.cons.injEq,true_and] at he; exact hp he
   have:=h1.lt ep ex h2
   rw [Ww_anti] at this; omega
  ·have ep:Edw p:=⟨hp,Rd.pfx hpl hA.2.1⟩
   have h1:=(a3 p hp hpl).trans ep eA ex hax
   have hh:=hAhead p hp hpl
   have h2:p ≠ [x]:=fun he=>hh (by rw [he]; rfl)
   have h3:=h1.lt ep ex h2
   have h4:=Ww_mv (x:=x ^^^ 1) (q:=[x]) (q':=p) (by simp) hp trivial ep.2
   have m1:mv (x ^^^ 1) [x] = [x ^^^ 1]:=by simp only [mv,xor_two,if_pos]
   have m2:mv (x ^^^ 1) p = (x ^^^ 1) :: p:=by
    cases p with
    | nil=>exact absurd rfl hp
    | cons y p=>simp only [mv,xor_two]; rw [if_neg (fun he=>hh (by rw [he]; rfl))]
   rw [m1,m2] at h4
   rw [h4]
   rw [Ww_anti] at h3; omega
theorem one_end (hG:Gq m vs es) (h2:NoDead vs es) (hN:1 ≤ N) {s x t:Nat} (hd:Dir es s x t) (hnb:¬ (Dn es N t x ∧ Dn es N s (x ^^^ 1))) :
  (∃ l,Okw es N s l ∧ l.head? = some x ∧ ∀ l',Okw es N s l' → LeW (tp l) (tp l')) ∨ (∃ l,Okw es N t l ∧ l.head? = some (x ^^^ 1) ∧ ∀ l',Okw es N t l' → LeW (tp l) (tp l')):=by
 obtain ⟨_,hs,ht⟩:=hG.dlt hd
 obtain ⟨l1,e1,e2⟩:=ext_word hG h2 N s x hs
 obtain ⟨l2,e3,e4⟩:=ext_word hG h2 N t (x ^^^ 1) ht
 obtain ⟨lA,hA,hAx,hAb⟩:=best hG hN (fun l=>l.head? ≠ some x) ⟨l1,e1,e2⟩
 obtain ⟨lB,hB,hBx,hBb⟩:=best hG hN (fun l=>l.head? ≠ some (x ^^^ 1)) ⟨l2,e3,e4⟩
 have hneA:lA ≠ []:=fun he=>by rw [he] at hA; have:=hA.1; simp at this; omega
 have hneB:lB ≠ []:=fun he=>by rw [he] at hB; have:=hB.1; simp at this; omega
 have eA:=tp_ed hneA hA.2.1
 have eB:=tp_ed hneB hB.2.1
 rcases LeW.total (x :: tp lB) (tp lA) with h | h
 ·exact .inl (side hG hN hd hA hAx hAb hB hBx h hnb)
 ·refine .inr (side hG hN hd.back hB hBx hBb hA (by rw [xor_two]; exact hAx) ?_ (by rw [xor_two]; exact fun hh=>hnb ⟨hh.2,hh.1⟩))
  -- seen from the other end
  obtain ⟨a1,a2,a3⟩:=tp_spec hneA hA.2.1
  obtain ⟨b1,b2,b3⟩:=tp_spec hneB hB.2.1
  have hAh:(tp lA).head? ≠ some x:=fun he=>by
   obtain ⟨b,hb⟩:=a2
   cases hq:tp lA with
   | nil=>exact a1 hq
   | cons y q=>rw [hq] at he hb; rw [← hb] at hAx; exact hAx he
  have hxB:Rd (x :: tp lB):=by
   have:=rd_cons hB.2.1 hBx
   obtain ⟨b,hb⟩:=b2
   rw [← hb] at this
   exact Rd_pre (a:=x :: tp lB) (b:=b) this
  have h4:=Ww_mv (x:=x ^^^ 1) (q:=tp lA) (q':=x :: tp lB) a1 (by simp) eA.2 hxB
  have m1:mv (x ^^^ 1) (tp lA) = (x ^^^ 1) :: tp lA:=by
   cases hq:tp lA with
   | nil=>exact absurd hq a1
   | cons y q=>rw [hq] at hAh; simp only [mv,xor_two]; rw [if_neg (fun he=>hAh (by rw [he]; rfl))]
  have m2:mv (x ^^^ 1) (x :: tp lB) = tp lB:=by
   cases hq:tp lB with
   | nil=>exact absurd hq b1
   | cons y q=>simp only [mv,xor_two,if_pos]
  rw [m1,m2] at h4
  unfold LeW at *
  rw [h4]; exact h
theorem beside_le (hG:Gq m vs es) (h2:NoDead vs es) (hN:1 ≤ N) (l:List Ed) (hl:l.Nodup) (hle:∀ e ∈ l,e ∈ es ∧ ¬ BrE es N e):l.length ≤ vs.length:=by
 classical
 let zf:Nat → Nat:=fun v=>if h:∃ z,Zv es N v z then Classical.choose h else 0
 have zuniq:∀ {v z z':Nat},Zv es N v z → Zv es N v z' → z = z':=fun {v z z'} ⟨l1,a1,a2,a3⟩ ⟨l2,b1,b2,b3⟩=>by
  have hne1:l1 ≠ []:=fun he=>by rw [he] at a2; simp at a2
  have hne2:l2 ≠ []:=fun he=>by rw [he] at b2; simp at b2
  have he:=LeW.antisymm (tp_ed hne1 a1.2.1) (tp_ed hne2 b1.2.1) (a3 l2 b1) (b3 l1 a1)
  obtain ⟨c1,⟨q1,c2⟩,_⟩:=tp_spec hne1 a1.2.1
  obtain ⟨d1,⟨q2,d2⟩,_⟩:=tp_spec hne2 b1.2.1
  cases h:tp l1 with
  | nil=>exact absurd h c1
  | cons y q=>
   rw [h] at c2
   rw [← he,h] at d2
   rw [← c2] at a2
   rw [← d2] at b2
   simp only [List.cons_append,List.head?_cons,Option.some.injEq] at a2 b2
   omega
 have zf_eq:∀ {v z:Nat},Zv es N v z → zf v = z:=fun {v z} h=>by
  have he:∃ z,Zv es N v z:=⟨z,h⟩
  show (if h:∃ z,Zv es N v z then Classical.choose h else 0) = z
  rw [dif_pos he]
  exact zuniq (Classical.choose_spec he) h
 let g:Ed → Nat:=fun e=>if zf e.1 = e.2.1 then e.1 else e.2.2
 have hg:∀ e ∈ l,(zf e.1 = e.2.1 ∧ g e = e.1) ∨ (zf e.2.2 = e.2.1 ^^^ 1 ∧ g e = e.2.2):=fun e he=>by
  obtain ⟨h1,h3⟩:=hle e he
  have hd:Dir es e.1 e.2.1 e.2.2:=.inl ⟨hG.ev e h1,h1⟩
  by_cases hz:zf e.1 = e.2.1
  ·exact .inl ⟨hz,if_pos hz⟩
  ·refine .inr ⟨?_,if_neg hz⟩
   rcases one_end hG h2 hN hd h3 with ⟨l1,a1,a2,a3⟩ | ⟨l1,a1,a2,a3⟩
   ·exact absurd (zf_eq ⟨l1,a1,a2,a3⟩) hz
   ·exact zf_eq ⟨l1,a1,a2,a3⟩
 have hinj:(l.map g).Nodup:=by
  rw [List.Nodup,List.pairwise_map]
  refine List.Pairwise.imp_of_mem (fun {e e'} he he' hne heq=>hne ?_) hl
  obtain ⟨h1,_⟩:=hle e he
  obtain ⟨h1',_⟩:=hle e' he'
  have ev:=hG.ev e h1
  have ev':=hG.ev e' h1'
  have d1:Dir es e.1 e.2.1 e.2.2:=.inl ⟨ev,h1⟩
  have d2:Dir es e'.1 e'.2.1 e'.2.2:=.inl ⟨ev',h1'⟩
  obtain ⟨s,x,t⟩:=e
  obtain ⟨s',x',t'⟩:=e'
  have o1:(x ^^^ 1) % 2 = 1:=by rw [xor1,if_pos ev]; dsimp only at ev; omega
  have o2:(x' ^^^ 1) % 2 = 1:=by rw [xor1,if_pos ev']; dsimp only at ev'; omega
  dsimp only at ev ev'
  rcases hg _ he with ⟨p1,p2⟩ | ⟨p1,p2⟩ <;> rcases hg _ he' with ⟨q1,q2⟩ | ⟨q1,q2⟩ <;> rw [p2,q2] at heq <;> dsimp only at p1 q1 heq d1 d2
  ·subst heq
   have:x = x':=by omega
   subst this
   rw [hG.det _ _ _ _ d1 d2]
  ·subst heq; omega
  ·subst heq; omega
  ·subst heq
   have:x ^^^ 1 = x' ^^^ 1:=by omega
   have:x = x':=by rw [← xor_two x,this,xor_two]
   subst this
   rw [hG.det _ _ _ _ d1.back d2.back]
 have:=nodup_sub (l.map g) vs hinj fun v hv=>by
  obtain ⟨e,he,rfl⟩:=List.mem_map.1 hv
  obtain ⟨h1,_⟩:=hle e he
  rcases hg e he with ⟨_,p⟩ | ⟨_,p⟩ <;> rw [p]
  ·exact (hG.inn e h1).1
  ·exact (hG.inn e h1).2
 simpa using this
end
end Go.Proofs.YtffdjfkekdoeaaaDoor.Pl
end
section
set_option maxRecDepth 4000
set_option maxHeartbeats 2000000
namespace Go.Proofs.YtffdjfkekdoeaaaDoor.Pl
open Fo Rf Wd
section
variable {m:Nat} {vs:List Nat} {es:List Ed}
def offV (es:List Ed) (v:Nat):List Ed:=es.filter fun e=>decide (e.1 ≠ v ∧ e.2.2 ≠ v)
theorem off_mem {v:Nat} {e:Ed}:e ∈ offV es v ↔ e ∈ es ∧ e.1 ≠ v ∧ e.2.2 ≠ v:=by unfold offV; rw [List.mem_filter,decide_eq_true_iff]
theorem off_gq (hG:Gq m vs es) (v:Nat):Gq m (vs.erase v) (offV es v) where
 vn:=hG.vn.erase v
 en:=List.Nodup.sublist List.filter_sublist hG.en
 ev:=fun e he=>hG.ev e (off_mem.1 he).1
 lt:=fun e he=>hG.lt e (off_mem.1 he).1
 inn:=fun e he=>by
  obtain ⟨h1,h2,h3⟩:=off_mem.1 he
  obtain ⟨h4,h5⟩:=hG.inn e h1
  exact ⟨(List.mem_erase_of_ne h2).2 h4,(List.mem_erase_of_ne h3).2 h5⟩
 det:=hG.det.sub fun e he=>(off_mem.1 he).1
theorem one_len {α:Type} {l:List α} (hn:l.Nodup) (h:∀ a ∈ l,∀ b ∈ l,a = b):l.length ≤ 1:=by
 match l,hn,h with
 | [],_,_=>simp
 | [a],_,_=>simp
 | a :: b :: l,hn,h=>
  have:=h a (by simp) b (by simp)
  subst this
  simp at hn
theorem off_len (hG:Gq m vs es) {v x:Nat} (h:∀ x' t,Dir es v x' t → x' = x):es.length ≤ (offV es v).length + 1:=by
 have h1:es.length = (offV es v).length + (es.filter fun e=>!decide (e.1 ≠ v ∧ e.2.2 ≠ v)).length:=by
  unfold offV
  rw [← List.countP_eq_length_filter,← List.countP_eq_length_filter,List.length_eq_countP_add_countP (fun e:Ed=>decide (e.1 ≠ v ∧ e.2.2 ≠ v))]
  congr 1
  exact List.countP_congr fun e _=>by simp
 have h2:=one_len (l:=es.filter fun e=>!decide (e.1 ≠ v ∧ e.2.2 ≠ v)) (List.Nodup.sublist List.filter_sublist hG.en) fun a ha b hb=>by
  obtain ⟨a1,a2⟩:=List.mem_filter.1 ha
  obtain ⟨b1,b2⟩:=List.mem_filter.1 hb
  have ea:=hG.ev a a1
  have eb:=hG.ev b b1
  obtain ⟨s,y,t⟩:=a
  obtain ⟨s',y',t'⟩:=b
  dsimp only at *
  have d1:Dir es s y t:=.inl ⟨ea,a1⟩
  have d2:Dir es s' y' t':=.inl ⟨eb,b1⟩
  have p1:(s = v ∧ y = x) ∨ (t = v ∧ y ^^^ 1 = x):=by
   by_cases hs:s = v
   ·subst hs; exact .inl ⟨rfl,h _ _ d1⟩
   ·have ht:t = v:=by simpa [hs] using a2
    subst ht; exact .inr ⟨rfl,h _ _ d1.back⟩
  have p2:(s' = v ∧ y' = x) ∨ (t' = v ∧ y' ^^^ 1 = x):=by
   by_cases hs:s' = v
   ·subst hs; exact .inl ⟨rfl,h _ _ d2⟩
   ·have ht:t' = v:=by simpa [hs] using b2
    subst ht; exact .inr ⟨rfl,h _ _ d2.back⟩
  have o1:(y ^^^ 1) % 2 = 1:=by rw [xor1,if_pos ea]; omega
  have o2:(y' ^^^ 1) % 2 = 1:=by rw [xor1,if_pos eb]; omega
  rcases p1 with ⟨rfl,rfl⟩ | ⟨rfl,rfl⟩ <;> rcases p2 with ⟨q1,q2⟩ | ⟨q1,q2⟩
  ·subst q1 q2; rw [hG.det _ _ _ _ d1 d2]
  ·omega
  ·omega
  ·have:y' = y:=by rw [← xor_two y',q2,xor_two]
   subst this q1
   rw [hG.det _ _ _ _ d1.back d2.back]
 omega
theorem erase_len {v:Nat} (h:v ∈ vs):(vs.erase v).length + 1 = vs.length:=by
 rw [List.length_erase_of_mem h]
 have:=List.length_pos_of_mem h
 omega
theorem prune_ex:∀ (n:Nat) (vs:List Nat) (es:List Ed),vs.length = n → Gq m vs es → vs.length < es.length →
  ∃ vs' es',Gq m vs' es' ∧ NoDead vs' es' ∧ es.length + vs'.length ≤ es'.length + vs.length ∧ ∀ e ∈ es',e ∈ es
 | 0,vs,es,h0,hG,hlt=>by
  rw [List.length_eq_zero_iff.1 h0] at hG
  cases es with
  | nil=>simp at hlt
  | cons e es=>have:=(hG.inn e (by simp)).1; simp at this
 | n + 1,vs,es,hn,hG,hlt=>by
  by_cases h2:NoDead vs es
  ·exact ⟨vs,es,hG,h2,Nat.le_refl _,fun _ h=>h⟩
  ·unfold NoDead at h2
   simp only [Classical.not_forall,not_exists,not_and] at h2
   obtain ⟨v,hv,x,hx⟩:=h2
   have hx':∀ x' t,Dir es v x' t → x' = x:=fun x' t hd=>Classical.byContradiction fun hne=>hx x' t hne hd
   have l1:=off_len hG hx'
   have l2:=erase_len hv
   obtain ⟨vs',es',a1,a2,a3,a4⟩:=prune_ex n (vs.erase v) (offV es v) (by omega) (off_gq hG v) (by omega)
   exact ⟨vs',es',a1,a2,by omega,fun e he=>(off_mem.1 (a4 e he)).1⟩
theorem BrE.sub {es':List Ed} (h:∀ e ∈ es',e ∈ es) {N:Nat} {e:Ed} (hb:BrE es' N e):BrE es N e:=
 ⟨Dn.map (f:=id) (fun s x t hd=>hd.mono h) hb.1,Dn.map (f:=id) (fun s x t hd=>hd.mono h) hb.2⟩
theorem bridges_ge (hG:Gq m vs es) (hlt:vs.length < es.length) {N:Nat} (hN:1 ≤ N):∃ br:List Ed,br.Nodup ∧ (∀ e ∈ br,e ∈ es ∧ BrE es N e) ∧ es.length ≤ vs.length + br.length:=by
 classical
 obtain ⟨vs',es',a1,a2,a3,a4⟩:=prune_ex _ vs es rfl hG hlt
 have h1:=beside_le a1 a2 hN (es'.filter fun e=>!decide (BrE es' N e)) (List.Nodup.sublist List.filter_sublist a1.en) fun e he=>by
  obtain ⟨g1,g2⟩:=List.mem_filter.1 he
  exact ⟨g1,by simpa using g2⟩
 have h2:es'.length = (es'.filter fun e=>decide (BrE es' N e)).length + (es'.filter fun e=>!decide (BrE es' N e)).length:=by
  rw [← List.countP_eq_length_filter,← List.countP_eq_length_filter,List.length_eq_countP_add_countP (fun e:Ed=>decide (BrE es' N e))]
  congr 1
  exact List.countP_congr fun e _=>by simp
 refine ⟨es'.filter fun e=>decide (BrE es' N e),List.Nodup.sublist List.filter_sublist a1.en,fun e he=>?_,by omega⟩
 obtain ⟨g1,g2⟩:=List.mem_filter.1 he
 exact ⟨a4 e g1,BrE.sub a4 (of_decide_eq_true g2)⟩
inductive TreeI (δ:Nat → Nat → Nat → Prop):List (Nat × List Nat) → List Ed → Prop
 | root (v:Nat):TreeI δ [(v,[])] []
 | add {I:List (Nat × List Nat)} {L:List Ed} {v y w:Nat} {p:List Nat}:TreeI δ I L → (v,p) ∈ I → (∀ q ∈ I,q.1 ≠ w) → δ v y w → TreeI δ ((w,p ++ [y]) :: I) (edgeR v y w :: L)
theorem TreeI.mono {δ ε:Nat → Nat → Nat → Prop} (h:∀ s x t,δ s x t → ε s x t) {I:List (Nat × List Nat)} {L:List Ed} (hT:TreeI δ I L):TreeI ε I L:=by
 induction hT with
 | root v=>exact .root v
 | add _ h1 h2 h3 ih=>exact .add ih h1 h2 (h _ _ _ h3)
theorem few (hG:Gq m vs es) (hlt:es.length < vs.length):¬ NoDead vs es:=fun h2=>by
 have hch:∀ v,∃ d:Nat × Nat,v ∈ vs → d.1 ≠ d.2 ∧ (∃ t,Dir es v d.1 t) ∧ ∃ t,Dir es v d.2 t:=fun v=>by
  by_cases hv:v ∈ vs
  ·obtain ⟨x,t,_,h3⟩:=h2 v hv 0
   obtain ⟨y,u,h4,h5⟩:=h2 v hv x
   exact ⟨(x,y),fun _=>⟨fun he=>h4 he.symm,⟨t,h3⟩,u,h5⟩⟩
  ·exact ⟨(0,0),fun h=>absurd h hv⟩
 have ⟨d,hd⟩:=Classical.axiomOfChoice hch
 have hP:∀ l:List Nat,l.Nodup → (∀ v ∈ l,v ∈ vs) → (l.flatMap fun v=>[(v,(d v).1),(v,(d v).2)]).Nodup:=fun l=>by
  induction l with
  | nil=>intro _ _; simp
  | cons v l ih=>
   intro hn hl
   rw [List.flatMap_cons,List.nodup_append]
   refine ⟨?_,ih (List.nodup_cons.1 hn).2 fun u hu=>hl u (by simp [hu]),fun a ha b hb he=>?_⟩
   ·have:=(hd v (hl v (by simp))).1
    simp [this]
   ·subst he
    obtain ⟨u,hu,hb⟩:=List.mem_flatMap.1 hb
    have e1:a.1 = v:=by simp at ha; rcases ha with rfl | rfl <;> rfl
    have e2:a.1 = u:=by simp at hb; rcases hb with rfl | rfl <;> rfl
    rw [← e1,e2] at hn
    exact (List.nodup_cons.1 hn).1 hu
 have hsub:=nodup_sub (vs.flatMap fun v=>[(v,(d v).1),(v,(d v).2)]) (es.flatMap fun e=>[(e.1,e.2.1),(e.2.2,e.2.1 + 1)]) (hP vs hG.vn fun _ h=>h) fun a ha=>by
  obtain ⟨v,hv,ha⟩:=List.mem_flatMap.1 ha
  obtain ⟨_,⟨t,ht⟩,u,hu⟩:=hd v hv
  have key:∀ {x t},Dir es v x t → (v,x) ∈ es.flatMap fun e=>[(e.1,e.2.1),(e.2.2,e.2.1 + 1)]:=fun {x t} hh=>by
   rcases hh with ⟨h1,h2⟩ | ⟨h1,h2⟩
   ·exact List.mem_flatMap.2 ⟨_,h2,by simp⟩
   ·refine List.mem_flatMap.2 ⟨_,h2,?_⟩
    have:x - 1 + 1 = x:=by omega
    simp [this]
  simp at ha
  rcases ha with rfl | rfl
  ·exact key ht
  ·exact key hu
 have l1:∀ l:List Nat,(l.flatMap fun v=>[(v,(d v).1),(v,(d v).2)]).length = 2 * l.length:=fun l=>by
  induction l with
  | nil=>rfl
  | cons v l ih=>rw [List.flatMap_cons,List.length_append,ih]; simp; omega
 have l2:∀ l:List Ed,(l.flatMap fun e=>[(e.1,e.2.1),(e.2.2,e.2.1 + 1)]).length = 2 * l.length:=fun l=>by
  induction l with
  | nil=>rfl
  | cons v l ih=>rw [List.flatMap_cons,List.length_append,ih]; simp; omega
 rw [l1,l2] at hsub
 omega
theorem tree_ex:∀ (n:Nat) (vs:List Nat) (es:List Ed),vs.length = n → Gq m vs es → es.length < vs.length →
  ∃ I L,TreeI (Dir es) I L ∧ (∀ q ∈ I,q.1 ∈ vs) ∧ ∀ u y w p,(u,p) ∈ I → Dir es u y w → Dir L u y w
 | 0,vs,es,h0,hG,hlt=>by omega
 | n + 1,vs,es,hn,hG,hlt=>by
  have h2:=few hG hlt
  unfold NoDead at h2
  simp only [Classical.not_forall,not_exists,not_and] at h2
  obtain ⟨v,hv,x,hx⟩:=h2
  have hx':∀ x' t,Dir es v x' t → x' = x:=fun x' t hd=>Classical.byContradiction fun hne=>hx x' t hne hd
  by_cases hdeg:∃ t,Dir es v x t
  ·obtain ⟨t,ht⟩:=hdeg
   have l1:=off_len hG hx'
   have l2:=erase_len hv
   -- an edge is gone
   have l3:(offV es v).length < es.length:=by
    have hmem:∃ e ∈ es,¬ (e.1 ≠ v ∧ e.2.2 ≠ v):=by
     rcases ht with ⟨_,h⟩ | ⟨_,h⟩
     ·exact ⟨_,h,fun hh=>hh.1 rfl⟩
     ·exact ⟨_,h,fun hh=>hh.2 rfl⟩
    obtain ⟨e,he,hne⟩:=hmem
    have hle:(offV es v).length ≤ es.length:=List.length_filter_le _ _
    rcases Nat.lt_or_ge (offV es v).length es.length with h | h
    ·exact h
    ·exfalso
     have heq:offV es v = es:=List.Sublist.eq_of_length List.filter_sublist (by omega)
     rw [← heq] at he
     exact hne (off_mem.1 he).2
   obtain ⟨I,L,a1,a2,a3⟩:=tree_ex n (vs.erase v) (offV es v) (by omega) (off_gq hG v) (by omega)
   have hoff:∀ {a y b},Dir es a y b → a ≠ v → b ≠ v → Dir (offV es v) a y b:=fun {a y b} hd h1 h2=>by
    rcases hd with ⟨g1,g2⟩ | ⟨g1,g2⟩
    ·exact .inl ⟨g1,off_mem.2 ⟨g2,h1,h2⟩⟩
    ·exact .inr ⟨g1,off_mem.2 ⟨g2,h2,h1⟩⟩
   have hIv:∀ q ∈ I,q.1 ≠ v ∧ q.1 ∈ vs:=fun q hq=>by
    have h1:=a2 q hq
    refine ⟨fun he=>?_,List.mem_of_mem_erase h1⟩
    rw [he] at h1
    exact (List.Nodup.mem_erase_iff hG.vn).1 h1 |>.1 rfl
   have a1':=a1.mono (ε:=Dir es) fun s x t hd=>hd.mono fun e he=>(off_mem.1 he).1
   have htv:∀ {y w},Dir es v y w → y = x ∧ w = t:=fun {y w} hd=>by
    have:=hx' _ _ hd
    subst this
    exact ⟨rfl,hG.det _ _ _ _ hd ht⟩
   by_cases hin:∃ p,(t,p) ∈ I
   ·obtain ⟨p,hp⟩:=hin
    refine ⟨_,_,.add a1' hp (fun q hq=>(hIv q hq).1) ht.back,fun q hq=>?_,fun u y w p' hu hd=>?_⟩
    ·rcases List.mem_cons.1 hq with rfl | hq
     ·exact hv
     ·exact (hIv q hq).2
    ·have hone:∀ {a z b},((a,z,b) = (t,x ^^^ 1,v) ∨ (a,z,b) = (v,(x ^^^ 1) ^^^ 1,t)) → Dir (edgeR t (x ^^^ 1) v :: L) a z b:=fun {a z b} h=>
      ((dir_edge (s:=t) (x:=x ^^^ 1) (t:=v)).2 h).mono fun e he=>by simp only [List.mem_singleton] at he; subst he; simp
     rcases List.mem_cons.1 hu with hu | hu
     ·simp only [Prod.mk.injEq] at hu
      obtain ⟨rfl,_⟩:=hu
      obtain ⟨rfl,rfl⟩:=htv hd
      exact hone (.inr (by rw [xor_two]))
     ·have huv:=(hIv _ hu).1
      dsimp only at huv
      by_cases hw:w = v
      ·subst hw
       obtain ⟨h3,rfl⟩:=htv hd.back
       refine hone (.inl ?_)
       rw [← h3,xor_two]
      ·exact (a3 u y w p' hu (hoff hd huv hw)).mono fun e he=>by simp [he]
   ·refine ⟨I,L,a1',fun q hq=>(hIv q hq).2,fun u y w p' hu hd=>a3 u y w p' hu (hoff hd (hIv _ hu).1 fun hw=>?_)⟩
    subst hw
    obtain ⟨_,rfl⟩:=htv hd.back
    exact hin ⟨p',hu⟩
  ·refine ⟨[(v,[])],[],.root v,fun q hq=>by simp only [List.mem_singleton] at hq; subst hq; exact hv,fun u y w p hu hd=>?_⟩
   simp only [List.mem_singleton,Prod.mk.injEq] at hu
   obtain ⟨rfl,_⟩:=hu
   have:=hx' _ _ hd
   subst this
   exact absurd ⟨w,hd⟩ hdeg
end
end Go.Proofs.YtffdjfkekdoeaaaDoor.Pl
end
section
set_option maxRecDepth 4000
set_option maxHeartbeats 2000000
namespace Go.Proofs.YtffdjfkekdoeaaaDoor.Pl
open Fo Rf Wd
theorem lcp:∀ (P p:List Nat),∃ c s s',P = c ++ s ∧ p = c ++ s' ∧ ∀ a b,s.head? = some a → s'.head? = some b → a ≠ b
 | [],p=>⟨[],[],p,rfl,rfl,fun a b h=>by simp at h⟩
 | a :: P,[]=>⟨[],a :: P,[],rfl,rfl,fun a b _ h=>by simp at h⟩
 | a :: P,b :: p=>by
  by_cases h:a = b
  ·subst h
   obtain ⟨c,s,s',h1,h2,h3⟩:=lcp P p
   exact ⟨a :: c,s,s',by rw [h1]; rfl,by rw [h2]; rfl,h3⟩
  ·exact ⟨[],a :: P,b :: p,rfl,rfl,fun x y hx hy=>by simp at hx hy; omega⟩
theorem Rd.suf {a b:List Nat} (h:Rd (a ++ b)):Rd b:=by
 induction a with
 | nil=>exact h
 | cons x a ih=>exact ih (Rd.tail (x:=x) h)
theorem inv_last (a:Nat) (s:List Nat):(inv (a :: s)).getLast? = some (a ^^^ 1):=by rw [inv_cons]; simp
theorem conn_eq {P p:List Nat} (hP:Rd P) (hp:Rd p):∃ c s s',P = c ++ s ∧ p = c ++ s' ∧ rd (inv P ++ p) = inv s ++ s':=by
 obtain ⟨c,s,s',h1,h2,h3⟩:=lcp P p
 refine ⟨c,s,s',h1,h2,?_⟩
 rw [h1] at hP
 rw [h2] at hp
 have hr:Rd (inv s ++ s'):=Rd_app (Rd_inv hP.suf) hp.suf fun y z hy hz he=>by
  cases s with
  | nil=>simp [inv] at hy
  | cons a s=>
   rw [inv_last] at hy
   simp only [Option.some.injEq] at hy
   refine h3 a z rfl hz ?_
   rw [he,← hy,xor_two]
 have hs:Same (inv P ++ p) (inv s ++ s'):=by
  rw [h1,h2,inv_app]
  have e:inv s ++ inv c ++ (c ++ s') = inv s ++ (inv c ++ c) ++ s':=by simp
  rw [e]
  have:=((Same.refl (inv s)).app (same_inv' c)).app (Same.refl s')
  rwa [List.append_nil] at this
 rw [hs.rd_eq,hr.self]
theorem rd_conn {P p:List Nat} {z:Nat} (hP:Rd P) (hp:Rd (p ++ [z])) (hn:¬ (p ++ [z]) <+: P):Rd (rd (inv P ++ p) ++ [z]):=by
 obtain ⟨c,s,s',h1,h2,h3⟩:=conn_eq hP (Rd_pre hp)
 refine Rd.snoc (rd_rd _) fun hl=>?_
 rw [h3] at hl
 rcases List.eq_nil_or_concat s' with rfl | ⟨s'',l,rfl⟩
 ·rw [List.append_nil] at hl h2
  cases s with
  | nil=>simp [inv] at hl
  | cons a s=>
   rw [inv_last] at hl
   simp only [Option.some.injEq] at hl
   have:a = z:=by rw [← xor_two a,hl,xor_two]
   subst this
   exact hn ⟨s,by rw [h1,h2]; simp⟩
 ·rw [List.concat_eq_append,← List.append_assoc] at hl h2
  rw [h2] at hp
  simp only [List.getLast?_append,List.getLast?_singleton,Option.some_or,Option.some.injEq] at hl
  subst hl
  have:=(Rd.unsnoc hp).2
  simp at this
theorem rd_cons_eq {y:Nat} {t:List Nat} (h:Rd t):rd (y :: t) = if t.head? = some (y ^^^ 1) then t.tail else y :: t:=by
 split
 ·rename_i hh
  cases t with
  | nil=>simp at hh
  | cons a t=>
   simp only [List.head?_cons,Option.some.injEq] at hh
   subst hh
   have hs:Same (y :: (y ^^^ 1) :: t) t:=by
    have:=(same_pair y).app (Same.refl t)
    exact this
   rw [hs.rd_eq]
   exact h.tail.self
 ·rename_i hh
  exact (rd_cons h hh).self
theorem mv_conn {P p:List Nat} {x z:Nat} (hP:Rd (P ++ [x])) (hp:Rd (p ++ [z])):mv x (rd (inv (P ++ [x]) ++ p) ++ [z]) = rd (inv P ++ p) ++ [z]:=by
 have e0:inv (P ++ [x]) ++ p = (x ^^^ 1) :: (inv P ++ p):=by rw [inv_app]; rfl
 have e1:rd (inv (P ++ [x]) ++ p) = rd ((x ^^^ 1) :: rd (inv P ++ p)):=by
  rw [e0]
  have h:Same ((x ^^^ 1) :: (inv P ++ p)) ((x ^^^ 1) :: rd (inv P ++ p)):=(Same.refl [x ^^^ 1]).app (same_rd _).symm
  exact h.rd_eq
 have ht:Rd (rd (inv P ++ p)):=rd_rd _
 rw [e1,rd_cons_eq ht,xor_two]
 split
 ·rename_i hh
  cases hq:rd (inv P ++ p) with
  | nil=>rw [hq] at hh; simp at hh
  | cons a t=>
   rw [hq] at hh ht
   simp only [List.head?_cons,Option.some.injEq] at hh
   subst hh
   cases t with
   | nil=>
    have hpe:p = P ++ [a]:=by
     have h1:Same (inv P ++ p) [a]:=by have:=(same_rd (inv P ++ p)).symm; rwa [hq] at this
     have h2:Same (P ++ (inv P ++ p)) (P ++ [a]):=(Same.refl P).app h1
     have h3:Same (P ++ (inv P ++ p)) p:=by
      have e:P ++ (inv P ++ p) = (P ++ inv P) ++ p:=by simp
      rw [e]
      exact (same_inv P).app (Same.refl p)
     have h4:=(h3.symm.trans h2).rd_eq
     rwa [(Rd_pre hp).self,hP.self] at h4
    rw [hpe] at hp
    have:=(Rd.unsnoc hp).2
    simp only [List.getLast?_append,List.getLast?_singleton,Option.some_or,ne_eq,Option.some.injEq] at this
    show mv a [z] = [a,z]
    simp only [mv]
    rw [if_neg (fun he=>this (by rw [he,xor_two]))]
   | cons b t=>
    show mv a (b :: (t ++ [z])) = _
    simp only [mv]
    rw [if_neg ht.1]; rfl
 ·show mv x ((x ^^^ 1) :: (rd (inv P ++ p) ++ [z])) = _
  simp only [mv,if_pos]
  cases h:rd (inv P ++ p) ++ [z] with
  | nil=>simp at h
  | cons a t=>rfl
theorem Ww_root:∀ (n:Nat) (P p1 p2:List Nat) (z1 z2:Nat),P.length = n → Rd P → Rd (p1 ++ [z1]) → Rd (p2 ++ [z2]) → ¬ (p1 ++ [z1]) <+: P → ¬ (p2 ++ [z2]) <+: P → Ww (p1 ++ [z1]) (p2 ++ [z2]) = Ww (rd (inv P ++ p1) ++ [z1]) (rd (inv P ++ p2) ++ [z2])
 | 0,P,p1,p2,z1,z2,h0,hP,h1,h2,n1,n2=>by
  rw [List.length_eq_zero_iff.1 h0]
  show _ = Ww (rd p1 ++ [z1]) (rd p2 ++ [z2])
  rw [(Rd_pre h1).self,(Rd_pre h2).self]
 | n + 1,P,p1,p2,z1,z2,hn,hP,h1,h2,n1,n2=>by
  rcases List.eq_nil_or_concat P with rfl | ⟨P',x,rfl⟩
  ·simp at hn
  ·rw [List.concat_eq_append] at hn hP n1 n2 ⊢
   have hpre:P' <+: P' ++ [x]:=List.prefix_append _ _
   have ih:=Ww_root n P' p1 p2 z1 z2 (by simpa using hn) (Rd_pre hP) h1 h2 (fun h=>n1 (h.trans hpre)) (fun h=>n2 (h.trans hpre))
   rw [ih,← mv_conn hP h1,← mv_conn hP h2]
   exact Ww_mv (by simp) (by simp) (rd_conn hP h1 n1) (rd_conn hP h2 n2)
section
variable {m:Nat} {vs:List Nat} {es nb:List Ed} {I:List (Nat × List Nat)} {L:List Ed}
theorem TreeI.nodup (h:TreeI (Dir nb) I L):(I.map (·.1)).Nodup ∧ L.length + 1 = I.length:=by
 induction h with
 | root v=>simp
 | @add I L v y w p _ _ h2 _ ih=>
  refine ⟨?_,by simp [ih.2]⟩
  rw [List.map_cons,List.nodup_cons]
  exact ⟨fun hm=>by obtain ⟨q,hq,he⟩:=List.mem_map.1 hm; exact h2 q hq he,ih.1⟩
theorem fun_of {I:List (Nat × List Nat)} (h:(I.map (·.1)).Nodup) {v:Nat} {p p':List Nat} (h1:(v,p) ∈ I) (h2:(v,p') ∈ I):p = p':=by
 induction I with
 | nil=>simp at h1
 | cons q I ih=>
  rw [List.map_cons,List.nodup_cons] at h
  rcases List.mem_cons.1 h1 with e1 | e1 <;> rcases List.mem_cons.1 h2 with e2 | e2
  ·rw [← e1] at e2; simp only [Prod.mk.injEq,true_and] at e2; exact e2.symm
  ·exact absurd (List.mem_map.2 ⟨_,e2,by rw [← e1]⟩) h.1
  ·exact absurd (List.mem_map.2 ⟨_,e1,by rw [← e2]⟩) h.1
  ·exact ih h.2 e1 e2
theorem dir_cons {s x t a y b:Nat}:Dir (edgeR s x t :: L) a y b ↔ ((a,y,b) = (s,x,t) ∨ (a,y,b) = (t,x ^^^ 1,s)) ∨ Dir L a y b:=by
 have:=dir_app (es:=[edgeR s x t]) (es':=L) (s:=a) (x:=y) (t:=b)
 rw [List.singleton_append] at this
 rw [this,dir_edge]
theorem TreeI.ends (h:TreeI (Dir nb) I L):(∀ a y b,Dir L a y b → Dir nb a y b ∧ ∃ p,(a,p) ∈ I):=by
 induction h with
 | root v=>intro a y b hd; simp [Dir] at hd
 | @add I L v y w p _ h1 h2 h3 ih=>
  intro a z b hd
  rcases dir_cons.1 hd with (he | he) | hd
  ·simp only [Prod.mk.injEq] at he
   obtain ⟨rfl,rfl,rfl⟩:=he
   exact ⟨h3,p,by simp [h1]⟩
  ·simp only [Prod.mk.injEq] at he
   obtain ⟨rfl,rfl,rfl⟩:=he
   exact ⟨h3.back,_,List.mem_cons_self⟩
  ·obtain ⟨g1,p',g2⟩:=ih a z b hd
   exact ⟨g1,p',by simp [g2]⟩
theorem TreeI.step (h:TreeI (Dir nb) I L):∀ v y w p,Dir L v y w → (v,p) ∈ I → ∃ p',(w,p') ∈ I ∧ (p' = p ++ [y] ∨ p = p' ++ [y ^^^ 1]):=by
 induction h with
 | root v=>intro a y b p hd; simp [Dir] at hd
 | @add I L v y w p hT h1 h2 h3 ih=>
  intro a z b q hd hq
  have hn:=(TreeI.add hT h1 h2 h3).nodup.1
  rcases dir_cons.1 hd with (he | he) | hd
  ·simp only [Prod.mk.injEq] at he
   obtain ⟨rfl,rfl,rfl⟩:=he
   have:=fun_of hn hq (List.mem_cons_of_mem _ h1)
   subst this
   exact ⟨q ++ [z],List.mem_cons_self,.inl rfl⟩
  ·simp only [Prod.mk.injEq] at he
   obtain ⟨rfl,rfl,rfl⟩:=he
   have:=fun_of hn hq List.mem_cons_self
   subst this
   exact ⟨p,List.mem_cons_of_mem _ h1,.inr (by rw [xor_two])⟩
  ·obtain ⟨_,q',hq'⟩:=hT.ends a z b hd
   have:=fun_of hn hq (List.mem_cons_of_mem _ hq')
   subst this
   obtain ⟨p',g1,g2⟩:=ih a z b q hd hq'
   exact ⟨p',List.mem_cons_of_mem _ g1,g2⟩
theorem TreeI.pre (h:TreeI (Dir nb) I L):∀ v p p' z,(v,p) ∈ I → p' ++ [z] <+: p → ∃ v' w,(v',p') ∈ I ∧ (w,p' ++ [z]) ∈ I ∧ Dir L v' z w:=by
 induction h with
 | root v=>
  intro u p p' z hp hpre
  simp only [List.mem_singleton,Prod.mk.injEq] at hp
  obtain ⟨_,rfl⟩:=hp
  have:=List.eq_nil_of_prefix_nil hpre
  simp at this
 | @add I L v y w p hT h1 h2 h3 ih=>
  intro u q p' z hq hpre
  have lift:(∃ v' w,(v',p') ∈ I ∧ (w,p' ++ [z]) ∈ I ∧ Dir L v' z w) → ∃ v' w',(v',p') ∈ (w,p ++ [y]) :: I ∧ (w',p' ++ [z]) ∈ (w,p ++ [y]) :: I ∧ Dir (edgeR v y w :: L) v' z w':=fun ⟨v',w',g1,g2,g3⟩=>
   ⟨v',w',List.mem_cons_of_mem _ g1,List.mem_cons_of_mem _ g2,g3.mono fun e he=>by simp [he]⟩
  rcases List.mem_cons.1 hq with hq | hq
  ·simp only [Prod.mk.injEq] at hq
   obtain ⟨rfl,rfl⟩:=hq
   rcases List.prefix_concat_iff.1 hpre with he | he
   ·have:=List.append_inj' he rfl
    obtain ⟨rfl,he2⟩:=this
    simp only [List.cons.injEq,and_true] at he2
    subst he2
    exact ⟨v,u,List.mem_cons_of_mem _ h1,List.mem_cons_self,dir_cons.2 (.inl (.inl rfl))⟩
   ·exact lift (ih v p p' z h1 he)
  ·exact lift (ih u q p' z hq hpre)
theorem TreeI.run (h:TreeI (Dir nb) I L):∃ r,∀ v p,(v,p) ∈ I → Run (Dir nb) r p v:=by
 induction h with
 | root v=>exact ⟨v,fun u p hp=>by simp only [List.mem_singleton,Prod.mk.injEq] at hp; obtain ⟨rfl,rfl⟩:=hp; exact .nil _⟩
 | @add I L v y w p hT h1 h2 h3 ih=>
  obtain ⟨r,hr⟩:=ih
  refine ⟨r,fun u q hq=>?_⟩
  rcases List.mem_cons.1 hq with hq | hq
  ·simp only [Prod.mk.injEq] at hq
   obtain ⟨rfl,rfl⟩:=hq
   exact (hr v p h1).app (.one h3)
  ·exact hr u q hq
theorem TreeI.vert (hA:Aut' (Dir nb)) (h:TreeI (Dir nb) I L) {v v':Nat} {p:List Nat} (h1:(v,p) ∈ I) (h2:(v',p) ∈ I):v = v':=by
 obtain ⟨r,hr⟩:=h.run
 exact Run.det hA (hr v p h1) (hr v' p h2)
theorem TreeI.rd (hA:Aut' (Dir nb)) (h:TreeI (Dir nb) I L):∀ v p,(v,p) ∈ I → Rd p:=by
 induction h with
 | root v=>intro u p hp; simp only [List.mem_singleton,Prod.mk.injEq] at hp; rw [hp.2]; trivial
 | @add I L v y w p hT h1 h2 h3 ih=>
  intro u q hq
  rcases List.mem_cons.1 hq with hq | hq
  ·simp only [Prod.mk.injEq] at hq
   obtain ⟨rfl,rfl⟩:=hq
   refine Rd.snoc (ih v p h1) fun hl=>?_
   rcases List.eq_nil_or_concat p with rfl | ⟨p1,l,rfl⟩
   ·simp at hl
   ·rw [List.concat_eq_append] at hl h1
    simp only [List.getLast?_append,List.getLast?_singleton,Option.some_or,Option.some.injEq] at hl
    subst hl
    obtain ⟨v1,w1,g1,g2,g3⟩:=hT.pre v _ p1 (y ^^^ 1) h1 (List.prefix_refl _)
    have:=hT.vert hA g2 h1
    subst this
    have h4:=g3.back
    rw [xor_two] at h4
    have:=hA.det _ _ _ _ (hT.ends _ _ _ h4).1 h3
    subst this
    exact h2 _ g1 rfl
  ·exact ih u q hq
theorem TreeI.out (hA:Aut' (Dir es)) (hA':Aut' (Dir nb)) (hsub:∀ e ∈ nb,e ∈ es) (h:TreeI (Dir nb) I L) {v z w:Nat} {p:List Nat} (hp:(v,p) ∈ I) (hd:Dir es v z w) (hn:¬ Dir L v z w):Rd (p ++ [z]) ∧ ∀ u P,(u,P) ∈ I → ¬ (p ++ [z]) <+: P:=by
 have hL:∀ w',Dir L v z w' → False:=fun w' hd'=>by
  have:=hA.det _ _ _ _ ((h.ends _ _ _ hd').1.mono hsub) hd
  subst this
  exact hn hd'
 refine ⟨Rd.snoc (h.rd hA' v p hp) fun hl=>?_,fun u P hu hpre=>?_⟩
 ·rcases List.eq_nil_or_concat p with rfl | ⟨p1,l,rfl⟩
  ·simp at hl
  ·rw [List.concat_eq_append] at hl hp
   simp only [List.getLast?_append,List.getLast?_singleton,Option.some_or,Option.some.injEq] at hl
   subst hl
   obtain ⟨v1,w1,g1,g2,g3⟩:=h.pre v _ p1 (z ^^^ 1) hp (List.prefix_refl _)
   have:=h.vert hA' g2 hp
   subst this
   have h4:=g3.back
   rw [xor_two] at h4
   exact hL _ h4
 ·obtain ⟨v1,w1,g1,g2,g3⟩:=h.pre u P p z hu hpre
  have:=h.vert hA' g1 hp
  subst this
  exact hL _ g3
theorem bridges_le (hG:Gq m vs es) (hconn:∀ u ∈ vs,∀ v ∈ vs,∃ l,Run (Dir es) u l v) (hge:vs.length ≤ es.length) {N:Nat} (hN:vs.length ≤ N) {br:List Ed} (hb:br.Nodup) (hbr:∀ e ∈ br,e ∈ es ∧ BrE es N e):br.length + vs.length ≤ es.length:=by
 classical
 -- the edges beside the bridges
 have hsplit:es.length = (es.filter fun e=>decide (BrE es N e)).length + (es.filter fun e=>!decide (BrE es N e)).length:=by
  rw [← List.countP_eq_length_filter,← List.countP_eq_length_filter,List.length_eq_countP_add_countP (fun e:Ed=>decide (BrE es N e))]
  congr 1
  exact List.countP_congr fun e _=>by simp
 have h1:=nodup_sub br (es.filter fun e=>decide (BrE es N e)) hb fun e he=>List.mem_filter.2 ⟨(hbr e he).1,decide_eq_true (hbr e he).2⟩
 obtain ⟨nb,hnb⟩:∃ nb,nb = es.filter fun e=>!decide (BrE es N e):=⟨_,rfl⟩
 rw [← hnb] at hsplit
 have hsub:∀ e ∈ nb,e ∈ es:=fun e he=>by rw [hnb] at he; exact (List.mem_filter.1 he).1
 have hnot:∀ e ∈ es,e ∉ nb → BrE es N e:=fun e he hn=>by
  rw [hnb] at hn
  exact Classical.byContradiction fun hc=>hn (List.mem_filter.2 ⟨he,by simp [hc]⟩)
 have hGn:Gq m vs nb:=⟨hG.vn,by rw [hnb]; exact List.Nodup.sublist List.filter_sublist hG.en,fun e he=>hG.ev e (hsub e he),fun e he=>hG.lt e (hsub e he),fun e he=>hG.inn e (hsub e he),hG.det.sub hsub⟩
 rcases Nat.lt_or_ge nb.length vs.length with hlt | hge2
 case inr=>omega
 exfalso
 obtain ⟨I,L,hT,hIv,hcl⟩:=tree_ex _ vs nb rfl hGn hlt
 have hA:=hG.aut
 have hA':=hGn.aut
 obtain ⟨hIn,hIL⟩:=hT.nodup
 have hIle:I.length ≤ vs.length:=by
  have:=nodup_sub (I.map (·.1)) vs hIn fun v hv=>by obtain ⟨q,hq,rfl⟩:=List.mem_map.1 hv; exact hIv q hq
  simpa using this
 have hI0:∃ r,(r,([]:List Nat)) ∈ I:=by
  clear hIle hIn hIL hcl hIv
  induction hT with
  | root v=>exact ⟨v,by simp⟩
  | add _ _ _ _ ih=>obtain ⟨r,hr⟩:=ih; exact ⟨r,by simp [hr]⟩
 by_cases hex:∃ q:Nat × List Nat × Nat,(q.1,q.2.1) ∈ I ∧ ∃ w,Dir es q.1 q.2.2 w ∧ ¬ Dir L q.1 q.2.2 w
 · -- the least of the edges that lead out
  let X:List (Nat × List Nat × Nat):=(I.flatMap fun q=>(List.range m).map fun y=>(q.1,q.2,y)).filter fun q=>decide ((q.1,q.2.1) ∈ I ∧ ∃ w,Dir es q.1 q.2.2 w ∧ ¬ Dir L q.1 q.2.2 w)
  have hX:∀ q:Nat × List Nat × Nat,((q.1,q.2.1) ∈ I ∧ ∃ w,Dir es q.1 q.2.2 w ∧ ¬ Dir L q.1 q.2.2 w) ↔ q ∈ X:=fun q=>by
   constructor
   ·intro hq
    refine List.mem_filter.2 ⟨List.mem_flatMap.2 ⟨(q.1,q.2.1),hq.1,List.mem_map.2 ⟨q.2.2,List.mem_range.2 ?_,rfl⟩⟩,decide_eq_true hq⟩
    obtain ⟨w,hw,_⟩:=hq.2
    exact (hG.dlt hw).1
   ·intro hq; exact of_decide_eq_true (List.mem_filter.1 hq).2
  obtain ⟨q0,hq0⟩:=hex
  obtain ⟨⟨v,p,y⟩,hb0,hleast⟩:=least (fun q:Nat × List Nat × Nat=>q.2.1 ++ [q.2.2]) X (fun he=>by
   have:=(hX q0).1 hq0
   rw [he] at this; simp at this) (fun q hq=>by
   obtain ⟨g1,w,g2,g3⟩:=(hX q).2 hq
   exact ⟨by simp,(hT.out hA hA' hsub g1 g2 g3).1⟩)
  obtain ⟨hp,w,hd,hnL⟩:=(hX (v,p,y)).2 hb0
  dsimp only at hp hd hnL hleast
  have hpr:=hT.rd hA' v p hp
  -- it is a bridge
  have hbridge:Dn es N v (y ^^^ 1):=by
   have hnn:¬ Dir nb v y w:=fun hh=>hnL (hcl v y w p hp hh)
   rcases hd with ⟨e1,e2⟩ | ⟨e1,e2⟩
   ·exact (hnot _ e2 fun hm=>hnn (.inl ⟨e1,hm⟩)).2
   ·have:=(hnot _ e2 fun hm=>hnn (.inr ⟨e1,hm⟩)).1
    dsimp only at this
    rwa [show y - 1 = y ^^^ 1 by rw [xor1,if_neg (by omega)]] at this
  obtain ⟨r,u,hr1,hr2,hr3,hr4⟩:=hbridge
  have hrr:Rd r:=hr2.tail
  have hy:∀ q,q ≠ [] → q <+: r → q.head? ≠ some y:=fun q hq ⟨b,hb⟩ he=>by
   cases q with
   | nil=>exact hq rfl
   | cons c q=>
    simp only [List.head?_cons,Option.some.injEq] at he
    subst he
    rw [← hb] at hr2
    exact hr2.1 (by rw [xor_two])
  -- below it
  have hbelow:∀ q,q ≠ [] → q <+: r → Ww [y] q < 0:=fun q hq hqr=>by
   have h4:=hr4 q hq hqr
   have h5:=Ww_mv (x:=y ^^^ 1) (q:=[y]) (q':=q) (by simp) hq trivial (Rd.pfx hqr hrr)
   have m1:mv (y ^^^ 1) [y] = [y ^^^ 1]:=by simp only [mv,xor_two,if_pos]
   have m2:mv (y ^^^ 1) q = (y ^^^ 1) :: q:=by
    cases q with
    | nil=>exact absurd rfl hq
    | cons c q=>simp only [mv,xor_two]; rw [if_neg (fun he=>hy _ hq hqr (by rw [he]; rfl))]
   rw [m1,m2] at h5
   omega
  -- the way stays in the tree,or leads out
  have walk:∀ j,j ≤ N → ∃ vj pj,(vj,pj) ∈ I ∧ Run (Dir es) v (r.take j) vj ∧ pj = rd (p ++ r.take j):=by
   intro j
   induction j with
   | zero=>intro _; exact ⟨v,p,hp,by rw [List.take_zero]; exact .nil v,by rw [List.take_zero,List.append_nil]; exact hpr.self.symm⟩
   | succ j ih=>
    intro hj
    obtain ⟨vj,pj,g1,g2,g3⟩:=ih (by omega)
    have hjl:j < r.length:=by omega
    have htk:r.take (j + 1) = r.take j ++ [r[j]]:=by rw [List.take_add_one,List.getElem?_eq_getElem hjl]; rfl
    obtain ⟨w',hw'⟩:=hr3.pfx (List.take_prefix (j + 1) r)
    rw [htk] at hw'
    obtain ⟨vj',h5,h6⟩:=hw'.split
    have:=Run.det hA g2 h5
    subst this
    have h6:=h6.of_one
    by_cases hL:Dir L vj r[j] w'
    ·obtain ⟨p',k1,k2⟩:=hT.step _ _ _ _ hL g1
     refine ⟨w',p',k1,by rw [htk]; exact hw',?_⟩
     have hp'r:=hT.rd hA' _ _ k1
     have hs:Same (p ++ r.take (j + 1)) (pj ++ [r[j]]):=by
      rw [htk,← List.append_assoc,g3]
      exact (same_rd _).symm.app (Same.refl _)
     rw [hs.rd_eq]
     rcases k2 with rfl | k2
     ·exact hp'r.self.symm
     ·rw [k2]
      have h7:Same (p' ++ [r[j] ^^^ 1] ++ [r[j]]) p':=by
       have:=(Same.refl p').app (same_pair' r[j])
       rw [List.append_nil] at this
       simpa using this
      rw [h7.rd_eq,hp'r.self]
    · -- it leads out,below the least
     exfalso
     have hle:=hleast (vj,pj,r[j]) ((hX _).1 ⟨g1,w',h6,hL⟩)
     dsimp only at hle
     obtain ⟨o1,o2⟩:=hT.out hA hA' hsub hp hd hnL
     obtain ⟨o3,o4⟩:=hT.out hA hA' hsub g1 h6 hL
     have hroot:=Ww_root _ p p pj y r[j] rfl hpr o1 o3 (o2 v p hp) (o4 v p hp)
     have e1:rd (Pl.inv p ++ p) = []:=(same_inv' p).rd_eq
     have e2:rd (Pl.inv p ++ pj) = r.take j:=by
      have hs:Same (Pl.inv p ++ pj) (r.take j):=by
       rw [g3]
       have h7:Same (Pl.inv p ++ Pl.rd (p ++ r.take j)) (Pl.inv p ++ (p ++ r.take j)):=(Same.refl _).app (same_rd _)
       refine h7.trans ?_
       rw [← List.append_assoc]
       exact (same_inv' p).app (Same.refl _)
      rw [hs.rd_eq,(Rd.pfx (List.take_prefix _ _) hrr).self]
     rw [e1,e2,← htk,List.nil_append] at hroot
     have hb:=hbelow (r.take (j + 1)) (fun he=>by have:=congrArg List.length he; rw [List.length_take,List.length_nil] at this; omega) (List.take_prefix _ _)
     unfold LeW at hle
     omega
  -- too many vertices
  have hch:∀ j,∃ pj:List Nat,j ≤ N → pj = rd (p ++ r.take j) ∧ pj ∈ I.map (·.2):=fun j=>by
   by_cases hj:j ≤ N
   ·obtain ⟨vj,pj,g1,_,g3⟩:=walk j hj
    exact ⟨pj,fun _=>⟨g3,List.mem_map.2 ⟨_,g1,rfl⟩⟩⟩
   ·exact ⟨[],fun h=>absurd h hj⟩
  have ⟨f,hf⟩:=Classical.axiomOfChoice hch
  have hnd:((List.range (N + 1)).map f).Nodup:=by
   rw [List.Nodup,List.pairwise_map]
   refine List.Pairwise.imp_of_mem (fun {i j} hi hj hne he=>hne ?_) List.nodup_range
   have hi:=List.mem_range.1 hi
   have hj:=List.mem_range.1 hj
   rw [(hf i (by omega)).1,(hf j (by omega)).1] at he
   have hs:Same (p ++ r.take i) (p ++ r.take j):=same_iff_rd.2 he
   have h2:Same (Pl.inv p ++ (p ++ r.take i)) (Pl.inv p ++ (p ++ r.take j)):=(Same.refl _).app hs
   have h3:∀ q,Same (Pl.inv p ++ (p ++ q)) q:=fun q=>by
    rw [← List.append_assoc]
    exact (same_inv' p).app (Same.refl q)
   have h4:=(((h3 _).symm.trans h2).trans (h3 _)).rd_eq
   rw [(Rd.pfx (List.take_prefix _ _) hrr).self,(Rd.pfx (List.take_prefix _ _) hrr).self] at h4
   have h5:=congrArg List.length h4
   rw [List.length_take,List.length_take] at h5
   omega
  have:=nodup_sub _ (I.map (·.2)) hnd fun q hq=>by
   obtain ⟨j,hj,rfl⟩:=List.mem_map.1 hq
   have:=List.mem_range.1 hj
   exact (hf j (by omega)).2
  rw [List.length_map,List.length_map,List.length_range] at this
  omega
 · -- nothing leads out: the graph is the tree
  have hno:∀ v p y w,(v,p) ∈ I → Dir es v y w → Dir L v y w:=fun v p y w hp hd=>Classical.byContradiction fun hn=>hex ⟨(v,p,y),hp,w,hd,hn⟩
  obtain ⟨r,hr⟩:=hI0
  have hall:∀ v ∈ vs,∃ p,(v,p) ∈ I:=fun v hv=>by
   obtain ⟨l,hl⟩:=hconn r (hIv _ hr) v hv
   have:∀ {s t:Nat} {l:List Nat},Run (Dir es) s l t → (∃ p,(s,p) ∈ I) → ∃ p,(t,p) ∈ I:=fun h=>by
    induction h with
    | nil s=>exact fun h=>h
    | cons h1 _ ih=>
     rintro ⟨p,hp⟩
     obtain ⟨p',hp',_⟩:=hT.step _ _ _ _ (hno _ _ _ _ hp h1) hp
     exact ih ⟨p',hp'⟩
   exact this hl ⟨[],hr⟩
  have hEL:es.length ≤ L.length:=nodup_sub es L hG.en fun e he=>by
   obtain ⟨p,hp⟩:=hall e.1 (hG.inn e he).1
   have ev:=hG.ev e he
   have hd:=hno e.1 p e.2.1 e.2.2 hp (.inl ⟨ev,he⟩)
   rcases hd with ⟨_,h⟩ | ⟨h,_⟩
   ·exact h
   ·omega
  omega
end
end Go.Proofs.YtffdjfkekdoeaaaDoor.Pl
end
section
set_option maxRecDepth 4000
set_option maxHeartbeats 2000000
namespace Go.Proofs.YtffdjfkekdoeaaaDoor.Pl
open Fo Rf Wd
section
variable {m:Nat} {vs:List Nat} {es:List Ed}
theorem no_long (hG:Gq m vs es) (hconn:∀ u ∈ vs,∀ v ∈ vs,∃ l,Run (Dir es) u l v) (hlt:es.length < vs.length) {v u:Nat} {r:List Nat} (hv:v ∈ vs) (hr:Rd r) (hrun:Run (Dir es) v r u):r.length < vs.length:=by
 obtain ⟨I,L,hT,hIv,hcl⟩:=tree_ex _ vs es rfl hG hlt
 have hA:=hG.aut
 obtain ⟨hIn,hIL⟩:=hT.nodup
 have hIle:I.length ≤ vs.length:=by
  have:=nodup_sub (I.map (·.1)) vs hIn fun v hv=>by obtain ⟨q,hq,rfl⟩:=List.mem_map.1 hv; exact hIv q hq
  simpa using this
 have hI0:∃ r,(r,([]:List Nat)) ∈ I:=by
  clear hIle hIn hIL hcl hIv
  induction hT with
  | root v=>exact ⟨v,by simp⟩
  | add _ _ _ _ ih=>obtain ⟨r,hr⟩:=ih; exact ⟨r,by simp [hr]⟩
 obtain ⟨r0,hr0⟩:=hI0
 have hin:∃ p,(v,p) ∈ I:=by
  obtain ⟨l,hl⟩:=hconn r0 (hIv _ hr0) v hv
  have:∀ {s t:Nat} {l:List Nat},Run (Dir es) s l t → (∃ p,(s,p) ∈ I) → ∃ p,(t,p) ∈ I:=fun h=>by
   induction h with
   | nil s=>exact fun h=>h
   | cons h1 _ ih=>
    rintro ⟨p,hp⟩
    obtain ⟨p',hp',_⟩:=hT.step _ _ _ _ (hcl _ _ _ _ hp h1) hp
    exact ih ⟨p',hp'⟩
  exact this hl ⟨[],hr0⟩
 obtain ⟨p,hp⟩:=hin
 have hpr:=hT.rd hA v p hp
 have walk:∀ j,j ≤ r.length → ∃ vj pj,(vj,pj) ∈ I ∧ Run (Dir es) v (r.take j) vj ∧ pj = rd (p ++ r.take j):=by
  intro j
  induction j with
  | zero=>intro _; exact ⟨v,p,hp,by rw [List.take_zero]; exact .nil v,by rw [List.take_zero,List.append_nil]; exact hpr.self.symm⟩
  | succ j ih=>
   intro hj
   obtain ⟨vj,pj,g1,g2,g3⟩:=ih (by omega)
   have hjl:j < r.length:=by omega
   have htk:r.take (j + 1) = r.take j ++ [r[j]]:=by rw [List.take_add_one,List.getElem?_eq_getElem hjl]; rfl
   obtain ⟨w',hw'⟩:=hrun.pfx (List.take_prefix (j + 1) r)
   rw [htk] at hw'
   obtain ⟨vj',h5,h6⟩:=hw'.split
   have:=Run.det hA g2 h5
   subst this
   have h6:=h6.of_one
   obtain ⟨p',k1,k2⟩:=hT.step _ _ _ _ (hcl _ _ _ _ g1 h6) g1
   refine ⟨w',p',k1,by rw [htk]; exact hw',?_⟩
   have hp'r:=hT.rd hA _ _ k1
   have hs:Same (p ++ r.take (j + 1)) (pj ++ [r[j]]):=by
    rw [htk,← List.append_assoc,g3]
    exact (same_rd _).symm.app (Same.refl _)
   rw [hs.rd_eq]
   rcases k2 with rfl | k2
   ·exact hp'r.self.symm
   ·rw [k2]
    have h7:Same (p' ++ [r[j] ^^^ 1] ++ [r[j]]) p':=by
     have:=(Same.refl p').app (same_pair' r[j])
     rw [List.append_nil] at this
     simpa using this
    rw [h7.rd_eq,hp'r.self]
 have hch:∀ j,∃ pj:List Nat,j ≤ r.length → pj = rd (p ++ r.take j) ∧ pj ∈ I.map (·.2):=fun j=>by
  by_cases hj:j ≤ r.length
  ·obtain ⟨vj,pj,g1,_,g3⟩:=walk j hj
   exact ⟨pj,fun _=>⟨g3,List.mem_map.2 ⟨_,g1,rfl⟩⟩⟩
  ·exact ⟨[],fun h=>absurd h hj⟩
 have ⟨f,hf⟩:=Classical.axiomOfChoice hch
 have hnd:((List.range (r.length + 1)).map f).Nodup:=by
  rw [List.Nodup,List.pairwise_map]
  refine List.Pairwise.imp_of_mem (fun {i j} hi hj hne he=>hne ?_) List.nodup_range
  have hi:=List.mem_range.1 hi
  have hj:=List.mem_range.1 hj
  rw [(hf i (by omega)).1,(hf j (by omega)).1] at he
  have hs:Same (p ++ r.take i) (p ++ r.take j):=same_iff_rd.2 he
  have h2:Same (Pl.inv p ++ (p ++ r.take i)) (Pl.inv p ++ (p ++ r.take j)):=(Same.refl _).app hs
  have h3:∀ q,Same (Pl.inv p ++ (p ++ q)) q:=fun q=>by
   rw [← List.append_assoc]
   exact (same_inv' p).app (Same.refl q)
  have h4:=(((h3 _).symm.trans h2).trans (h3 _)).rd_eq
  rw [(Rd.pfx (List.take_prefix _ _) hr).self,(Rd.pfx (List.take_prefix _ _) hr).self] at h4
  have h5:=congrArg List.length h4
  rw [List.length_take,List.length_take] at h5
  omega
 have:=nodup_sub _ (I.map (·.2)) hnd fun q hq=>by
  obtain ⟨j,hj,rfl⟩:=List.mem_map.1 hq
  have:=List.mem_range.1 hj
  exact (hf j (by omega)).2
 rw [List.length_map,List.length_map,List.length_range] at this
 omega
end
theorem auto_gq {k:Nat} {a:Aut} (hk:k ≤ 8) (hc:a.check (k:Int) = 0):Gq (2 * k) (List.range a.next.length) (graphL k 0 a.next) ∧ ∀ u ∈ List.range a.next.length,∀ v ∈ List.range a.next.length,∃ l,Run (Dir (graphL k 0 a.next)) u l v:=by
 have hk':(k:Int) ≤ 8:=by omega
 obtain ⟨_,_,n1,n2,n3,_,hrows⟩:=check_spec hc
 have hA:=dl_aut hk' hc
 have hlt:=graphL_lt (k:=k) (next:=a.next) (fun r hr t ht=>((hrows r hr).2 t ht).2) n1
 refine ⟨⟨List.nodup_range,graph_nodup k _,graph_even k _,fun e he=>?_,fun e he=>?_,fun s x t t' h h'=>hA.det _ _ _ _ ((graph_dl hk hc).1 h) ((graph_dl hk hc).1 h')⟩,fun u hu v hv=>?_⟩
 ·have h1:=graph_let e he
  have h2:=graph_even k _ e he
  omega
 ·have:=hlt e he
  exact ⟨List.mem_range.2 this.1,List.mem_range.2 this.2⟩
 ·have p1:=path_runs hk' hc _ u (List.mem_range.1 hu) (Nat.le_refl _)
  have p2:=path_runs hk' hc _ v (List.mem_range.1 hv) (Nat.le_refl _)
  exact ⟨_,((p1.back hA).app p2).map fun s x t h=>(graph_dl hk hc).2 h⟩
theorem folded_hom {k v:Nat} (hk:1 ≤ k ∧ k ≤ 8) {δ:Nat → Nat → Nat → Prop} (hA:Aut' δ) {R:List Row} (h:FoldedD k δ v (some R)) :
  ∃ ψ:Nat → Nat,(∀ i j,i < R.length → j < R.length → ψ i = ψ j → i = j) ∧ ∀ s x t,Dl (k:Int) (autE k R) s x t → δ (ψ s) x (ψ t):=by
 obtain ⟨E,st,rows',e1,i1,i2,i3,i4,i5⟩:=h.ok
 obtain ⟨⟨K,h1⟩,h2⟩:=i5.yes _ rfl
 have hr:=(root_at i1 i4).2
 obtain ⟨q,hQ⟩:=auto_of i5 hr h1
 have hql:=hQ.num.len
 have hqn:=hQ.num.nd
 refine ⟨fun j=>q.getD j 0,fun i j hi hj he=>?_,fun s x t hd=>?_⟩
 ·have hi':i < q.length:=by omega
  have hj':j < q.length:=by omega
  dsimp only at he
  rw [getD_get hi',getD_get hj'] at he
  exact (List.getElem_inj hqn).1 he
 ·obtain ⟨d1,d2,d3⟩:=hd
  have hnl:(autE k R).next.length = R.length:=by simp [autE]
  rw [hnl] at d1
  rw [Int.toNat_natCast] at d2
  have hsq:q[s]? = some (q.getD s 0):=by rw [getD_get (by omega)]; exact List.getElem?_eq_getElem (by omega)
  have hto:∃ u,To rows' (q.getD s 0) x u ∧ q[t]? = some u:=by
   rcases hQ.getN hsq d2 with ⟨u,i,g1,g2,g3⟩ | ⟨_,g2⟩
   ·have g3:getN (autE k R).next s x = (i:Int):=g3
    rw [g3] at d3
    have:i = t:=by omega
    subst this
    exact ⟨u,g1,g2⟩
   ·have g2:getN (autE k R).next s x = -1:=g2
    omega
  obtain ⟨u,g1,g2⟩:=hto
  have hu:q.getD t 0 = u:=by rw [List.getD_eq_getElem?_getD,g2]; rfl
  obtain ⟨p,p1,p2⟩:=to_path i1 i2 (i5.cut.sub _ _ _ g1)
  have p3:=(p1.map (ε:=δ) fun s x t hh=>(e1 s x t).1 hh).rd hA
  have p4:rd p = [x]:=by
   have:=p2.rd_eq
   rw [this]
   exact Rd.self (l:=[x]) trivial
  rw [p4] at p3
  dsimp only
  rw [hu]
  exact p3.of_one
theorem hanna {k:Nat} (hk:1 ≤ k ∧ k ≤ 8) {a b c:Aut} (ha:a.check (k:Int) = 0) (hb:b.check (k:Int) = 0) (hc:c.check (k:Int) = 0) {fa fb:Nat → Nat} (hfa:∀ s x t,Dl (k:Int) c s x t → Dl (k:Int) a (fa s) x (fa t)) (hfb:∀ s x t,Dl (k:Int) c s x t → Dl (k:Int) b (fb s) x (fb t))
  (hinj:∀ i j,i < c.next.length → j < c.next.length → fa i = fa j → fb i = fb j → i = j) (hlt:c.next.length < (graphL k 0 c.next).length) :
  a.next.length ≤ (graphL k 0 a.next).length ∧ b.next.length ≤ (graphL k 0 b.next).length ∧ (graphL k 0 c.next).length - c.next.length ≤ ((graphL k 0 a.next).length - a.next.length) * ((graphL k 0 b.next).length - b.next.length):=by
 classical
 obtain ⟨gA,cA⟩:=auto_gq hk.2 ha
 obtain ⟨gB,cB⟩:=auto_gq hk.2 hb
 obtain ⟨gC,cC⟩:=auto_gq hk.2 hc
 obtain ⟨_,_,na1,_⟩:=check_spec ha
 obtain ⟨_,_,nb1,_⟩:=check_spec hb
 have hdA:∀ s x t,Dir (graphL k 0 c.next) s x t → Dir (graphL k 0 a.next) (fa s) x (fa t):=fun s x t h=>(graph_dl hk.2 ha).2 (hfa _ _ _ ((graph_dl hk.2 hc).1 h))
 have hdB:∀ s x t,Dir (graphL k 0 c.next) s x t → Dir (graphL k 0 b.next) (fb s) x (fb t):=fun s x t h=>(graph_dl hk.2 hb).2 (hfb _ _ _ ((graph_dl hk.2 hc).1 h))
 have hrA:(List.range a.next.length).length = a.next.length:=List.length_range
 have hrB:(List.range b.next.length).length = b.next.length:=List.length_range
 have hrC:(List.range c.next.length).length = c.next.length:=List.length_range
 obtain ⟨br,b1,b2,b3⟩:=bridges_ge gC (by rw [hrC]; exact hlt) (N:=a.next.length + b.next.length) (by omega)
 rw [hrC] at b3
 have evC:=fun e he=>gC.ev e he
 have dC:∀ e ∈ graphL k 0 c.next,Dir (graphL k 0 c.next) e.1 e.2.1 e.2.2:=fun e he=>.inl ⟨gC.ev e he,he⟩
 -- its image in both
 have imA:∀ e ∈ br,(fa e.1,e.2.1,fa e.2.2) ∈ (graphL k 0 a.next).filter fun e=>decide (BrE (graphL k 0 a.next) (a.next.length + b.next.length) e):=fun e he=>by
  obtain ⟨h1,h2⟩:=b2 e he
  refine List.mem_filter.2 ⟨?_,decide_eq_true ⟨h2.1.map hdA,h2.2.map hdA⟩⟩
  rcases hdA _ _ _ (dC e h1) with ⟨_,h⟩ | ⟨h,_⟩
  ·exact h
  ·have:=gC.ev e h1; omega
 have imB:∀ e ∈ br,(fb e.1,e.2.1,fb e.2.2) ∈ (graphL k 0 b.next).filter fun e=>decide (BrE (graphL k 0 b.next) (a.next.length + b.next.length) e):=fun e he=>by
  obtain ⟨h1,h2⟩:=b2 e he
  refine List.mem_filter.2 ⟨?_,decide_eq_true ⟨h2.1.map hdB,h2.2.map hdB⟩⟩
  rcases hdB _ _ _ (dC e h1) with ⟨_,h⟩ | ⟨h,_⟩
  ·exact h
  ·have:=gC.ev e h1; omega
 generalize hBA:((graphL k 0 a.next).filter fun e=>decide (BrE (graphL k 0 a.next) (a.next.length + b.next.length) e)) = brA at imA
 generalize hBB:((graphL k 0 b.next).filter fun e=>decide (BrE (graphL k 0 b.next) (a.next.length + b.next.length) e)) = brB at imB
 have hA2:∀ e ∈ brA,e ∈ graphL k 0 a.next ∧ BrE (graphL k 0 a.next) (a.next.length + b.next.length) e:=fun e he=>by
  rw [← hBA] at he
  exact ⟨(List.mem_filter.1 he).1,of_decide_eq_true (List.mem_filter.1 he).2⟩
 have hB2:∀ e ∈ brB,e ∈ graphL k 0 b.next ∧ BrE (graphL k 0 b.next) (a.next.length + b.next.length) e:=fun e he=>by
  rw [← hBB] at he
  exact ⟨(List.mem_filter.1 he).1,of_decide_eq_true (List.mem_filter.1 he).2⟩
 have hAn:brA.Nodup:=by rw [← hBA]; exact List.Nodup.sublist List.filter_sublist gA.en
 have hBn:brB.Nodup:=by rw [← hBB]; exact List.Nodup.sublist List.filter_sublist gB.en
 -- one bridge at least
 obtain ⟨e0,he0⟩:∃ e,e ∈ br:=by
  cases br with
  | nil=>simp at b3; omega
  | cons e l=>exact ⟨e,by simp⟩
 have notree:∀ {x:Aut} (g:Gq (2 * k) (List.range x.next.length) (graphL k 0 x.next)) (cn:∀ u ∈ List.range x.next.length,∀ v ∈ List.range x.next.length,∃ l,Run (Dir (graphL k 0 x.next)) u l v),x.next.length ≤ a.next.length + b.next.length →
   (∃ e ∈ graphL k 0 x.next,BrE (graphL k 0 x.next) (a.next.length + b.next.length) e) → x.next.length ≤ (graphL k 0 x.next).length:=fun {x} g cn hle ⟨e,he1,he2⟩=>by
  rcases Nat.lt_or_ge (graphL k 0 x.next).length x.next.length with h | h
  ·obtain ⟨r,u,r1,r2,r3,_⟩:=he2.1
   have:=no_long g cn (by rw [List.length_range]; exact h) (g.inn e he1).2 r2.tail r3
   rw [List.length_range] at this
   omega
  ·exact h
 have geA:=notree gA cA (by omega) ⟨_,hA2 _ (imA e0 he0)⟩
 have geB:=notree gB cB (by omega) ⟨_,hB2 _ (imB e0 he0)⟩
 have leA:=bridges_le gA cA (by rw [hrA]; exact geA) (N:=a.next.length + b.next.length) (by rw [hrA]; omega) hAn hA2
 have leB:=bridges_le gB cB (by rw [hrB]; exact geB) (N:=a.next.length + b.next.length) (by rw [hrB]; omega) hBn hB2
 rw [hrA] at leA
 rw [hrB] at leB
 refine ⟨geA,geB,?_⟩
 -- pairs of bridges
 have hpairs:br.length ≤ brA.length * brB.length:=by
  have hlen:∀ l:List Ed,(l.flatMap fun e=>brB.map fun f=>(e,f)).length = l.length * brB.length:=fun l=>by
   induction l with
   | nil=>simp
   | cons e l ih=>rw [List.flatMap_cons,List.length_append,ih,List.length_map,List.length_cons,Nat.add_mul]; omega
  rw [← hlen brA]
  have hnd:(br.map fun e=>((fa e.1,e.2.1,fa e.2.2),(fb e.1,e.2.1,fb e.2.2))).Nodup:=by
   rw [List.Nodup,List.pairwise_map]
   refine List.Pairwise.imp_of_mem (fun {e e'} he he' hne heq=>hne ?_) b1
   simp only [Prod.mk.injEq] at heq
   obtain ⟨⟨h1,h2,_⟩,h3,_⟩:=heq
   have m1:=(b2 e he).1
   have m2:=(b2 e' he').1
   have hs:=hinj _ _ (List.mem_range.1 (gC.inn e m1).1) (List.mem_range.1 (gC.inn e' m2).1) h1 h3
   have d1:=dC e m1
   have d2:=dC e' m2
   obtain ⟨s,x,t⟩:=e
   obtain ⟨s',x',t'⟩:=e'
   dsimp only at *
   subst hs h2
   rw [gC.det _ _ _ _ d1 d2]
  have:=nodup_sub _ (brA.flatMap fun e=>brB.map fun f=>(e,f)) hnd fun q hq=>by
   obtain ⟨e,he,rfl⟩:=List.mem_map.1 hq
   exact List.mem_flatMap.2 ⟨_,imA e he,List.mem_map.2 ⟨_,imB e he,rfl⟩⟩
  rwa [List.length_map] at this
 have h1:brA.length * brB.length ≤ ((graphL k 0 a.next).length - a.next.length) * ((graphL k 0 b.next).length - b.next.length):=Nat.mul_le_mul (by omega) (by omega)
 omega
end Go.Proofs.YtffdjfkekdoeaaaDoor.Pl
end
section
set_option maxRecDepth 8000
set_option maxHeartbeats 4000000
namespace Go.Proofs.YtffdjfkekdoeaaaDoor.Fo
open Fw Wd Rf Pl
section
variable {k:Int} {a b:Aut} {q:List (Nat × Nat)}
theorem prod_aut (hk:k ≤ 8) (ha:a.check k = 0) (hb:b.check k = 0) (hP:Prd k a b q):Aut' (prodD k a b q) where
 det:=fun u y v v' ⟨s,t,s',t',h1,h2,h3,h4⟩ ⟨c1,c2,c3,c4,c5,c6,c7,c8⟩=>by
  rw [h1] at c5
  cases c5
  have e1:=(dl_aut hk ha).det _ _ _ _ h3 c7
  have e2:=(dl_aut hk hb).det _ _ _ _ h4 c8
  subst e1 e2
  exact (List.getElem?_inj (List.getElem?_eq_some_iff.1 h2).1 hP.nodup).1 (h2.trans c6.symm)
 inv:=fun u y v ⟨s,t,s',t',h1,h2,h3,h4⟩=>⟨s',t',s,t,h2,h1,(dl_aut hk ha).inv _ _ _ h3,(dl_aut hk hb).inv _ _ _ h4⟩
theorem prod_run (hP:Prd k a b q):∀ {l:List Nat} {u s t:Nat},q[u]? = some (s,t) → ∀ {s' t':Nat},(Run (Dl k a) s l s' ∧ Run (Dl k b) t l t') ↔ ∃ v:Nat,q[v]? = some (s',t') ∧ Run (prodD k a b q) u l v
 | [],u,s,t,hu,s',t'=>by
  constructor
  ·rintro ⟨h1,h2⟩
   cases h1; cases h2
   exact ⟨u,hu,.nil u⟩
  ·rintro ⟨v,h1,h2⟩
   cases h2
   rw [hu] at h1
   cases h1
   exact ⟨.nil _,.nil _⟩
 | x :: l,u,s,t,hu,s',t'=>by
  constructor
  ·rintro ⟨h1,h2⟩
   cases h1 with
   | @cons _ _ s1 _ _ f1 f2=>cases h2 with
    | @cons _ _ t1 _ _ g1 g2=>
     obtain ⟨w,hw⟩:=hP.closed u s t x s1 t1 hu f1 g1
     obtain ⟨v,v1,v2⟩:=(prod_run hP hw).1 ⟨f2,g2⟩
     exact ⟨v,v1,.cons ⟨s,t,s1,t1,hu,hw,f1,g1⟩ v2⟩
  ·rintro ⟨v,h1,h2⟩
   cases h2 with
   | @cons _ _ w _ _ f1 f2=>
    obtain ⟨s0,t0,s1,t1,e1,e2,e3,e4⟩:=f1
    rw [hu] at e1
    cases e1
    obtain ⟨r1,r2⟩:=(prod_run hP e2).2 ⟨v,h1,f2⟩
    exact ⟨.cons e3 r1,.cons e4 r2⟩
theorem prod_lang (hk:k ≤ 8) (ha:a.check k = 0) (hb:b.check k = 0) (hP:Prd k a b q) {l:List Nat} (hl:Rd l):Lg (prodD k a b q) 0 l ↔ Run (Dl k a) 0 l 0 ∧ Run (Dl k b) 0 l 0:=by
 rw [lg_det (prod_aut hk ha hb hP) hl,prod_run hP hP.first]
 constructor
 ·intro h; exact ⟨0,hP.first,h⟩
 ·rintro ⟨v,h1,h2⟩
  have:v = 0:=(List.getElem?_inj (List.getElem?_eq_some_iff.1 h1).1 hP.nodup).1 (h1.trans hP.first.symm)
  subst this; exact h2
end
theorem inter_same {k:Nat} {a b:Aut} (hk:1 ≤ k ∧ k ≤ 8) (ha:a.check (k:Int) = 0) (hb:b.check (k:Int) = 0) {q q':List (Nat × Nat)} {o o':Option (List Row)} (hP:Prd (k:Int) a b q) (hP':Prd (k:Int) a b q') (h:FoldedD k (prodD (k:Int) a b q) 0 o) (h':FoldedD k (prodD (k:Int) a b q') 0 o'):o = o':=
 foldedD_same h h' fun l hl=>by rw [prod_lang (by omega) ha hb hP hl,prod_lang (by omega) ha hb hP' hl]
theorem stall_len {k K B:Nat} {es:List Ed} {res:List Row} (hB:InB B es) (h0:0 < B) (h:stallF k K es = some res):res.length ≤ B:=by
 unfold stallF at h
 split at h
 ·cases h
 rename_i es1 h1
 split at h
 ·cases h
 rename_i es2 h2
 have b1:=foldedE_inB hB h1
 have b2:InB B es2:=fun e he=>b1 e (prunedE_sub h2 e he)
 exact numE_len b2 K 0 [0] [] res (by simp) (by simpa using h0) (by simp) rfl h
theorem join_same {k:Nat} {a b:Aut} (hk:1 ≤ k ∧ k ≤ 8) (ha:a.check (k:Int) = 0) (hb:b.check (k:Int) = 0) (ha20:a.next.length ≤ 900) (hb20:b.next.length ≤ 900) {o:Option (List Row)} (h:FoldedD k (joinD (k:Int) a b) 0 o) :
  ∃ K R,stallF k K (joinE k a b) = some R ∧ o = some R:=by
 obtain ⟨_,_,na1,na2,na3,_,hrowsA⟩:=check_spec ha
 obtain ⟨_,_,nb1,nb2,nb3,_,hrowsB⟩:=check_spec hb
 have hltA:=graphL_lt (k:=k) (next:=a.next) (fun r hr t ht=>((hrowsA r hr).2 t ht).2) na1
 have hltB:=graphL_lt (k:=k) (next:=b.next) (fun r hr t ht=>((hrowsB r hr).2 t ht).2) nb1
 have hev:Evn (joinE k a b):=fun e he=>by
  unfold joinE at he
  rcases List.mem_append.1 he with he | he
  ·exact graph_even k _ e he
  ·obtain ⟨e0,h0,rfl⟩:=List.mem_map.1 he
   exact graph_even k _ e0 h0
 have hlet:∀ e ∈ joinE k a b,e.2.1 < 2 * k:=fun e he=>by
  unfold joinE at he
  rcases List.mem_append.1 he with he | he
  ·exact graph_let e he
  ·obtain ⟨e0,h0,rfl⟩:=List.mem_map.1 he
   exact graph_let e0 h0
 have hsh:∀ v,v < b.next.length → (shF a.acc.length v = 0 ∧ v = 0) ∨ (0 < v ∧ shF a.acc.length v = v + a.next.length):=fun v hv=>by
  unfold shF
  split <;> omega
 have hB:InB 1900 (joinE k a b):=fun e he=>by
  unfold joinE at he
  rcases List.mem_append.1 he with he | he
  ·have:=hltA e he; omega
  ·obtain ⟨e0,h0,rfl⟩:=List.mem_map.1 he
   have:=hltB e0 h0
   have h1:=hsh e0.1 this.1
   have h2:=hsh e0.2.2 this.2
   unfold shE
   dsimp only
   omega
 -- edges are there once,but for loops at the start
 have hinj:∀ u v,u < b.next.length → v < b.next.length → shF a.acc.length u = shF a.acc.length v → u = v:=fun u v hu hv he=>by
  have h1:=hsh u hu
  have h2:=hsh v hv
  omega
 have huq:Uq (joinE k a b):=by
  unfold joinE Uq
  rw [List.pairwise_append]
  refine ⟨Uq.of_nodup (graph_nodup k _),?_,fun e he f hf heq=>?_⟩
  ·rw [List.pairwise_map]
   refine List.Pairwise.imp_of_mem (fun {e f} he hf hne heq=>absurd ?_ hne) (graph_nodup k b.next)
   unfold shE at heq
   simp only [Prod.mk.injEq] at heq
   have h1:=hinj _ _ (hltB e he).1 (hltB f hf).1 heq.1
   have h2:=hinj _ _ (hltB e he).2 (hltB f hf).2 heq.2.2
   apply Prod.ext h1
   apply Prod.ext heq.2.1 h2
  ·obtain ⟨e0,h0,rfl⟩:=List.mem_map.1 hf
   have h1:=hltA e he
   have h2:=hltB e0 h0
   have h3:=hsh e0.1 h2.1
   have h4:=hsh e0.2.2 h2.2
   rw [heq] at h1
   unfold shE at h1 heq
   rw [heq]
   dsimp only at h1 ⊢
   omega
 obtain ⟨o',ho'⟩:=edges_folded hk hev hB (by decide) (by decide) hlet
 obtain ⟨K,R,hK,hR⟩:=stall_of ho' hev hB huq
 have hlen:=stall_len hB (by decide) hK
 have ho'':o' = some R:=by
  rcases hR with h | h
  ·exact h.1
  ·omega
 refine ⟨K,R,hK,?_⟩
 rw [← ho'']
 refine foldedD_same h ho' fun l hl=>?_
 -- the same graph,numbered otherwise
 have hid:∀ s,atN 0 1 s = s:=fun s=>by unfold atN; split <;> omega
 have hat:∀ s,atN 0 a.next.length s = if s = 0 then 0 else a.next.length + (s - 1):=fun s=>rfl
 have hdirJ:∀ s x t,Dir (joinE k a b) s x t ↔ Dl (k:Int) a s x t ∨ ∃ u v,Dl (k:Int) b u x v ∧ s = shF a.acc.length u ∧ t = shF a.acc.length v:=fun s x t=>by
  unfold joinE
  rw [dir_app,graph_dl hk.2 ha]
  refine or_congr Iff.rfl ?_
  constructor
  ·rintro (⟨h1,h2⟩ | ⟨h1,h2⟩)
   ·obtain ⟨e0,h0,he⟩:=List.mem_map.1 h2
    unfold shE at he
    simp only [Prod.mk.injEq] at he
    obtain ⟨rfl,rfl,rfl⟩:=he
    exact ⟨e0.1,e0.2.2,(graph_dl hk.2 hb).1 (.inl ⟨h1,h0⟩),rfl,rfl⟩
   ·obtain ⟨e0,h0,he⟩:=List.mem_map.1 h2
    unfold shE at he
    simp only [Prod.mk.injEq] at he
    obtain ⟨rfl,he,rfl⟩:=he
    refine ⟨e0.2.2,e0.1,(graph_dl hk.2 hb).1 (.inr ⟨h1,?_⟩),rfl,rfl⟩
    rw [← he]; exact h0
  ·rintro ⟨u,v,h1,rfl,rfl⟩
   rcases (graph_dl hk.2 hb).2 h1 with ⟨g1,g2⟩ | ⟨g1,g2⟩
   ·exact .inl ⟨g1,List.mem_map.2 ⟨_,g2,rfl⟩⟩
   ·exact .inr ⟨g1,List.mem_map.2 ⟨_,g2,rfl⟩⟩
 refine lg_hom (f:=fun v=>if v < a.next.length then v else v + 1) (g:=fun v=>if v < a.next.length then v else v - 1) ?_ ?_ ?_ ?_ l
 ·rintro s x t (⟨u,y,v,h1,rfl,rfl,rfl⟩ | ⟨u,y,v,h1,rfl,rfl,rfl⟩)
  ·rw [hid,hid,hdirJ]
   have g1:=h1.1
   have g2:=(edge_bas (k:=(k:Int)) (by omega) ha h1.1 h1.2.1 h1.2.2).1
   rw [if_pos g1,if_pos g2]
   exact .inl h1
  ·rw [hat,hat,hdirJ]
   refine .inr ⟨u,v,h1,?_,?_⟩
   ·unfold shF
    by_cases hu:u = 0
    ·rw [if_pos hu,if_pos (by omega),if_neg (by omega)]; omega
    ·rw [if_neg hu,if_neg (by omega),if_pos (by omega)]; omega
   ·unfold shF
    by_cases hu:v = 0
    ·rw [if_pos hu,if_pos (by omega),if_neg (by omega)]; omega
    ·rw [if_neg hu,if_neg (by omega),if_pos (by omega)]; omega
 ·intro s x t hd
  rw [hdirJ] at hd
  rcases hd with h1 | ⟨u,v,h1,rfl,rfl⟩
  ·have g1:=h1.1
   have g2:=(edge_bas (k:=(k:Int)) (by omega) ha h1.1 h1.2.1 h1.2.2).1
   rw [if_pos g1,if_pos g2]
   exact .inl ⟨s,x,t,h1,(hid s).symm,rfl,(hid t).symm⟩
  ·have g2:=(edge_bas (k:=(k:Int)) (by omega) hb h1.1 h1.2.1 h1.2.2).1
   have key:∀ u,u < b.next.length → (if shF a.acc.length u < a.next.length then shF a.acc.length u else shF a.acc.length u - 1) = atN 0 a.next.length u:=fun u hu=>by
    rcases hsh u hu with ⟨e,rfl⟩ | ⟨hp,e⟩
    ·rw [e,if_pos (show 0 < a.next.length by omega)]; rfl
    ·rw [e,if_neg (show ¬ u + a.next.length < a.next.length by omega),hat,if_neg (show ¬ u = 0 by omega)]; omega
   exact .inr ⟨u,x,v,h1,key u h1.1,rfl,key v g2⟩
 ·rw [if_pos (by omega)]
 ·rw [if_pos (by omega)]
theorem rank_edges {k:Nat} (hk:1 ≤ k ∧ k ≤ 8) {a:Aut} (hc:a.check (k:Int) = 0):((basF a.next).basis.length:Int) = ((graphL k 0 a.next).length:Int) - (a.next.length:Int) + 1:=by
 have h:=(indexes (k:=(k:Int)) (by omega) hc).1
 have hB:basisF (k:Int) a = ((basF a.next).basis,0):=by
  unfold basisF examF
  simp [hc]; omega
 rw [hB] at h
 simpa using h
def redR (a:Aut):Int:=if ((basF a.next).basis.length:Int) - 1 > 0 then ((basF a.next).basis.length:Int) - 1 else 0
theorem has_edge {k:Nat} (hk:1 ≤ k ∧ k ≤ 8) {c:Aut} (hc:c.check (k:Int) = 0) {j:Nat} (hj:j < c.next.length) (hlt:c.next.length < (graphL k 0 c.next).length):∃ x t,Dl (k:Int) c j x t:=by
 obtain ⟨g,cn⟩:=auto_gq hk.2 hc
 obtain ⟨e,he⟩:∃ e,e ∈ graphL k 0 c.next:=by
  cases h:graphL k 0 c.next with
  | nil=>rw [h] at hlt; simp at hlt
  | cons e l=>exact ⟨e,by simp⟩
 obtain ⟨l,hl⟩:=cn j (List.mem_range.2 hj) e.1 (g.inn e he).1
 cases hl with
 | nil=>exact ⟨_,_,(graph_dl hk.2 hc).1 (.inl ⟨g.ev e he,he⟩)⟩
 | cons h1 _=>exact ⟨_,_,(graph_dl hk.2 hc).1 h1⟩
theorem meet_rank {k:Nat} (hk:1 ≤ k ∧ k ≤ 8) {a b:Aut} (ha:a.check (k:Int) = 0) (hb:b.check (k:Int) = 0) {q:List (Nat × Nat)} {R:List Row} (hP:Prd (k:Int) a b q) (h:FoldedD k (prodD (k:Int) a b q) 0 (some R)) :
  redR (autE k R) ≤ redR a * redR b:=by
 obtain ⟨hc,_⟩:=foldedD_auto hk h
 obtain ⟨ψ,h1,h2⟩:=folded_hom hk (prod_aut (by omega) ha hb hP) h
 have ra:=rank_edges hk ha
 have rb:=rank_edges hk hb
 have rc:=rank_edges hk hc
 have hnl:(autE k R).next.length = R.length:=by simp [autE]
 have hnn:0 ≤ redR a * redR b:=Int.mul_nonneg (by unfold redR; split <;> omega) (by unfold redR; split <;> omega)
 by_cases hlt:(autE k R).next.length < (graphL k 0 (autE k R).next).length
 ·have at':∀ s x t,Dl (k:Int) (autE k R) s x t → Dl (k:Int) a (q.getD (ψ s) (0,0)).1 x (q.getD (ψ t) (0,0)).1 ∧ Dl (k:Int) b (q.getD (ψ s) (0,0)).2 x (q.getD (ψ t) (0,0)).2:=fun s x t hd=>by
   obtain ⟨s1,t1,s2,t2,p1,p2,p3,p4⟩:=h2 s x t hd
   have f1:q.getD (ψ s) (0,0) = (s1,t1):=by rw [List.getD_eq_getElem?_getD,p1]; rfl
   have f2:q.getD (ψ t) (0,0) = (s2,t2):=by rw [List.getD_eq_getElem?_getD,p2]; rfl
   rw [f1,f2]; exact ⟨p3,p4⟩
  have hin:∀ j,j < R.length → ∃ p,q[ψ j]? = some p:=fun j hj=>by
   obtain ⟨x,t,hd⟩:=has_edge hk hc (by rw [hnl]; exact hj) hlt
   obtain ⟨s1,t1,s2,t2,p1,_⟩:=h2 j x t hd
   exact ⟨_,p1⟩
  have inj:∀ i j,i < (autE k R).next.length → j < (autE k R).next.length → (q.getD (ψ i) (0,0)).1 = (q.getD (ψ j) (0,0)).1 → (q.getD (ψ i) (0,0)).2 = (q.getD (ψ j) (0,0)).2 → i = j:=fun i j hi hj e1 e2=>by
   rw [hnl] at hi hj
   obtain ⟨p,hp⟩:=hin i hi
   obtain ⟨p',hp'⟩:=hin j hj
   have f1:q.getD (ψ i) (0,0) = p:=by rw [List.getD_eq_getElem?_getD,hp]; rfl
   have f2:q.getD (ψ j) (0,0) = p':=by rw [List.getD_eq_getElem?_getD,hp']; rfl
   rw [f1,f2] at e1 e2
   have:p = p':=Prod.ext e1 e2
   subst this
   exact h1 i j hi hj ((List.getElem?_inj (List.getElem?_eq_some_iff.1 hp).1 hP.nodup).1 (hp.trans hp'.symm))
  obtain ⟨g1,g2,g3⟩:=hanna hk ha hb hc (fun s x t hd=>(at' s x t hd).1) (fun s x t hd=>(at' s x t hd).2) inj hlt
  have ea:redR a = (((graphL k 0 a.next).length - a.next.length:Nat):Int):=by unfold redR; split <;> omega
  have eb:redR b = (((graphL k 0 b.next).length - b.next.length:Nat):Int):=by unfold redR; split <;> omega
  have ec:redR (autE k R) = (((graphL k 0 (autE k R).next).length - (autE k R).next.length:Nat):Int):=by unfold redR; split <;> omega
  rw [ea,eb,ec,← Int.natCast_mul]
  exact Int.ofNat_le.2 g3
 ·have:redR (autE k R) = 0:=by unfold redR; split <;> omega
  rw [this]; exact hnn
end Go.Proofs.YtffdjfkekdoeaaaDoor.Fo
end
section
set_option maxRecDepth 8000
set_option maxHeartbeats 8000000
namespace Go.Proofs.YtffdjfkekdoeaaaDoor.Fo
open Fw Wd Rf Pl
def badC (k:Int) (a:Aut):Int:=if ¬ (1 ≤ k ∧ k ≤ 8) then 1 else if isM k a then 0 else 210
theorem check_badC (k:Int) (a:Aut):a.check k = badC k a:=by
 unfold badC
 by_cases hk:1 ≤ k ∧ k ≤ 8
 ·rw [if_neg (by simpa using hk),isM_check hk]
  by_cases h0:a.check k = 0
  ·simp [h0]
  ·rw [decide_eq_false h0]
   unfold Aut.check checkG at h0 ⊢
   rw [if_neg (by simpa using hk)] at h0 ⊢
   split
   ·rfl
   ·rename_i hc
    rw [if_neg hc] at h0
    split
    ·rename_i seen hs
     rw [hs] at h0
     split
     ·rename_i he
      simp [he] at h0
     ·rfl
    ·rfl
 ·rw [if_pos hk]
  unfold Aut.check checkG
  rw [if_pos hk]
end Go.Proofs.YtffdjfkekdoeaaaDoor.Fo
end
section
set_option maxRecDepth 8000
set_option maxHeartbeats 4000000
namespace Go.Proofs.YtffdjfkekdoeaaaDoor.Fo
open Fw Wd Rf Pl
theorem rdS {w:World} {x:Sl} {l:List ByteArray} (h:RdT w tS x l) {i:Int} {s:ByteArray} (h0:0 ≤ i) (hs:l[i.toNat]? = some s) {K:Addr → Prop} (k:∀ a,(∀ W,Chg Nil w W → W.cell? a = some (.string s)) → K a):Idx x.a x.n 1 i K:=
 h.idx (t:=tS) i.toNat (by omega) hs fun a ha=>k a fun W hW=>hW.cell (by have:=ha 0 _ rfl; rwa [add0] at this) fun h=>h
end Go.Proofs.YtffdjfkekdoeaaaDoor.Fo
end
section
set_option maxRecDepth 8000
set_option maxHeartbeats 4000000
namespace Go.Proofs.YtffdjfkekdoeaaaDoor.Fo
open Fw Wd Rf Pl
theorem word_all {k:Int} {s:ByteArray} (hs:checkF k s = 0):∀ x ∈ wordF s,x < 2 * k.toNat:=fun x hx=>by
 obtain ⟨i,hi,rfl⟩:=List.getElem_of_mem hx
 exact word_lt hs i hi
theorem word_rd {k:Int} {s:ByteArray} (hs:checkF k s = 0):Rd (wordF s):=by rw [word_raw (good_word hs)]; exact rd_rd _
theorem exam_ok {k:Int} {a:Aut} {s:ByteArray} (hk:1 ≤ k ∧ k ≤ 8) (hc:a.check k = 0) (hs:checkF k s = 0):examF k [a] [s] = 0:=by
 unfold examF
 simp [hc,hk.1,hk.2,hs]
end Go.Proofs.YtffdjfkekdoeaaaDoor.Fo
end
section
set_option maxRecDepth 10000
namespace Go.Proofs.YtffdjfkekdoeaaaDoor
open Fw
noncomputable def cayleylaw21_FoldIntersects.ann:Ann where
 loops:=fun | _=>[]
 joins:=fun | 3=>some [(0,.sc (.int .i64)),(3,.sc .str),(5,.sc .adr),(6,.sc .adr)] | 8=>some [(0,.sc (.int .i64)),(3,.sc .str),(5,.sc .adr),(6,.sc .adr),(9,.sc .adr),(10,.sc (.int .i64)),(11,.sc .adr),(12,.sc (.int .i64)),(13,.sc (.int .i64))] | 13=>some [(0,.sc (.int .i64)),(3,.sc .str),(5,.sc .adr),(6,.sc .adr),(9,.sc .adr)] | _=>none
noncomputable def cayleylaw21_FoldIntersects.body:Code:=match Tryd.f8.body with | some c=>c | none=>.skip
def cayleylaw21_FoldIntersects.sh (p0:Int) (p1_0:Int) (p1_1:Int) (p1_2:Sl) (p1_3:Sl) (p2_0:Int) (p2_1:Int) (p2_2:Sl) (p2_3:Sl) (p3:ByteArray) (R:Ending → World → Prop) (w:World):Prop:=
 New w (.cells #[(.int .i64 p1_0),(.int .i64 p1_1),(.slice p1_2.a p1_2.n p1_2.c),(.slice p1_3.a p1_3.n p1_3.c)] 27) fun b1 w2=>
 New w2 (.cells #[(.int .i64 p2_0),(.int .i64 p2_1),(.slice p2_2.a p2_2.n p2_2.c),(.slice p2_3.a p2_3.n p2_3.c)] 27) fun b3 w4=>
 Join (σ:=Int × ByteArray × Addr × Addr × Unit) (fun j7 g6 w12=>
  LoadT (.agg [.int .i64,.int .i64,.sl,.sl]) w12 j7.2.2.1 fun x13=>
  LoadT (.agg [.int .i64,.int .i64,.sl,.sl]) w12 j7.2.2.2.1 fun x14=>
  CallN Tryd.prog 33 #[(.int .i64 j7.1),(.agg #[(.int .i64 x13.1),(.int .i64 x13.2.1),(.slice x13.2.2.1.a x13.2.2.1.n x13.2.2.1.c),(.slice x13.2.2.2.1.a x13.2.2.2.1.n x13.2.2.2.1.c)]),(.agg #[(.int .i64 x14.1),(.int .i64 x14.2.1),(.slice x14.2.2.1.a x14.2.2.1.n x14.2.2.1.c),(.slice x14.2.2.2.1.a x14.2.2.2.1.n x14.2.2.2.1.c)])] [.agg [.int .i64,.int .i64,.sl,.sl],.sc (.int .i64)] w12 (fun r15 w16=>
   New w16 (.cells #[(.int .i64 0),(.int .i64 0),(.slice none 0 0),(.slice none 0 0)] 27) fun b18 w19=>
   StoreN w19 (Addr.mk b18 0 none) [(.int .i64 r15.1.1),(.int .i64 r15.1.2.1),(.slice r15.1.2.2.1.a r15.1.2.2.1.n r15.1.2.2.1.c),(.slice r15.1.2.2.2.1.a r15.1.2.2.2.1.n r15.1.2.2.2.1.c)] fun w20=>
   LoadT (.agg [.int .i64,.int .i64,.sl,.sl]) w20 j7.2.2.1 fun x21=>
   LoadT (.agg [.int .i64,.int .i64,.sl,.sl]) w20 j7.2.2.2.1 fun x22=>
   CallN Tryd.prog 34 #[(.int .i64 j7.1),(.agg #[(.int .i64 x21.1),(.int .i64 x21.2.1),(.slice x21.2.2.1.a x21.2.2.1.n x21.2.2.1.c),(.slice x21.2.2.2.1.a x21.2.2.2.1.n x21.2.2.2.1.c)]),(.agg #[(.int .i64 x22.1),(.int .i64 x22.2.1),(.slice x22.2.2.1.a x22.2.2.1.n x22.2.2.1.c),(.slice x22.2.2.2.1.a x22.2.2.2.1.n x22.2.2.2.1.c)])] [.agg [.int .i64,.int .i64,.sl,.sl],.sc (.int .i64)] w20 (fun r23 w24=>
    New w24 (.cells #[(.int .i64 0),(.int .i64 0),(.slice none 0 0),(.slice none 0 0)] 27) fun b26 w27=>
    StoreN w27 (Addr.mk b26 0 none) [(.int .i64 r23.1.1),(.int .i64 r23.1.2.1),(.slice r23.1.2.2.1.a r23.1.2.2.1.n r23.1.2.2.1.c),(.slice r23.1.2.2.2.1.a r23.1.2.2.2.1.n r23.1.2.2.2.1.c)] fun w28=>
    LoadT (.agg [.int .i64,.int .i64,.sl,.sl]) w28 j7.2.2.1 fun x29=>
    CallT Tryd.prog 18 #[(.int .i64 j7.1),(.agg #[(.int .i64 x29.1),(.int .i64 x29.2.1),(.slice x29.2.2.1.a x29.2.2.1.n x29.2.2.1.c),(.slice x29.2.2.2.1.a x29.2.2.2.1.n x29.2.2.2.1.c)])] (.sc (.int .i64)) w28 (fun r30 w31=>
     Join (σ:=Int × ByteArray × Addr × Addr × Addr × Int × Addr × Int × Int × Unit) (fun j35 g34 w40=>
      Br ((j35.2.2.2.2.2.2.2.2.1:Int) != 0)
       (CallT Tryd.prog 14 #[] (.sc .bool) w40 (fun r41 w42=>
        Br r41
         (Br ((j35.2.2.2.2.2.1:Int) == j35.2.2.2.2.2.2.2.2.1)
          (Br ((j35.2.2.2.2.2.2.2.1:Int) == j35.2.2.2.2.2.2.2.2.1)
           (LoadT (.sc .sl) w42 (j35.2.2.2.2.1.add 2) fun x44=>
           Br ((((x44.n:Nat):Int):Int) == 0)
            (LoadT (.sc .sl) w42 (j35.2.2.2.2.2.2.1.add 2) fun x45=>
            R (.returned (.bool ((((x45.n:Nat):Int):Int) == 0))) w42)
            (R (.returned (.bool false)) w42))
           (R (.returned (.bool false)) w42))
          (R (.returned (.bool false)) w42))
         (R (.returned (.bool false)) w42)) (fun h43 w42=>R (.panicked h43) w42))
       (LoadT (.agg [.int .i64,.int .i64,.sl,.sl]) w40 j35.2.2.1 fun x46=>
       LoadT (.agg [.int .i64,.int .i64,.sl,.sl]) w40 j35.2.2.2.1 fun x47=>
       CallN Tryd.prog 35 #[(.int .i64 j35.1),(.agg #[(.int .i64 x46.1),(.int .i64 x46.2.1),(.slice x46.2.2.1.a x46.2.2.1.n x46.2.2.1.c),(.slice x46.2.2.2.1.a x46.2.2.2.1.n x46.2.2.2.1.c)]),(.agg #[(.int .i64 x47.1),(.int .i64 x47.2.1),(.slice x47.2.2.1.a x47.2.2.1.n x47.2.2.1.c),(.slice x47.2.2.2.1.a x47.2.2.2.1.n x47.2.2.2.1.c)])] [.agg [.int .i64,.int .i64,.sl,.sl],.sc (.int .i64)] w40 (fun r48 w49=>
        New w49 (.cells #[(.int .i64 0),(.int .i64 0),(.slice none 0 0),(.slice none 0 0)] 27) fun b51 w52=>
        StoreN w52 (Addr.mk b51 0 none) [(.int .i64 r48.1.1),(.int .i64 r48.1.2.1),(.slice r48.1.2.2.1.a r48.1.2.2.1.n r48.1.2.2.1.c),(.slice r48.1.2.2.2.1.a r48.1.2.2.2.1.n r48.1.2.2.2.1.c)] fun w53=>
        Join (σ:=Int × ByteArray × Addr × Addr × Addr × Unit) (fun j56 g55 w75=>
         ∃ S76:World → Prop,S76 w75.drew ∧
         (LoadS S76 (.agg [.int .i64,.int .i64,.sl,.sl]) j56.2.2.1 fun x77=>
         LoadS S76 (.agg [.int .i64,.int .i64,.sl,.sl]) j56.2.2.2.1 fun x78=>
         LoadS S76 (.agg [.int .i64,.int .i64,.sl,.sl]) j56.2.2.2.2.1 fun x79=>
         CallT Tryd.prog 37 #[(.agg #[(.int .i64 x77.1),(.int .i64 x77.2.1),(.slice x77.2.2.1.a x77.2.2.1.n x77.2.2.1.c),(.slice x77.2.2.2.1.a x77.2.2.2.1.n x77.2.2.2.1.c)])] (.sc (.int .i64)) w75.drew (fun r80 w81=>
           S76 w81 ∧
           (∃ r83:Ty.den (.sc (.int .i64)),(∀ w84,S76 w84 → (Builtin.max_ #[3,3] 3 #[(.int .i64 0),(.int .i64 (IntKind.wrap .i64 (r80 - 1)))]).run Tryd.prog w84 = .ok (Ty.val (.sc (.int .i64)) r83) w84) ∧
           CallT Tryd.prog 37 #[(.agg #[(.int .i64 x78.1),(.int .i64 x78.2.1),(.slice x78.2.2.1.a x78.2.2.1.n x78.2.2.1.c),(.slice x78.2.2.2.1.a x78.2.2.2.1.n x78.2.2.2.1.c)])] (.sc (.int .i64)) w81 (fun r85 w86=>
             S76 w86 ∧
             (∃ r88:Ty.den (.sc (.int .i64)),(∀ w89,S76 w89 → (Builtin.max_ #[3,3] 3 #[(.int .i64 0),(.int .i64 (IntKind.wrap .i64 (r85 - 1)))]).run Tryd.prog w89 = .ok (Ty.val (.sc (.int .i64)) r88) w89) ∧
             CallT Tryd.prog 37 #[(.agg #[(.int .i64 x79.1),(.int .i64 x79.2.1),(.slice x79.2.2.1.a x79.2.2.1.n x79.2.2.1.c),(.slice x79.2.2.2.1.a x79.2.2.2.1.n x79.2.2.2.1.c)])] (.sc (.int .i64)) w86 (fun r90 w91=>
               S76 w91 ∧
               (∃ r93:Ty.den (.sc (.int .i64)),(∀ w94,S76 w94 → (Builtin.max_ #[3,3] 3 #[(.int .i64 0),(.int .i64 (IntKind.wrap .i64 (r90 - 1)))]).run Tryd.prog w94 = .ok (Ty.val (.sc (.int .i64)) r93) w94) ∧
               Br (decide ((r93:Int) > (IntKind.wrap .i64 (r83 * r88))))
                (R (.returned (.bool false)) w91)
                (CallT Tryd.prog 22 #[(.int .i64 j56.1),(.string j56.2.1)] (.sc .bool) w91 (fun r95 w96=>
                 Br (!r95)
                  (R (.returned (.bool true)) w96)
                  (LoadT (.agg [.int .i64,.int .i64,.sl,.sl]) w96 j56.2.2.1 fun x98=>
                  CallN Tryd.prog 20 #[(.int .i64 j56.1),(.agg #[(.int .i64 x98.1),(.int .i64 x98.2.1),(.slice x98.2.2.1.a x98.2.2.1.n x98.2.2.1.c),(.slice x98.2.2.2.1.a x98.2.2.2.1.n x98.2.2.2.1.c)]),(.string j56.2.1)] [.sc .bool,.sc (.int .i64)] w96 (fun r99 w100=>
                   LoadT (.agg [.int .i64,.int .i64,.sl,.sl]) w100 j56.2.2.2.1 fun x102=>
                   CallN Tryd.prog 20 #[(.int .i64 j56.1),(.agg #[(.int .i64 x102.1),(.int .i64 x102.2.1),(.slice x102.2.2.1.a x102.2.2.1.n x102.2.2.1.c),(.slice x102.2.2.2.1.a x102.2.2.2.1.n x102.2.2.2.1.c)]),(.string j56.2.1)] [.sc .bool,.sc (.int .i64)] w100 (fun r103 w104=>
                    LoadT (.agg [.int .i64,.int .i64,.sl,.sl]) w104 j56.2.2.2.2.1 fun x106=>
                    CallN Tryd.prog 20 #[(.int .i64 j56.1),(.agg #[(.int .i64 x106.1),(.int .i64 x106.2.1),(.slice x106.2.2.1.a x106.2.2.1.n x106.2.2.1.c),(.slice x106.2.2.2.1.a x106.2.2.2.1.n x106.2.2.2.1.c)]),(.string j56.2.1)] [.sc .bool,.sc (.int .i64)] w104 (fun r107 w108=>
                     Br ((r99.2.1:Int) == 0)
                      (Br ((r103.2.1:Int) == 0)
                       (Br ((r107.2.1:Int) == 0)
                        (Br r99.1
                         (R (.returned (.bool (r107.1 == r103.1))) w108)
                         (R (.returned (.bool (r107.1 == false))) w108))
                        (R (.returned (.bool false)) w108))
                       (R (.returned (.bool false)) w108))
                      (R (.returned (.bool false)) w108)) (fun h109 w108=>R (.panicked h109) w108)) (fun h105 w104=>R (.panicked h105) w104)) (fun h101 w100=>R (.panicked h101) w100))) (fun h97 w96=>R (.panicked h97) w96)))) (fun h92 w91=>R (.panicked h92) w91))) (fun h87 w86=>R (.panicked h87) w86))) (fun h82 w81=>R (.panicked h82) w81))) fun J54=>
         ∃ S57:World → Prop,S57 w53.drew ∧
         (CallT Tryd.prog 14 #[] (.sc .bool) w53.drew (fun r58 w59=>
           S57 w59 ∧
           (Br (!r58)
            (Br true
                (R (.returned (.bool false)) w59)
                (J54 (j35.1,j35.2.1,j35.2.2.1,j35.2.2.2.1,j35.2.2.2.2.1,()) w59))
            (Br ((j35.2.2.2.2.2.1:Int) != 0)
             (Br true
                 (R (.returned (.bool false)) w59)
                 (J54 (j35.1,j35.2.1,j35.2.2.1,j35.2.2.2.1,j35.2.2.2.2.1,()) w59))
             (Br ((j35.2.2.2.2.2.2.2.1:Int) != 0)
              (Br true
                  (R (.returned (.bool false)) w59)
                  (J54 (j35.1,j35.2.1,j35.2.2.1,j35.2.2.2.1,j35.2.2.2.2.1,()) w59))
              (LoadS S57 (.agg [.int .i64,.int .i64,.sl,.sl]) j35.2.2.2.2.1 fun x61=>
              LoadS S57 (.agg [.int .i64,.int .i64,.sl,.sl]) (Addr.mk b51 0 none) fun x62=>
              CallT Tryd.prog 15 #[(.agg #[(.int .i64 x61.1),(.int .i64 x61.2.1),(.slice x61.2.2.1.a x61.2.2.1.n x61.2.2.1.c),(.slice x61.2.2.2.1.a x61.2.2.2.1.n x61.2.2.2.1.c)]),(.agg #[(.int .i64 x62.1),(.int .i64 x62.2.1),(.slice x62.2.2.1.a x62.2.2.1.n x62.2.2.1.c),(.slice x62.2.2.2.1.a x62.2.2.2.1.n x62.2.2.2.1.c)])] (.sc .bool) w59 (fun r63 w64=>
                S57 w64 ∧
                (Br (!r63)
                 (Br true
                    (R (.returned (.bool false)) w64)
                    (J54 (j35.1,j35.2.1,j35.2.2.1,j35.2.2.2.1,j35.2.2.2.2.1,()) w64))
                 (LoadS S57 (.agg [.int .i64,.int .i64,.sl,.sl]) j35.2.2.2.2.2.2.1 fun x66=>
                 LoadS S57 (.agg [.int .i64,.int .i64,.sl,.sl]) j35.2.2.1 fun x67=>
                 LoadS S57 (.agg [.int .i64,.int .i64,.sl,.sl]) j35.2.2.2.1 fun x68=>
                 CallT Tryd.prog 36 #[(.int .i64 j35.1),(.agg #[(.int .i64 x67.1),(.int .i64 x67.2.1),(.slice x67.2.2.1.a x67.2.2.1.n x67.2.2.1.c),(.slice x67.2.2.2.1.a x67.2.2.2.1.n x67.2.2.2.1.c)]),(.agg #[(.int .i64 x68.1),(.int .i64 x68.2.1),(.slice x68.2.2.1.a x68.2.2.1.n x68.2.2.1.c),(.slice x68.2.2.2.1.a x68.2.2.2.1.n x68.2.2.2.1.c)])] (.agg [.int .i64,.int .i64,.sl,.sl]) w64 (fun r69 w70=>
                   S57 w70 ∧
                   (CallT Tryd.prog 15 #[(.agg #[(.int .i64 x66.1),(.int .i64 x66.2.1),(.slice x66.2.2.1.a x66.2.2.1.n x66.2.2.1.c),(.slice x66.2.2.2.1.a x66.2.2.2.1.n x66.2.2.2.1.c)]),(.agg #[(.int .i64 r69.1),(.int .i64 r69.2.1),(.slice r69.2.2.1.a r69.2.2.1.n r69.2.2.1.c),(.slice r69.2.2.2.1.a r69.2.2.2.1.n r69.2.2.2.1.c)])] (.sc .bool) w70 (fun r72 w73=>
                     S57 w73 ∧
                     (Br (!r72)
                      (R (.returned (.bool false)) w73)
                      (J54 (j35.1,j35.2.1,j35.2.2.1,j35.2.2.2.1,j35.2.2.2.2.1,()) w73))) (fun h74 w73=>R (.panicked h74) w73))) (fun h71 w70=>R (.panicked h71) w70)))) (fun h65 w64=>R (.panicked h65) w64)))))) (fun h60 w59=>R (.panicked h60) w59))) (fun h50 w49=>R (.panicked h50) w49))) fun J33=>
      Br ((r30:Int) == 0)
       (LoadT (.agg [.int .i64,.int .i64,.sl,.sl]) w31 j7.2.2.2.1 fun x36=>
       CallT Tryd.prog 18 #[(.int .i64 j7.1),(.agg #[(.int .i64 x36.1),(.int .i64 x36.2.1),(.slice x36.2.2.1.a x36.2.2.1.n x36.2.2.1.c),(.slice x36.2.2.2.1.a x36.2.2.2.1.n x36.2.2.2.1.c)])] (.sc (.int .i64)) w31 (fun r37 w38=>
        J33 (j7.1,j7.2.1,j7.2.2.1,j7.2.2.2.1,(Addr.mk b18 0 none),r15.2.1,(Addr.mk b26 0 none),r23.2.1,r37,()) w38) (fun h39 w38=>R (.panicked h39) w38))
       (J33 (j7.1,j7.2.1,j7.2.2.1,j7.2.2.2.1,(Addr.mk b18 0 none),r15.2.1,(Addr.mk b26 0 none),r23.2.1,r30,()) w31)) (fun h32 w31=>R (.panicked h32) w31)) (fun h25 w24=>R (.panicked h25) w24)) (fun h17 w16=>R (.panicked h17) w16)) fun J5=>
  LoadT (.sc .sl) w4 ((Addr.mk b1 0 none).add 2) fun x8=>
  Br (decide ((((x8.n:Nat):Int):Int) > 20))
   (Br true
    (R (.returned (.bool true)) w4)
    (J5 (p0,p3,(Addr.mk b1 0 none),(Addr.mk b3 0 none),()) w4))
   (LoadT (.sc .sl) w4 ((Addr.mk b3 0 none).add 2) fun x9=>
   Br (decide ((((x9.n:Nat):Int):Int) > 20))
    (Br true
     (R (.returned (.bool true)) w4)
     (J5 (p0,p3,(Addr.mk b1 0 none),(Addr.mk b3 0 none),()) w4))
    (LoadT (.sc .sl) w4 ((Addr.mk b1 0 none).add 3) fun x10=>
    Br (decide ((((x10.n:Nat):Int):Int) > 20))
     (Br true
      (R (.returned (.bool true)) w4)
      (J5 (p0,p3,(Addr.mk b1 0 none),(Addr.mk b3 0 none),()) w4))
     (LoadT (.sc .sl) w4 ((Addr.mk b3 0 none).add 3) fun x11=>
     Br (decide ((((x11.n:Nat):Int):Int) > 20))
      (Br true
       (R (.returned (.bool true)) w4)
       (J5 (p0,p3,(Addr.mk b1 0 none),(Addr.mk b3 0 none),()) w4))
      (Br (decide ((((p3.size:Nat):Int):Int) > 200))
       (R (.returned (.bool true)) w4)
       (J5 (p0,p3,(Addr.mk b1 0 none),(Addr.mk b3 0 none),()) w4)))))
theorem cayleylaw21_FoldIntersects.calls (p0:Int) (p1_0:Int) (p1_1:Int) (p1_2:Sl) (p1_3:Sl) (p2_0:Int) (p2_1:Int) (p2_2:Sl) (p2_3:Sl) (p3:ByteArray) {R:Ending → World → Prop} {w:World} (h:cayleylaw21_FoldIntersects.sh p0 p1_0 p1_1 p1_2 p1_3 p2_0 p2_1 p2_2 p2_3 p3 R w):Calls Tryd.prog 8 #[(.int .i64 p0),(.agg #[(.int .i64 p1_0),(.int .i64 p1_1),(.slice p1_2.a p1_2.n p1_2.c),(.slice p1_3.a p1_3.n p1_3.c)]),(.agg #[(.int .i64 p2_0),(.int .i64 p2_1),(.slice p2_2.a p2_2.n p2_2.c),(.slice p2_3.a p2_3.n p2_3.c)]),(.string p3)] w R:=calls_of_wpc mixed Tryd.func8 (by kernel_rfl) (by kernel_rfl) ((show _ = wpc Tryd.prog cayleylaw21_FoldIntersects.ann cayleylaw21_FoldIntersects.body (fnKs Tryd.prog Tryd.f8 R) [] (env0 #[(.int .i64 p0),(.agg #[(.int .i64 p1_0),(.int .i64 p1_1),(.slice p1_2.a p1_2.n p1_2.c),(.slice p1_3.a p1_3.n p1_3.c)]),(.agg #[(.int .i64 p2_0),(.int .i64 p2_1),(.slice p2_2.a p2_2.n p2_2.c),(.slice p2_3.a p2_3.n p2_3.c)]),(.string p3)]) w by kernel_rfl).mp h)
end Go.Proofs.YtffdjfkekdoeaaaDoor
end
section
set_option maxRecDepth 8000
set_option maxHeartbeats 8000000
namespace Go.Proofs.YtffdjfkekdoeaaaDoor.Fo
open Fw Wd Rf Pl
theorem Rank_ret {w:World} {k:Int} {x:Int × Int × Sl × Sl × Unit} {a:Aut} (h:AutIn w x a) (hc:a.check k = 0) (hk:1 ≤ k ∧ k ≤ 8) :
  Ret Tryd.prog 37 #[.agg #[.int .i64 x.1,.int .i64 x.2.1,x.2.2.1.v,x.2.2.2.1.v]] tI w fun y w'=>y = ((basF a.next).basis.length:Int) ∧ Chg Nil w w':=by
 obtain ⟨x1,x2,sa,sn,_⟩:=x
 refine cayleyref21_Rank.calls x1 x2 sa sn ?_
 unfold cayleyref21_Rank.sh
 refine New.mk fun b1 w1 hb1 hn1 hs1 hc1=>?_
 refine LoadT.mk tA (x:=(x1,x2,sa,sn,())) (fun j v hv=>by rw [cellOf hn1]; simpa [Ty.cells] using hv) ?_
 refine Ret.call (Basis_ret21 (x:=(x1,x2,sa,sn,())) (h.nil hc1) hc hk) ?_
 rintro r w2 ⟨h1,h2,_⟩
 refine ⟨_,rfl,?_,hc1.then h2⟩
 have:r.n = (basF a.next).basis.length:=h1.len
 rw [this]
open Classical in
theorem member_run {k:Int} (hk:1 ≤ k ∧ k ≤ 8) {a:Aut} (hc:a.check k = 0) {s:ByteArray} (hs:checkF k s = 0):memberF k a s = (decide (Run (Dl k a) 0 (wordF s) 0),0):=by
 unfold memberF
 rw [exam_ok hk hc hs,if_neg (by simp)]
 congr 1
 obtain ⟨_,_,n1,_⟩:=check_spec hc
 by_cases h:Run (Dl k a) 0 (wordF s) 0
 ·rw [decide_eq_true h]
  have:=leads_dl hk.2 hc h
  simp [this]
 ·rw [decide_eq_false h]
  simp only [beq_eq_false_iff_ne,ne_eq]
  intro h0
  exact h (leads_run hk.2 hc _ 0 0 (word_all hs) n1 h0)
theorem exam_two_bad (k:Int) (a b:Aut):examF k [a,b] [] = if badC k a ≠ 0 then badC k a else badC k b:=by
 by_cases hk:1 ≤ k ∧ k ≤ 8
 ·have h2:∀ x:Aut,badC k x = 0 ∨ badC k x = 210:=fun x=>by
   unfold badC; rw [if_neg (by simpa using hk)]; split
   ·exact .inl rfl
   ·exact .inr rfl
  unfold examF
  rw [if_neg (by simpa using hk)]
  have e1:=check_badC k a
  have e2:=check_badC k b
  rcases h2 a with h | h <;> rcases h2 b with h' | h' <;> simp [e1,e2,h,h']
 ·have h2:∀ x:Aut,badC k x = 1:=fun x=>by unfold badC; rw [if_pos hk]
  unfold examF
  rw [if_pos hk,h2 a]; simp
theorem FoldIntersects_ret {w:World} (hl:Laid w) {k:Int} {x y:Int × Int × Sl × Sl × Unit} {a b:Aut} (ha:AutIn w x a) (hb:AutIn w y b) (s:ByteArray) :
  Ret Tryd.prog 8 #[.int .i64 k,.agg #[.int .i64 x.1,.int .i64 x.2.1,x.2.2.1.v,x.2.2.2.1.v],.agg #[.int .i64 y.1,.int .i64 y.2.1,y.2.2.1.v,y.2.2.2.1.v],.string s] (.sc .bool) w fun z w'=>z = true ∧ Chg Nil w w':=by
 classical
 obtain ⟨x1,x2,sa,sn,_⟩:=x
 obtain ⟨y1,y2,ta,tn,_⟩:=y
 refine cayleylaw21_FoldIntersects.calls k x1 x2 sa sn y1 y2 ta tn s ?_
 unfold cayleylaw21_FoldIntersects.sh
 refine New.mk fun b1 w1 hb1 hh1 hs1 hc1=>?_
 refine New.mk fun b3 w2 hb3 hh3 hs3 hc3=>?_
 have h12:w2.heap[b1]? = some _:=hc3.heap hh1 fun h=>h
 have hc02:=hc1.then hc3
 have ha2:=ha.nil hc02
 have hb2:=hb.nil hc02
 have ea1:sa.n = a.acc.length:=ha.rd.acc.len
 have eb1:ta.n = b.acc.length:=hb.rd.acc.len
 have ea2:sn.n = a.next.length:=by obtain ⟨_,_,_,sls,h4,h5,_⟩:=ha.rd; rw [h4.len,h5]
 have eb2:tn.n = b.next.length:=by obtain ⟨_,_,_,sls,h4,h5,_⟩:=hb.rd; rw [h4.len,h5]
 refine Join.by' (fun z W=>z = (k,s,at0 b1,at0 b3,()) ∧ W = w2 ∧ a.next.length ≤ 20 ∧ b.next.length ≤ 20) ?_ ?_
 rotate_left
 ·intro J hJ
  have out:∃ z:Bool,Ending.returned (.bool true) = .returned ((Ty.sc .bool).val z) ∧ z = true ∧ Chg Nil w w2:=⟨true,rfl,rfl,hc02⟩
  refine LoadT.sc (s:=.sl) (x:=sa) (by rw [cellOf h12]; rfl) ?_
  refine Br.dec (fun _=>Br.t rfl out) (fun h1=>?_)
  refine LoadT.sc (s:=.sl) (x:=ta) (by rw [cellOf hh3]; rfl) ?_
  refine Br.dec (fun _=>Br.t rfl out) (fun h2=>?_)
  refine LoadT.sc (s:=.sl) (x:=sn) (by rw [cellOf h12]; rfl) ?_
  refine Br.dec (fun _=>Br.t rfl out) (fun h3=>?_)
  refine LoadT.sc (s:=.sl) (x:=tn) (by rw [cellOf hh3]; rfl) ?_
  refine Br.dec (fun _=>Br.t rfl out) (fun h4=>?_)
  refine Br.dec (fun _=>out) (fun h5=>?_)
  have h3:¬ ((sn.n:Nat):Int) > 20:=h3
  have h4:¬ ((tn.n:Nat):Int) > 20:=h4
  exact hJ _ _ ⟨rfl,rfl,by omega,by omega⟩
 rintro z W g ⟨rfl,hW,ha20,hb20⟩
 rw [hW]; clear hW
 dsimp only
 have ldA:∀ {W:World},Chg Nil w2 W → ∀ {K:tA.den → Prop},K (x1,x2,sa,sn,()) → LoadT tA W (at0 b1) K:=fun hW K kk=>LoadT.mk tA (fun j v hv=>by rw [show at0 b1 = Addr.mk b1 0 none from rfl,cellOf (hW.heap h12 fun h=>h)]; simpa [Ty.cells] using hv) kk
 have ldB:∀ {W:World},Chg Nil w2 W → ∀ {K:tA.den → Prop},K (y1,y2,ta,tn,()) → LoadT tA W (at0 b3) K:=fun hW K kk=>LoadT.mk tA (fun j v hv=>by rw [show at0 b3 = Addr.mk b3 0 none from rfl,cellOf (hW.heap hh3 fun h=>h)]; simpa [Ty.cells] using hv) kk
 have lay:∀ {W:World},Chg Nil w2 W → Laid W:=fun hW=>hl.nil (hc02.then hW)
 refine ldA (Chg.refl _) (ldB (Chg.refl _) ?_)
 refine RetN.call (Intersect_ret (k:=k) (x:=(x1,x2,sa,sn,())) (y:=(y1,y2,ta,tn,())) (lay (Chg.refl _)) ha2 hb2 ha20 hb20) ?_
 rintro ⟨⟨c1,c2,ca,cn,_⟩,c3,_⟩ w3 ⟨resI,hII,hc2,hC,ec⟩
 have ec:c3 = (autR resI).2:=ec
 subst ec
 refine New.mk fun b18 w4 hb18 hn18 _ hc18=>?_
 refine StoreN.whole (vs:=[.int .i64 c1,.int .i64 c2,ca.v,cn.v]) hn18 rfl fun w5 h18 hc18' _=>?_
 have hN5:Chg Nil w3 w5:=hc18.trans hc18' (fun _ _ h=>h) fun i hi he=>by have he:i = b18:=he; omega
 have d5:=hc2.then hN5
 refine ldA d5 (ldB d5 ?_)
 refine RetN.call (Join_ret (k:=k) (x:=(x1,x2,sa,sn,())) (y:=(y1,y2,ta,tn,())) (lay d5) (ha2.nil d5) (hb2.nil d5)) ?_
 rintro ⟨⟨j1,j2,ja,jn,_⟩,j3,_⟩ w6 ⟨resJ,hJJ,hc6,hD,ej⟩
 have ej:j3 = (autR resJ).2:=ej
 subst ej
 refine New.mk fun b26 w7 hb26 hn26 _ hc26=>?_
 refine StoreN.whole (vs:=[.int .i64 j1,.int .i64 j2,ja.v,jn.v]) hn26 rfl fun w8 h26 hc26' _=>?_
 have hN8:Chg Nil w6 w8:=hc26.trans hc26' (fun _ _ h=>h) fun i hi he=>by have he:i = b26:=he; omega
 have d58:=hc6.then hN8
 have d8:=d5.then d58
 refine ldA d8 ?_
 refine Ret.call (Check_ret21 (k:=k) (x:=(x1,x2,sa,sn,())) (ha2.nil d8)) ?_
 rintro _ w9 ⟨rfl,hc9⟩
 have d9:=d8.then hc9
 have hbadA:(if ¬ (1 ≤ k ∧ k ≤ 8) then (1:Int) else if isM k a = true then 0 else 210) = badC k a:=rfl
 have hbadB:(if ¬ (1 ≤ k ∧ k ≤ 8) then (1:Int) else if isM k b = true then 0 else 210) = badC k b:=rfl
 rw [hbadA]
 have hex:=exam_two_bad k a b
 -- both are checked
 refine Join.by' (fun z W=>z = (k,s,at0 b1,at0 b3,at0 b18,(autR resI).2,at0 b26,(autR resJ).2,examF k [a,b] [],()) ∧ Chg Nil w8 W) ?_ ?_
 rotate_left
 ·intro J hJ
  refine Br.mk (fun h=>?_) (fun h=>?_)
  ·have h:badC k a = 0:=by simpa using h
   refine ldB d9 ?_
   refine Ret.call (Check_ret21 (k:=k) (x:=(y1,y2,ta,tn,())) (hb2.nil d9)) ?_
   rintro _ w10 ⟨rfl,hc10⟩
   have e:examF k [a,b] [] = badC k b:=by rw [hex]; exact if_neg (by simp [h])
   refine hJ _ _ ⟨?_,hc9.then hc10⟩
   rw [e]; rfl
  ·have h:badC k a ≠ 0:=by simpa using h
   have e:examF k [a,b] [] = badC k a:=by rw [hex]; exact if_pos h
   refine hJ _ _ ⟨?_,hc9⟩
   rw [e]
 clear hc9 d9 w9
 rintro z w9 g ⟨rfl,hc9⟩
 dsimp only
 have d9:=d8.then hc9
 refine Br.mk (fun hne=>?_) (fun heq=>?_)
 ·have hne:examF k [a,b] [] ≠ 0:=by simpa using hne
  have eI:resI = .err (examF k [a,b] []):=by
   cases hII with
   | err _=>rfl
   | ok hz _ _=>exact absurd hz hne
  have eJ:resJ = .err (examF k [a,b] []):=by
   cases hJJ with
   | err _=>rfl
   | ok hz _=>exact absurd hz hne
  subst eI eJ
  refine Ret.call (sane_ret (lay d9)) ?_
  rintro _ w10 ⟨rfl,hc10⟩
  have d810:=hc9.then hc10
  have hca:ca.n = 0:=by have:=hC.rd.acc.len; simpa [autR] using this
  have hja:ja.n = 0:=by have:=hD.rd.acc.len; simpa [autR] using this
  refine Br.t rfl (Br.t (beq_self_eq_true _) (Br.t (beq_self_eq_true _) ?_))
  refine LoadT.sc (s:=.sl) (x:=ca) (by rw [show at0 b18 = Addr.mk b18 0 none from rfl,cellOf ((d58.then d810).heap h18 fun h=>h)]; rfl) ?_
  refine Br.t (by rw [hca]; rfl) ?_
  refine LoadT.sc (s:=.sl) (x:=ja) (by rw [show at0 b26 = Addr.mk b26 0 none from rfl,cellOf (d810.heap h26 fun h=>h)]; rfl) ?_
  exact ⟨_,rfl,by rw [hja]; rfl,(hc02.then d8).then d810⟩
 have hz:examF k [a,b] [] = 0:=by simpa using heq
 have hk:=exam_rank hz
 obtain ⟨hca,hcb⟩:=(exam_two hk).1 hz
 obtain ⟨nk,rfl⟩:=Int.eq_ofNat_of_zero_le (show 0 ≤ k by omega)
 have hkn:1 ≤ nk ∧ nk ≤ 8:=by omega
 obtain ⟨q,o,hP,hF,rfl⟩:∃ q o,Prd (nk:Int) a b q ∧ FoldedD nk (prodD (nk:Int) a b q) 0 o ∧ resI = resOf (2 * nk) o:=by
  cases hII with
  | err h=>exact absurd hz h
  | @ok q o _ hP hF=>exact ⟨q,o,hP,hF,rfl⟩
 obtain ⟨oj,hFj,rfl⟩:∃ o,FoldedD nk (joinD (nk:Int) a b) 0 o ∧ resJ = resOf (2 * nk) o:=by
  cases hJJ with
  | err h=>exact absurd hz h
  | @ok o _ hF=>exact ⟨o,hF,rfl⟩
 obtain ⟨KJ,RJ,hKJ,rfl⟩:=join_same hkn hca hcb (by omega) (by omega) hFj
 refine ldA d9 (ldB d9 ?_)
 refine RetN.call (Intersect_ret21 (k:=nk) (x:=(x1,x2,sa,sn,())) (y:=(y1,y2,ta,tn,())) hkn (ha2.nil d9) (hb2.nil d9) hca hcb ha20 hb20) ?_
 rintro ⟨⟨r1,r2,ra,rn,_⟩,r3,_⟩ w10 ⟨q',R,hP',hF',hR,hc10⟩
 have heqo:=inter_same hkn hca hcb hP hP' hF hF'
 subst heqo
 have hauI:(autR (resOf (2 * nk) (some R))).1 = autE nk R:=rfl
 have hauJ:(autR (resOf (2 * nk) (some RJ))).1 = autE nk RJ:=rfl
 have hz1:(autR (resOf (2 * nk) (some R))).2 = 0:=rfl
 have hz2:(autR (resOf (2 * nk) (some RJ))).2 = 0:=rfl
 rw [hauI] at hC
 rw [hauJ] at hD
 rw [hz1,hz2]
 obtain ⟨hcc,hlangC⟩:=foldedD_auto hkn hF
 refine New.mk fun b51 w11 hb51 hn51 _ hc51=>?_
 refine StoreN.whole (vs:=[.int .i64 r1,.int .i64 r2,ra.v,rn.v]) hn51 rfl fun w12 h51 hc51' _=>?_
 have hN12:Chg Nil w10 w12:=hc51.trans hc51' (fun _ _ h=>h) fun i hi he=>by have he:i = b51:=he; omega
 have d12:=(d9.then hc10).then hN12
 have d512:=((d58.then hc9).then hc10).then hN12
 have d812:=(hc9.then hc10).then hN12
 have hC12:AutIn w12 (c1,c2,ca,cn,()) (autE nk R):=hC.nil (hN5.then d512)
 have hD12:AutIn w12 (j1,j2,ja,jn,()) (autE nk RJ):=hD.nil (hN8.then d812)
 have hR12:AutIn w12 (r1,r2,ra,rn,()) (autE nk R):=hR.nil hN12
 have ldC:∀ {W:World},Chg Nil w12 W → ∀ {K:tA.den → Prop},K (c1,c2,ca,cn,()) → LoadT tA W (at0 b18) K:=fun hW K kk=>LoadT.mk tA (fun j v hv=>by rw [show at0 b18 = Addr.mk b18 0 none from rfl,cellOf ((d512.then hW).heap h18 fun h=>h)]; simpa [Ty.cells] using hv) kk
 have lsA:∀ {K:tA.den → Prop},K (x1,x2,sa,sn,()) → LoadS (fun W=>Chg Nil w12 W) tA (at0 b1) K:=fun kk=>LoadS.mk tA (fun W hW j v hv=>by rw [show at0 b1 = Addr.mk b1 0 none from rfl,cellOf ((d12.then hW).heap h12 fun h=>h)]; simpa [Ty.cells] using hv) kk
 have lsB:∀ {K:tA.den → Prop},K (y1,y2,ta,tn,()) → LoadS (fun W=>Chg Nil w12 W) tA (at0 b3) K:=fun kk=>LoadS.mk tA (fun W hW j v hv=>by rw [show at0 b3 = Addr.mk b3 0 none from rfl,cellOf ((d12.then hW).heap hh3 fun h=>h)]; simpa [Ty.cells] using hv) kk
 have lsC:∀ {K:tA.den → Prop},K (c1,c2,ca,cn,()) → LoadS (fun W=>Chg Nil w12 W) tA (at0 b18) K:=fun kk=>LoadS.mk tA (fun W hW j v hv=>by rw [show at0 b18 = Addr.mk b18 0 none from rfl,cellOf ((d512.then hW).heap h18 fun h=>h)]; simpa [Ty.cells] using hv) kk
 have lsD:∀ {K:tA.den → Prop},K (j1,j2,ja,jn,()) → LoadS (fun W=>Chg Nil w12 W) tA (at0 b26) K:=fun kk=>LoadS.mk tA (fun W hW j v hv=>by rw [show at0 b26 = Addr.mk b26 0 none from rfl,cellOf ((d812.then hW).heap h26 fun h=>h)]; simpa [Ty.cells] using hv) kk
 have lsR:∀ {K:tA.den → Prop},K (r1,r2,ra,rn,()) → LoadS (fun W=>Chg Nil w12 W) tA (Addr.mk b51 0 none) K:=fun kk=>LoadS.mk tA (fun W hW j v hv=>by rw [cellOf (hW.heap h51 fun h=>h)]; simpa [Ty.cells] using hv) kk
 refine Join.by' (fun z W=>z = ((nk:Int),s,at0 b1,at0 b3,at0 b18,()) ∧ Chg Nil w12 W) ?_ ?_
 rotate_left
 ·intro J hJ
  refine ⟨fun W=>Chg Nil w12 W,Chg.drew w12,?_⟩
  refine Ret.call (sane_ret (lay (d12.then (Chg.drew w12)))) ?_
  rintro _ w13 ⟨rfl,hc13⟩
  have e13:=(Chg.drew w12).then hc13
  refine ⟨e13,?_⟩
  refine Br.f rfl (Br.f rfl (Br.f rfl ?_))
  refine lsC (lsR ?_)
  refine Ret.call (Same_ret (hC12.nil e13) (hR12.nil e13)) ?_
  rintro _ w14 ⟨rfl,hc14⟩
  have e14:=e13.then hc14
  refine ⟨e14,Br.f (by simp [sameF]) ?_⟩
  refine lsD (lsA (lsB ?_))
  refine Ret.call (Join_ret21 (k:=nk) (x:=(x1,x2,sa,sn,())) (y:=(y1,y2,ta,tn,())) hkn (ha2.nil (d12.then e14)) (hb2.nil (d12.then e14)) hca hcb hKJ) ?_
  rintro ⟨v1,v2,va,vn,_⟩ w15 ⟨hV,hc15⟩
  have e15:=e14.then hc15
  refine ⟨e15,?_⟩
  refine Ret.call (Same_ret (hD12.nil e15) hV) ?_
  rintro _ w16 ⟨rfl,hc16⟩
  exact ⟨e15.then hc16,Br.f (by simp [sameF]) (hJ _ _ ⟨rfl,e15.then hc16⟩)⟩
 rintro z w13 g ⟨rfl,e13⟩
 dsimp only
 have hkz:(1:Int) ≤ (nk:Int) ∧ (nk:Int) ≤ 8:=hk
 have hrank:∀ {x:Aut},x.check (nk:Int) = 0 → x.next.length ≤ 2000 → ((basF x.next).basis.length:Int) ≤ 16001:=fun {x} hcx hx=>by
  have h1:=rank_edges hkn hcx
  have h2:=graphL_len nk x.next 0
  have h3:nk * x.next.length ≤ 8 * 2000:=Nat.mul_le_mul hkn.2 hx
  omega
 have hra:=hrank hca (by omega)
 have hrb:=hrank hcb (by omega)
 have hrc:=hrank hcc (by obtain ⟨_,_,_,h,_⟩:=check_spec hcc; exact h)
 have hra0:0 ≤ redR a ∧ redR a ≤ 16001:=by unfold redR; split <;> omega
 have hrb0:0 ≤ redR b ∧ redR b ≤ 16001:=by unfold redR; split <;> omega
 have hmul:redR a * redR b ≤ 16001 * 16001:=Int.mul_le_mul hra0.2 hrb0.2 hrb0.1 (by decide)
 have hmul0:0 ≤ redR a * redR b:=Int.mul_nonneg hra0.1 hrb0.1
 refine ⟨fun W=>Chg Nil w12 W,e13.then (Chg.drew w13),?_⟩
 have f0:=e13.then (Chg.drew (S:=Nil) w13)
 refine lsA (lsB (lsC ?_))
 refine Ret.call (Rank_ret (k:=(nk:Int)) (x:=(x1,x2,sa,sn,())) (ha2.nil (d12.then f0)) hca hkz) ?_
 rintro _ w14 ⟨rfl,hc14⟩
 have f1:=f0.then hc14
 refine ⟨f1,redR a,fun W _=>?_,?_⟩
 ·rw [run_max_int2,wrap64 (by omega) (by omega)]; rfl
 refine Ret.call (Rank_ret (k:=(nk:Int)) (x:=(y1,y2,ta,tn,())) (hb2.nil (d12.then f1)) hcb hkz) ?_
 rintro _ w15 ⟨rfl,hc15⟩
 have f2:=f1.then hc15
 refine ⟨f2,redR b,fun W _=>?_,?_⟩
 ·rw [run_max_int2,wrap64 (by omega) (by omega)]; rfl
 refine Ret.call (Rank_ret (k:=(nk:Int)) (x:=(c1,c2,ca,cn,())) (hC12.nil f2) hcc hkz) ?_
 rintro _ w16 ⟨rfl,hc16⟩
 have f3:=f2.then hc16
 refine ⟨f3,redR (autE nk R),fun W _=>?_,?_⟩
 ·rw [run_max_int2,wrap64 (by omega) (by omega)]; rfl
 rw [wrap64 (by omega) (by omega)]
 have hHN:=meet_rank hkn hca hcb hP hF
 refine Br.no (Int.not_lt.2 hHN) ?_
 refine Ret.call (IsWord_ret w16 (nk:Int) s) ?_
 rintro _ W17 ⟨rfl,hw17⟩
 rw [hw17]; clear hw17
 refine Br.mk (fun _=>⟨true,rfl,rfl,(hc02.then d12).then f3⟩) (fun hw=>?_)
 have hs:checkF (nk:Int) s = 0:=by simpa using hw
 refine ldA (d12.then f3) ?_
 refine RetN.call (Member_ret (k:=(nk:Int)) (x:=(x1,x2,sa,sn,())) (lay (d12.then f3)) (ha2.nil (d12.then f3)) s) ?_
 rintro _ w17 ⟨rfl,hc17⟩
 have f4:=f3.then hc17
 refine ldB (d12.then f4) ?_
 refine RetN.call (Member_ret (k:=(nk:Int)) (x:=(y1,y2,ta,tn,())) (lay (d12.then f4)) (hb2.nil (d12.then f4)) s) ?_
 rintro _ w18 ⟨rfl,hc18⟩
 have f5:=f4.then hc18
 refine ldC f5 ?_
 refine RetN.call (Member_ret (k:=(nk:Int)) (x:=(c1,c2,ca,cn,())) (lay (d12.then f5)) (hC12.nil f5) s) ?_
 rintro _ w19 ⟨rfl,hc19⟩
 rw [member_run hkz hca hs,member_run hkz hcb hs,member_run hkz hcc hs]
 have hmem:Run (Dl (nk:Int) (autE nk R)) 0 (wordF s) 0 ↔ Run (Dl (nk:Int) a) 0 (wordF s) 0 ∧ Run (Dl (nk:Int) b) 0 (wordF s) 0:=by
  rw [hlangC _ (word_rd hs),prod_lang hkz.2 hca hcb hP (word_rd hs)]
 have hfin:Chg Nil w w19:=(hc02.then d12).then (f5.then hc19)
 refine Br.t rfl (Br.t rfl (Br.t rfl ?_))
 refine Br.mk (fun h1=>⟨_,rfl,?_,hfin⟩) (fun h1=>⟨_,rfl,?_,hfin⟩)
 ·have h1:=of_decide_eq_true h1
  dsimp only
  by_cases h2:Run (Dl (nk:Int) b) 0 (wordF s) 0
  ·rw [decide_eq_true (hmem.2 ⟨h1,h2⟩),decide_eq_true h2]; rfl
  ·rw [decide_eq_false (fun h=>h2 (hmem.1 h).2),decide_eq_false h2]; rfl
 ·have h1:=of_decide_eq_false h1
  dsimp only
  rw [decide_eq_false (fun h=>h1 (hmem.1 h).1)]; rfl
end Go.Proofs.YtffdjfkekdoeaaaDoor.Fo
end
