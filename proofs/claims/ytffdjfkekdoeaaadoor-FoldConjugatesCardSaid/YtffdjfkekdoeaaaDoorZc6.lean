/- Parts of a proof, laid one behind the other by our own merge.py: RfConj RfCore LwConjA LwConjB PlZed LwConjD ShT LwConjr LwChecks LwIntersects LwConjF ShL9 LwConjugates. -/
import Derived.Test.YtffdjfkekdoeaaaDoorZc5
import Derived.Test.YtffdjfkekdoeaaaDoorZc1
import Derived.Test.YtffdjfkekdoeaaaDoorProg
import Derived.KernelRfl
import Derived.Test.YtffdjfkekdoeaaaDoorZc3
set_option linter.unusedVariables false
set_option linter.unusedSimpArgs false
set_option maxRecDepth 10000
set_option maxHeartbeats 8000000
section
namespace Go.Proofs.YtffdjfkekdoeaaaDoor.Fo
open Fw Wd Rf Pl
structure Cg (w W:World)(b1 b3 b9:Nat)(av zv:Array Value)(g1 g2:Int)(so:Sl)(out:List Ed):Prop where
 chg:Chg Nil w W
 c1:W.heap[b1]? = some (.cells av 27 (0,0))
 c3:W.heap[b3]? = some (.cells zv 27 (0,0))
 c9:W.heap[b9]? = some (.cells #[.int .i64 g1,.int .i64 g2,so.v] 54 (0,0))
 own:OwnT W 100 tE so (out.map ofE)
 lo:∀ q,so.own q→w.heap.size≤q
theorem Cg.nil {w W W':World}{b1 b3 b9:Nat}{av zv:Array Value}{g1 g2:Int}{so:Sl}{out:List Ed}(h:Fo.Cg w W b1 b3 b9 av zv g1 g2 so out)(hc:Chg Nil W W'):Fo.Cg w W' b1 b3 b9 av zv g1 g2 so out:=
 ⟨h.chg.then hc,hc.heap h.c1 fun h=>h,hc.heap h.c3 fun h=>h,hc.heap h.c9 fun h=>h,h.own.chg hc fun _ _ h=>h,h.lo⟩
theorem Cg.add {w W:World}{b1 b3 b9:Nat}{av zv:Array Value}{g1 g2:Int}{so:Sl}{out:List Ed}(h:Fo.Cg w W b1 b3 b9 av zv g1 g2 so out)(h9:w.heap.size≤b9)(hl:out.length≤1000000)(e:Ed){K:World→Prop}
  (k:∀ so' W',Fo.Cg w W' b1 b3 b9 av zv g1 g2 so' (out ++ [e])→Chg (fun q=>so.own q∨q=b9) W W'→(∀ q,so'.own q→so.own q∨W.heap.size≤q)→K W') :
  New W (.cells #[.int .i64 (e.1:Int),.int .i64 (e.2.1:Int),.int .i64 (e.2.2:Int)] 100) fun b w1=>
   RunT Tryd.prog (.sc .sl) (Builtin.append_ #[52,52] 52 #[.slice so.a so.n so.c,.slice (some (Addr.mk b 0 none)) 1 1]) w1 fun r w2=>
   Store1 w2 ((at0 b9).add 2) (.slice r.a r.n r.c) fun w3=>K w3:=by
 refine New.mk fun b V1 hb hn hz hc=>?_
 have h1:=h.nil hc;refine OwnT.append (t:=tE) (m:=1) ok52 rfl (by decide) h1.own [ofE e] rfl (by decide) (fun j v hv=>by rw[cellOf hn];simpa[Ty.cells,ofE] using hv) (by rw[List.length_map];omega) (by rw[List.length_map];simp only[maxLen];omega) fun so' V2 ho2 hc2 hown=>?_
 have ne:∀ {q:Nat} {cs:Array Value} {t:TypeId} {f:Nat × Nat},V1.heap[q]? = some (.cells cs t f)→t≠100→¬ so.own q:=fun hq ht ho=>by
  obtain⟨cur,hcur⟩:=h1.own.elem ho;exact ne_of_elem hcur hq (Ne.symm ht) rfl
 have c9:=hc2.heap h1.c9 (ne h1.c9 (by decide))
 refine Store1.at c9 2 (by show 2<3;decide) rfl fun V3 h3 hc3 _=>?_
 have own3:OwnT V3 100 tE so' (out.map ofE ++ [ofE e]):=ho2.chg hc3 fun ad had he=>by
  obtain⟨cur,hcur⟩:=ho2.elem ⟨ad,had,rfl⟩;exact ne_of_elem hcur c9 (by decide) he
 have sW:=h.chg.size;have s1:=hc.size;have n1:=hc2.heap h1.c1 (ne h1.c1 (by decide))
 have n3:=hc2.heap h1.c3 (ne h1.c3 (by decide))
 refine k so' V3 ⟨?_,hc3.heap n1 fun he=>ne_of_elem n1 c9 (by decide) he,hc3.heap n3 fun he=>ne_of_elem n3 c9 (by decide) he,h3,by rw[List.map_append];exact own3,fun q hq=>?_⟩ ?_ fun q hq=>?_
 ·exact(h1.chg.trans hc2 (fun _ _ h=>h) fun i hi ho=>by have:=h.lo i ho;omega).trans hc3 (fun _ _ h=>h) fun i hi he=>by have he:i=b9:=he;omega
 ·rcases hown q hq with h2|h2
  ·exact h.lo q h2
  ·omega
 ·exact(hc.nil.then (hc2.mono fun _ _ h=>.inl h)).then (hc3.mono fun _ _ h=>.inr h)
 ·rcases hown q hq with h2|h2
  ·exact .inl h2
  ·exact .inr (by omega)
theorem Conjugate_ret21 {w:World}{k:Nat}(hk:1≤k∧k≤8){x:Int × Int × Sl × Sl × Unit}{a:Aut}(ha:AutIn w x a)(hca:a.check (k:Int)=0){s:ByteArray}(hs:checkF (k:Int) s=0)(hl:(wordF s).length≤50000){K:Nat}{res:List Row}(hf:wordF s≠[]→stallF k K (conjE k a (wordF s))=some res) :
  Ret Tryd.prog 41 #[.int .i64 (k:Int),.agg #[.int .i64 x.1,.int .i64 x.2.1,x.2.2.1.v,x.2.2.2.1.v],.string s] tA w fun z w'=>AutIn w' z (if wordF s=[] then a else autE k res)∧Chg Nil w w':=by
 obtain⟨x1,x2,sa,sn,_⟩:=x;obtain⟨hsa,_,na1,na2,na3,_,hrowsA⟩:=check_spec hca;obtain⟨hidx,hrs⟩:=idxs_word hs;have hlen:(wordF s).length=(ReduceF s).size:=by have:=congrArg List.length hidx;simpa using this.symm
 have hlt:=graphL_lt (k:=k) (next:=a.next) (fun r hr t ht=>((hrowsA r hr).2 t ht).2) na1
 have hgl:=graphL_len k a.next 0;have hmA:k*a.next.length≤8*2000:=Nat.mul_le_mul hk.2 na2;have esa:sa.n=a.acc.length:=ha.rd.acc.len;have hwk:∀ x∈wordF s,x<2*k:=fun x hx=>by have:=word_all hs x hx;omega
 refine cayleyref21_Conjugate.calls (k:Int) x1 x2 sa sn s ?_;unfold cayleyref21_Conjugate.sh;refine New.mk fun b1 w1 hb1 hh1 hs1 hc1=>?_
 refine New.mk fun b3 w2 hb3 hh3 hs3 hc3=>?_
 have h1:w2.heap[b1]? = some _:=hc3.heap hh1 fun h=>h
 have hc02:=hc1.then hc3
 have z1:=hc1.size;refine Ret.call (Rf.Reduce_ret w2 s) ?_
 rintro _ w6 ⟨rfl,hc6⟩
 refine LoadT.sc (s:=.sl) (x:=sa) (by rw[cellOf (hc6.heap h1 fun h=>h)];rfl) ?_
 refine New.mk fun b9 w7 hb9 hn9 hz9 hc9=>?_
 rw[esa,← hlen,wrap64 (x:=1+((a.acc.length:Nat):Int)) (by omega) (by omega),wrap64 (by omega) (by omega)]
 generalize hG2:(1+((a.acc.length:Nat):Int)+(((wordF s).length:Nat):Int))=gsz;refine StoreN.whole (vs:=[.int .i64 (k:Int),.int .i64 gsz,.slice none 0 0]) hn9 rfl fun w11 h9 hc11 hsz11=>?_
 have hN11:Chg Nil w2 w11:=(hc6.then hc9).trans hc11 (fun _ _ h=>h) fun i hi he=>by have he:i=b9:=he;have:=hc6.size;omega
 have hc011:=hc02.then hN11
 refine LoadT.mk tA (x:=(x1,x2,sa,sn,())) (fun j v hv=>by rw[cellOf (hN11.heap h1 fun h=>h)];simpa[Ty.cells] using hv) ?_
 refine Ret.call (GraphOf_ret (k:=k) (x:=(x1,x2,sa,sn,())) hk.2 (ha.nil hc011) (by omega) (fun r hr=>by have:=(hrowsA r hr).1;omega)) ?_
 rintro⟨g1,g2,sg,_⟩ w14 ⟨e1,e2,ho14,hc14,hown14⟩
 have e1:g1=(k:Int):=e1;have e2:g2=((a.acc.length:Nat):Int):=e2;subst e1 e2;have ho14:OwnT w14 100 tE sg ((graphL k 0 a.next).map ofE):=ho14;have hlt14:=ho14.lt;refine New.mk fun b16 w17 hb16 hn16 hz16 hc16=>?_
 refine StoreN.whole (vs:=[.int .i64 (k:Int),.int .i64 ((a.acc.length:Nat):Int),sg.v]) hn16 rfl fun w18 h16 hc18 hz18=>?_
 have hN18:Chg Nil w14 w18:=hc16.trans hc18 (fun _ _ h=>h) fun i hi he=>by have he:i=b16:=he;omega
 have hN1118:=hc14.then hN18
 have hc018:=hc011.then hN1118
 have zw0:=hc02.size;have z11:=hN11.size;have z14:=hc14.size;have z18:=hN18.size;have l9:b9<w14.heap.size:=by have:=lt_of_heap h9;omega
 have g9:w.heap.size≤b9:=by have:=hc6.size;omega
 have hsg:RdT w18 tE sg ((graphL k 0 a.next).map ofE):=ho14.rd.chg hN18 fun _ _ h=>h
 have hsgB:∀ ad,sg.a=some ad→ad.block<w18.heap.size∧ad.block≠b9:=fun ad had=>⟨by have:=hlt14 ad had;omega,fun he=>by
  obtain⟨cur,hcur⟩:=ho14.elem ⟨ad,had,rfl⟩;exact ne_of_elem hcur (hc14.heap h9 fun h=>h) (by decide) he⟩
 have hgn:sg.n=(graphL k 0 a.next).length:=by rw[hsg.len,List.length_map]
 have l16:=lt_of_heap h16;have n169:b16≠b9:=by omega
 have hC0:Fo.Cg w w18 b1 b3 b9 #[.int .i64 x1,.int .i64 x2,sa.v,sn.v] #[.int .i64 0,.int .i64 0,.slice none 0 0,.slice none 0 0] (k:Int) gsz ⟨none,0,0⟩ []:=
  ⟨hc018,hN1118.heap (hN11.heap h1 fun h=>h) fun h=>h,hN1118.heap (hN11.heap hh3 fun h=>h) fun h=>h,hN1118.heap h9 fun h=>h,OwnT.nil _ _ _,fun q ⟨_,h,_⟩=>by cases h⟩
 have e1':at0 b1=Addr.mk b1 0 none:=rfl;have e3':at0 b3=Addr.mk b3 0 none:=rfl;have e16':at0 b16=Addr.mk b16 0 none:=rfl;have e9':at0 b9=Addr.mk b9 0 none:=rfl;refine LoopT.mk (fun y W=>∃ (i:Nat) (so:Sl),i≤(graphL k 0 a.next).length∧y=(at0 b1,at0 b3,ReduceF s,at0 b9,at0 b16,(i:Int),())∧Fo.Cg w W b1 b3 b9 #[.int .i64 x1,.int .i64 x2,sa.v,sn.v] #[.int .i64 0,.int .i64 0,.slice none 0 0,.slice none 0 0] (k:Int) gsz so (((graphL k 0 a.next).take i).map shC) ∧
   W.heap[b16]? = some (.cells #[.int .i64 (k:Int),.int .i64 ((a.acc.length:Nat):Int),sg.v] 54 (0,0))∧RdT W tE sg ((graphL k 0 a.next).map ofE)∧(∀ q,so.own q→w18.heap.size≤q)∧w18.heap.size≤W.heap.size) (fun y _=>(graphL k 0 a.next).length-y.2.2.2.2.2.1.toNat)
  ⟨0,⟨none,0,0⟩,Nat.zero_le _,rfl,hC0,h16,hsg,(fun q ⟨_,h,_⟩=>by cases h),Nat.le_refl _⟩ ?_
 clear hC0 h16 hsg
 rintro y g W ⟨i,so,hi,rfl,hC,h16,hsg,hso,hW18⟩
 dsimp only;refine LoadT.sc (s:=.sl) (x:=sg) (by rw[e16',cellOf h16];rfl) ?_
 refine Br.dec (fun hlt'=>?_) (fun hge=>?_)
 ·have hlt':(i:Int)<((sg.n:Nat):Int):=hlt';have hil:i<(graphL k 0 a.next).length:=by omega
  obtain⟨⟨f,y,t⟩,he⟩:∃ e,(graphL k 0 a.next)[i]? = some e:=⟨_,List.getElem?_eq_getElem hil⟩;obtain⟨hf1,ht1⟩:=hlt _ (List.mem_of_getElem? he);dsimp only at hf1 ht1;have hei:((graphL k 0 a.next).map ofE)[i]? = some ((f:Int),(y:Int),(t:Int),()):=by rw[List.getElem?_map,he];rfl
  have htk:((graphL k 0 a.next).take (i+1)).map shC=((graphL k 0 a.next).take i).map shC ++ [(f+1,y,t+1)]:=by rw[List.take_add_one,he,List.map_append];rfl
  refine LoadT.sc (s:=.sl) (x:=sg) (by rw[e16',cellOf h16];rfl) ?_
  refine hsg.get (t:=tE) i rfl hei ?_;refine New.mk fun b27 W1 hb27 hn27 hz27 hc27=>?_
  refine StoreN.whole (vs:=[.int .i64 (f:Int),.int .i64 (y:Int),.int .i64 (t:Int)]) hn27 rfl fun W2 h27 hc27' hz27'=>?_
  refine LoadT.sc (s:=.int .i64) (x:=(f:Int)) (by rw[cellOf h27];rfl) ?_
  rw[wrap64 (by omega) (by omega)]
  refine Store1.at h27 0 (by show 0<3;decide) rfl fun W3 h27b hcW3 hzW3=>?_
  refine LoadT.sc (s:=.int .i64) (x:=(t:Int)) (by rw[cellOf h27b];rfl) ?_
  rw[wrap64 (by omega) (by omega)]
  refine Store1.at h27b 2 (by show 2<3;decide) rfl fun W4 h27c hcW4 hzW4=>?_
  have q27:∀ {V V':World},Chg Nil W V→Chg (· = b27) V V'→Chg Nil W V':=fun hV hc=>hV.trans hc (fun _ _ h=>h) fun j hj he=>by have he:j=b27:=he;omega
  have hN4:Chg Nil W W4:=q27 (q27 (q27 hc27 hc27') hcW3) hcW4;have hC4:=hC.nil hN4;refine LoadT.sc (s:=.sl) (x:=so) (by rw[e9',cellOf hC4.c9];rfl) ?_
  refine LoadT.mk tE (x:=(((f+1:Nat):Int),(y:Int),((t+1:Nat):Int),())) (fun j v hv=>by rw[cellOf h27c];simpa[Ty.cells] using hv) ?_
  refine hC4.add g9 (by rw[List.length_map,List.length_take];omega) (f+1,y,t+1) fun so' W5 hC5 hc5 hown5=>?_
  have z4:=hN4.size;refine⟨⟨i+1,so',hil,by rw[wrap64 (by omega) (by omega)];rfl,by rw[htk];exact hC5,hc5.heap (hN4.heap h16 fun h=>h) fun h=>?_,(hsg.chg hN4 fun _ _ h=>h).chg hc5 fun ad had h=>?_,fun q hq=>?_,by have:=hc5.size;omega⟩,?_⟩
  ·rcases h with h|h
   ·have:=hso _ h;omega
   ·exact n169 h
  ·obtain⟨g1,g2⟩:=hsgB ad had;rcases h with h|h
   ·have:=hso _ h;omega
   ·exact g2 h
  ·rcases hown5 q hq with h|h
   ·exact hso q h
   ·omega
  ·show(graphL k 0 a.next).length-(IntKind.wrap .i64 ((i:Int)+1)).toNat<(graphL k 0 a.next).length-((i:Int)).toNat
   rw[wrap64 (by omega) (by omega)];omega
 have hge:¬ (i:Int)<((sg.n:Nat):Int):=hge;have hie:i=(graphL k 0 a.next).length:=by omega
 rw[hie,List.take_length]at hC;clear hge hi hie hsg hsgB hso;refine Br.mk (fun h0=>?_) (fun h0=>?_)
 ·have h0:(wordF s).length=0:=by
   have:(((ReduceF s).size:Nat):Int)=0:=by simpa using h0
   omega
  have hnil:wordF s=[]:=List.length_eq_zero_iff.1 h0;rw[if_pos hnil];refine LoadT.mk tA (x:=(x1,x2,sa,sn,())) (fun j v hv=>by rw[e1',cellOf hC.c1];simpa[Ty.cells] using hv) ?_
  refine StoreN.whole (vs:=[.int .i64 x1,.int .i64 x2,sa.v,sn.v]) hC.c3 rfl fun W2 h32 hc32 _=>?_
  refine LoadT.mk tA (x:=(x1,x2,sa,sn,())) (fun j v hv=>by rw[e3',cellOf h32];simpa[Ty.cells] using hv) ?_
  have hN:Chg Nil w W2:=hC.chg.trans hc32 (fun _ _ h=>h) fun j hj he=>by have he:j=b3:=he;omega
  exact⟨(x1,x2,sa,sn,()),rfl,ha.nil hN,hN⟩
 have hne:wordF s≠[]:=fun h=>by
  rw[← hlen,h]at h0;simp at h0
 have hst:=hf hne;rw[if_neg hne]
 -- the path
 refine LoopT.mk (fun y V=>∃ (i u:Nat) (so:Sl) (out:List Ed),i≤(wordF s).length∧u≤100000∧out.length≤20000+i∧y=(at0 b1,at0 b3,ReduceF s,at0 b9,(u:Int),(i:Int),())∧Fo.Cg w V b1 b3 b9 #[.int .i64 x1,.int .i64 x2,sa.v,sn.v] #[.int .i64 0,.int .i64 0,.slice none 0 0,.slice none 0 0] (k:Int) gsz so out ∧
   out ++ pathC (1+a.acc.length) (wordF s).length i u ((wordF s).drop i)=conjE k a (wordF s)) (fun y _=>(wordF s).length-y.2.2.2.2.2.1.toNat)
  ⟨0,0,so,_,Nat.zero_le _,by omega,by rw[List.length_map];omega,rfl,hC,rfl⟩ ?_
 clear hC h16
 rintro y g V ⟨i,u,so,out,hi,hu,hol,rfl,hC,hpa⟩
 dsimp only;have wi:IntKind.wrap .i64 ((i:Int)+1)=((i+1:Nat):Int):=by rw[wrap64 (by omega) (by omega)];rfl
 refine Br.dec (fun hlt2=>?_) (fun hge=>?_)
 ·have hlt2:(i:Int)<(((ReduceF s).size:Nat):Int):=hlt2;have hil:i<(wordF s).length:=by omega
  have hdrop:(wordF s).drop i=(wordF s)[i] :: (wordF s).drop (i+1):=List.drop_eq_getElem_cons hil;have hxl:=hwk _ (List.getElem_mem hil);have hidxi:idxF (ofB ((ReduceF s)[i]'(by omega)))=(((wordF s)[i]:Nat):Int):=by
   have h1:=congrArg (·[i]?) hidx;simp only[List.getElem?_map,bytes_get (ReduceF s) i (by omega),List.getElem?_eq_getElem hil,Option.map_some,Option.some.injEq]at h1
   exact h1
  generalize (wordF s)[i]=y at hdrop hidxi hxl;rw[hdrop,pathC]at hpa;refine Join.by' (fun z U=>z=(at0 b1,at0 b3,ReduceF s,at0 b9,(u:Int),(i:Int),((toC (1+a.acc.length) (wordF s).length i:Nat):Int),())∧U=V) ?_ ?_
  rotate_left
  ·intro J hJ;rw[← hlen,wrap64 (by omega) (by omega)]
   refine Br.dec (fun h2=>?_) (fun h2=>?_)
   ·have h2:(i:Int)<(((wordF s).length:Nat):Int)-1:=h2;refine LoadT.sc (s:=.sl) (x:=sa) (by rw[e1',cellOf hC.c1];rfl) ?_
    refine hJ _ _ ⟨?_,rfl⟩;rw[esa,wrap64 (x:=1+((a.acc.length:Nat):Int)) (by omega) (by omega),wrap64 (by omega) (by omega)]
    have:((toC (1+a.acc.length) (wordF s).length i:Nat):Int)=1+(a.acc.length:Int)+(i:Int):=by unfold toC;rw[if_pos (by omega)];omega
    rw[this]
   ·have h2:¬ (i:Int)<(((wordF s).length:Nat):Int)-1:=h2;refine hJ _ _ ⟨?_,rfl⟩;have:((toC (1+a.acc.length) (wordF s).length i:Nat):Int)=1:=by unfold toC;rw[if_neg (by omega)];rfl
    rw[this]
  rintro z U g2 ⟨rfl,hU⟩
  rw[hU];clear hU;dsimp only;have htc:toC (1+a.acc.length) (wordF s).length i≤100000:=by unfold toC;split <;> omega
  refine StrIdx.mk i rfl (by omega) ?_
  have hbb:=UInt8.toNat_lt ((ReduceF s)[i]'(by omega))
  refine Ret.call (Rf.Index_ret _ _ (by unfold ofB;omega) (by unfold ofB;omega)) ?_
  rintro _ V2 ⟨rfl,hV2⟩
  rw[hV2];clear hV2;rw[hidxi,wi];have hmod:Int.tmod (y:Int) 2=((y % 2:Nat):Int):=rfl;refine⟨by decide,?_⟩
  rw[hmod];have mu:(wordF s).length-(((i+1:Nat):Int)).toNat<(wordF s).length-((i:Int)).toNat:=by omega
  refine Br.mk (fun he=>?_) (fun he=>?_)
  ·have he:y % 2=0:=by have:((y % 2:Nat):Int)=0:=by simpa using he
                       omega
   refine LoadT.sc (s:=.sl) (x:=so) (by rw[e9',cellOf hC.c9];rfl) ?_
   refine hC.add g9 (by omega) (u,y,toC (1+a.acc.length) (wordF s).length i) fun so' W5 hC5 hc5 hown5=>?_
   refine⟨⟨i+1,_,so',_,hil,htc,by rw[List.length_append];simp;omega,rfl,hC5,?_⟩,mu⟩
   rw[← hpa,List.append_assoc]
   congr 1
   rw[edgeR,if_pos he];rfl
  ·have he:¬ y % 2=0:=fun h=>by rw[h]at he;simp at he
   have hw:IntKind.wrap .i64 ((y:Int)-1)=((y-1:Nat):Int):=by rw[wrap64 (by omega) (by omega)];omega
   rw[hw];refine LoadT.sc (s:=.sl) (x:=so) (by rw[e9',cellOf hC.c9];rfl) ?_
   refine hC.add g9 (by omega) (toC (1+a.acc.length) (wordF s).length i,y-1,u) fun so' W5 hC5 hc5 hown5=>?_
   refine⟨⟨i+1,_,so',_,hil,htc,by rw[List.length_append];simp;omega,rfl,hC5,?_⟩,mu⟩
   rw[← hpa,List.append_assoc]
   congr 1
   rw[edgeR,if_neg he];rfl
 have hge:¬ (i:Int)<(((ReduceF s).size:Nat):Int):=hge;have hie:i=(wordF s).length:=by omega
 rw[hie,List.drop_eq_nil_of_le (Nat.le_refl _)]at hpa;simp only[pathC,List.append_nil]at hpa;subst hpa;have pvb:∀ j,j≤(wordF s).length→pv (1+a.acc.length) 0 1 (wordF s).length j<100000:=fun j hj=>by
  unfold pv;split
  ·omega
  ·split <;> omega
 refine LoadT.mk tG (x:=((k:Int),gsz,so,())) (fun j v hv=>by rw[e9',cellOf hC.c9];simpa[Ty.cells] using hv) ?_
 refine Ret.call (Stallings_ret (k:=k) (B:=100000) hk.2 hC.own (by omega) (by decide) (by decide) (fun e he=>?_) hst) ?_
 ·rcases List.mem_append.1 he with he|he
  ·obtain⟨e0,h0,rfl⟩:=List.mem_map.1 he;have:=hlt e0 h0;unfold shC;dsimp only;omega
  ·have hm:=(pathC_mem (n:=1+a.acc.length) (len:=(wordF s).length) (e:=e) (wordF s) 0).1 he;obtain⟨j,x,h1,rfl⟩:=hm;have hj:=(List.getElem?_eq_some_iff.1 h1).1;have b1:=pvb (0+j) (by omega)
   have b2:=pvb (0+j+1) (by omega)
   rcases edgeR_vt (pv (1+a.acc.length) 0 1 (wordF s).length (0+j)) x (pv (1+a.acc.length) 0 1 (wordF s).length (0+j+1)) with ⟨g1,g2⟩|⟨g1,g2⟩ <;> rw[g1,g2] <;> omega
 rintro⟨r1,r2,ua,un,_⟩ w11' ⟨e1,e2,hA,hc11',hlenR⟩
 have e1:r1=((2*k:Nat):Int):=e1;have e2:r2=0:=e2;subst e1 e2;refine StoreN.whole (vs:=[.int .i64 ((2*k:Nat):Int),.int .i64 0,ua.v,un.v]) (hc11'.heap hC.c3 fun h=>h) rfl fun w12 h12 hc12 _=>?_
 refine LoadT.mk tA (x:=(((2*k:Nat):Int),0,ua,un,())) (fun j v hv=>by rw[e3',cellOf h12];simpa[Ty.cells] using hv) ?_
 have l3:=lt_of_heap hC.c3;refine⟨_,rfl,?_,(hC.chg.then hc11').trans hc12 (fun _ _ h=>h) fun i hi he=>by have he:i=b3:=he;omega⟩
 have hAu:AutR 0 w12 ua un (accF res.length) (res.map (·.map ofO)):=(hA.chg hc12 fun q hq he=>by have he:q=b3:=he;omega).mono (Nat.zero_le _)
 have hrl:∀ r∈res,r.length≤16:=fun r hr=>by
  have:=stall_rows hst r hr;omega
 exact⟨rfl,rfl,hAu,by show(accF res.length).length≤maxLen;rw[accF,List.length_map,List.length_range];simp only[maxLen];omega,by show(res.map (·.map ofO)).length≤maxLen;rw[List.length_map];simp only[maxLen];omega,fun r hr=>by
  obtain⟨r',hr',rfl⟩:=List.mem_map.1 hr;rw[List.length_map];have:=hrl r' hr';simp only[maxLen];omega⟩
theorem ne54 {W:World}{b:Nat}{x y:Value}{q:Option Addr}{m c:Nat}{e:TypeId}{fr:Nat × Nat}(h:W.heap[b]? = some (.cells #[x,y,.slice q m c] e fr)){a:Addr}{kd:IntKind}{n:Int}(hc:W.cell? (a.add 2)=some (.int kd n)):a.block≠b:=fun he=>by
 have hb:(a.add 2).block=b:=by rw[add_block];exact he
 have ho:(a.add 2).off=a.off+2:=rfl;have hs:(a.add 2).spot=none:=rfl;unfold World.cell? at hc;rw[hb,h]at hc;dsimp only at hc;rw[hs,ho]at hc;cases hoff:a.off with
 | zero=>rw[hoff]at hc;simp at hc
 | succ j=>rw[hoff]at hc;simp at hc
theorem RdT.past54 {W W':World}{s:Sl}{es:List Ed}(h:RdT W tE s (es.map ofE)){b:Nat}{x y:Value}{q:Option Addr}{m c:Nat}{e:TypeId}{fr:Nat × Nat}(hb:W.heap[b]? = some (.cells #[x,y,.slice q m c] e fr))(hc:Chg (· = b) W W'):RdT W' tE s (es.map ofE):=
 ⟨h.len,fun i z hz=>by
  obtain⟨a,ha,hv⟩:=h.at' i z hz;refine⟨a,ha,fun j v hj=>hc.cell (hv j v hj) ?_⟩
  have h2:=hv 2 (.int .i64 z.2.2.1) rfl;have:=ne54 hb h2;rw[add_block];exact this⟩
def coreV (n:Nat)(es:List Ed):List Nat:=(List.range n).filter fun v=>decide (0<degE es v)
theorem core_ret {w:World}{k:Nat}(hk:1≤k∧k≤8){x:Int × Int × Sl × Sl × Unit}{a:Aut}(ha:AutIn w x a)(hca:a.check (k:Int)=0){K:Nat}{res:List Ed}(hf:prunedE true K (graphL k 0 a.next)=some res) :
  RetN Tryd.prog 76 #[.int .i64 (k:Int),.agg #[.int .i64 x.1,.int .i64 x.2.1,x.2.2.1.v,x.2.2.2.1.v]] [tG,.sc .sl] w fun y w'=>(∃ g2:Int,y.1.1=(k:Int)∧y.1.2.1=g2)∧RdT w' tE y.1.2.2.1 (res.map ofE)∧OwnN w' y.2.1 (coreV a.next.length res)∧Chg Nil w w':=by
 obtain⟨x1,x2,sa,sn,_⟩:=x;obtain⟨hsa,_,na1,na2,na3,_,hrowsA⟩:=check_spec hca;have hgl:=graphL_len k a.next 0;have hmA:k*a.next.length≤8*2000:=Nat.mul_le_mul hk.2 na2;refine cayleyref21_core.calls (k:Int) x1 x2 sa sn ?_;unfold cayleyref21_core.sh;refine New.mk fun b1 w1 hb1 hh1 hs1 hc1=>?_
 refine New.mk fun b3 w2 hb3 hh3 hs3 hc3=>?_
 have h1:w2.heap[b1]? = some _:=hc3.heap hh1 fun h=>h
 have hc02:=hc1.then hc3
 have z1:=hc1.size;refine LoadT.mk tA (x:=(x1,x2,sa,sn,())) (fun j v hv=>by rw[cellOf h1];simpa[Ty.cells] using hv) ?_
 refine Ret.call (GraphOf_ret (k:=k) (x:=(x1,x2,sa,sn,())) hk.2 (ha.nil hc02) (by omega) (fun r hr=>by have:=(hrowsA r hr).1;omega)) ?_
 rintro⟨g1,g2,sg,_⟩ w7 ⟨e1,e2,ho7,hc7,hown7⟩
 have e1:g1=(k:Int):=e1;have e2:g2=((a.acc.length:Nat):Int):=e2;subst e1 e2;have ho7:OwnT w7 100 tE sg ((graphL k 0 a.next).map ofE):=ho7;refine Ret.call (Pruned_ret true ho7.rd (fun q ⟨ad,had,he⟩=>by rw[← he];exact ho7.lt ad had) (Rf.OwnT.cap ho7) (by omega) hf) ?_
 rintro⟨p1,p2,sp,_⟩ w10 ⟨e1,e2,hr10,hlt10,hcap10,hc10,hrl⟩
 have e1:p1=(k:Int):=e1;have e2:p2=((a.acc.length:Nat):Int):=e2;subst e1 e2;have hr10:RdT w10 tE sp (res.map ofE):=hr10;have hc210:=hc7.then hc10
 have hc010:=hc02.then hc210
 have z10:=hc210.size;refine New.mk fun b12 w13 hb12 hn12 hz12 hc12=>?_
 refine StoreN.whole (vs:=[.int .i64 (k:Int),.int .i64 ((a.acc.length:Nat):Int),sp.v]) hn12 rfl fun w14 h12 hc14 hz14=>?_
 have hN14:Chg Nil w10 w14:=hc12.trans hc14 (fun _ _ h=>h) fun i hi he=>by have he:i=b12:=he;omega
 refine New.mk fun b15 w16 hb15 hn15 hz15 hc15=>?_
 have hN16:=hN14.then hc15
 have hc216:=hc210.then hN16
 have z14:=hN14.size;refine LoopT.mk (fun y W=>∃ (i:Nat) (so:Sl),i≤a.next.length∧y=(at0 b3,at0 b12,so,(i:Int),())∧Chg Nil w14 W∧OwnN W so (coreV i res)∧(∀ q,so.own q→w14.heap.size≤q)) (fun y _=>a.next.length-y.2.2.2.1.toNat)
  ⟨0,⟨some ⟨b15,0,none⟩,0,0⟩,Nat.zero_le _,rfl,hc15,own_empty (t:=tI) hn15 (by decide),fun q ⟨ad,had,he⟩=>by cases had;dsimp only at he;omega⟩ ?_
 rintro y g W ⟨i,so,hi,rfl,hW,ho,hlo⟩
 dsimp only;have h12W:=hW.heap h12 fun h=>h
 have hrW:RdT W tE sp (res.map ofE):=hr10.chg (hN14.then hW) fun _ _ h=>h
 have hNW:Chg Nil w2 W:=hc210.then (hN14.then hW)
 have zW:=hW.size;have e12:at0 b12=Addr.mk b12 0 none:=rfl;have e3:at0 b3=Addr.mk b3 0 none:=rfl;have wi:IntKind.wrap .i64 ((i:Int)+1)=((i+1:Nat):Int):=by rw[wrap64 (by omega) (by omega)];rfl
 refine LoadT.sc (s:=.int .i64) (x:=((a.acc.length:Nat):Int)) (by rw[e12,cellOf h12W];rfl) ?_
 have hcs:coreV (i+1) res=coreV i res ++ (if 0<degE res i then [i] else []):=by
  unfold coreV;rw[List.range_succ,List.filter_append]
  congr 1
  by_cases h:0<degE res i <;> simp[h]
 have hlen:(coreV i res).length≤i:=by
  unfold coreV;exact Nat.le_trans (List.length_filter_le _ _) (by rw[List.length_range];exact Nat.le_refl _)
 refine Br.dec (fun hlt=>?_) (fun hge=>?_)
 ·have hil:i<a.next.length:=by omega
  refine LoadT.mk tG (x:=((k:Int),((a.acc.length:Nat):Int),sp,())) (fun j v hv=>by rw[e12,cellOf h12W];simpa[Ty.cells] using hv) ?_
  refine Ret.call (Rf.degree_ret hrW (by omega) i) ?_
  rintro _ W2 ⟨rfl,hW2⟩
  have ho2:=ho.chg hW2 fun _ _ h=>h
  have mu:a.next.length-(((i+1:Nat):Int)).toNat<a.next.length-((i:Int)).toNat:=by omega
  refine Br.dec (fun hd=>?_) (fun hd=>?_)
  ·have hd:0<degE res i:=by have:((degE res i:Nat):Int)>0:=hd;omega
   refine New.mk fun b26 W3 hb26 hn26 hz26 hc26=>?_
   have ho3:=ho2.chg hc26 fun _ _ h=>h
   refine OwnT.append (t:=tI) (m:=1) ok85 rfl (by decide) ho3 [(i:Int)] rfl (by decide) (fun j v hv=>by rw[cellOf hn26];simpa[Ty.cells] using hv) (by rw[List.length_map];omega) (by rw[List.length_map];simp only[maxLen];omega) fun so' W4 ho4 hc4 hown4=>?_
   rw[wi];have z2:=hW2.size;refine⟨⟨i+1,so',hil,rfl,((hW.then hW2).then hc26).trans hc4 (fun _ _ h=>h) fun j hj hk=>by have:=hlo j hk;omega,?_,fun q hq=>?_⟩,mu⟩
   ·rw[hcs,if_pos hd];unfold OwnN;rw[List.map_append];exact ho4
   ·rcases hown4 q hq with h|h
    ·exact hlo q h
    ·have:=hc26.size;omega
  ·have hd:¬ 0<degE res i:=by have hd:¬ ((degE res i:Nat):Int)>0:=hd;omega
   rw[wi];refine⟨⟨i+1,so,hil,rfl,hW.then hW2,?_,hlo⟩,mu⟩
   rw[hcs,if_neg hd,List.append_nil];exact ho2
 ·have hge:¬ (i:Int)<((a.acc.length:Nat):Int):=hge;have hie:i=a.next.length:=by omega
  subst hie;refine LoadT.mk tG (x:=((k:Int),((a.acc.length:Nat):Int),sp,())) (fun j v hv=>by rw[e12,cellOf h12W];simpa[Ty.cells] using hv) ?_
  refine StoreN.whole (vs:=[.int .i64 (k:Int),.int .i64 ((a.acc.length:Nat):Int),sp.v]) (hNW.heap hh3 fun h=>h) rfl fun W2 h2 hc2 _=>?_
  refine LoadT.mk tG (x:=((k:Int),((a.acc.length:Nat):Int),sp,())) (fun j v hv=>by rw[e3,cellOf h2];simpa[Ty.cells] using hv) ?_
  have hq3:∀ {e:TypeId} {t:Ty} {s:Sl} {xs:List t.den},OwnT W e t s xs→e≠54→OwnT W2 e t s xs:=fun {e t s xs} h he=>h.chg hc2 fun ad had hq=>by
   obtain⟨cur,hcur⟩:=h.elem ⟨ad,had,rfl⟩;exact ne_of_elem hcur (hNW.heap hh3 fun h=>h) he hq
  refine⟨(((k:Int),((a.acc.length:Nat):Int),sp,()),so,()),rfl,⟨_,rfl,rfl⟩,?_,hq3 ho (by decide),(hc02.then hNW).trans hc2 (fun _ _ h=>h) fun j hj he=>by have he:j=b3:=he;omega⟩
  exact RdT.past54 hrW (hNW.heap hh3 fun h=>h) hc2
theorem leafI_len {all:Bool}{es:List Ed}:∀ {l pre res:List Ed},leafI all es pre l=some res→res.length+1=pre.length+l.length
 | [],pre,res,h=>by simp[leafI]at h
 | e :: l,pre,res,h=>by
  rw[leafI]at h;split at h
  ·cases h;simp;omega
  ·have:=leafI_len h;simp at this ⊢;omega
theorem prunedE_len {all:Bool}:∀ {K:Nat}{es res:List Ed},prunedE all K es=some res→res.length≤es.length
 | 0,es,res,h=>by simp[prunedE]at h
 | n+1,es,res,h=>by
  rw[prunedE]at h;split at h
  ·cases h;exact Nat.le_refl _
  ·rename_i es' hl
   have h1:=leafI_len hl;have h2:=prunedE_len h;simp at h1;omega
def cgTail (b9:Nat)(lsl:Sl)(b30:Nat)(R:Ending→World→Prop)(w32:World):Prop:=
 LoopT (σ:=Addr × Sl × Addr × Int × Unit) (at0 b9,lsl,(Addr.mk b30 0 none),0,()) w32 fun l33 g34 w35 I36=>
  Br (decide ((l33.2.2.2.1:Int)<((l33.2.1.n:Nat):Int)))
   (∃ S37:World→Prop,S37 w35.drew ∧
   (LoadS S37 (.agg [.int .i64,.int .i64,.sl]) l33.1 fun x38=>
   Idx l33.2.1.a l33.2.1.n 1 l33.2.2.2.1 fun a39=>
   LoadS S37 (.sc (.int .i64)) a39 fun x40=>
   LoadS S37 (.agg [.int .i64,.int .i64,.sl,.sl]) l33.2.2.1 fun x41=>
   CallT Tryd.prog 70 #[(.agg #[(.int .i64 x38.1),(.int .i64 x38.2.1),(.slice x38.2.2.1.a x38.2.2.1.n x38.2.2.1.c)]),(.int .i64 x40)] (.agg [.int .i64,.int .i64,.sl,.sl]) w35.drew (fun r42 w43=>
     S37 w43 ∧
     (CallT Tryd.prog 15 #[(.agg #[(.int .i64 r42.1),(.int .i64 r42.2.1),(.slice r42.2.2.1.a r42.2.2.1.n r42.2.2.1.c),(.slice r42.2.2.2.1.a r42.2.2.2.1.n r42.2.2.2.1.c)]),(.agg #[(.int .i64 x41.1),(.int .i64 x41.2.1),(.slice x41.2.2.1.a x41.2.2.1.n x41.2.2.1.c),(.slice x41.2.2.2.1.a x41.2.2.2.1.n x41.2.2.2.1.c)])] (.sc .bool) w43 (fun r45 w46=>
       Br r45
        (R (.returned (.bool true)) w46)
        (I36 (l33.1,l33.2.1,l33.2.2.1,(IntKind.wrap .i64 (l33.2.2.2.1+1)),()) w46)) (fun h47 w46=>R (.panicked h47) w46))) (fun h44 w43=>R (.panicked h44) w43)))
   (R (.returned (.bool false)) w35)
theorem autIn_num {k:Nat}{res:List Row}(hr:∀ r∈res,r.length≤1000)(hl:res.length≤1000000){B:Nat}{W:World}{ua un:Sl}(hA:AutR B W ua un (accF res.length) (res.map (·.map ofO))):AutIn W (((2*k:Nat):Int),0,ua,un,()) (autE k res):=
 ⟨rfl,rfl,hA.mono (Nat.zero_le _),by show(accF res.length).length≤maxLen;rw[accF,List.length_map,List.length_range];simp only[maxLen];omega,by show(res.map (·.map ofO)).length≤maxLen;rw[List.length_map];simp only[maxLen];omega,fun r hr'=>by
  obtain⟨r',hr'',rfl⟩:=List.mem_map.1 hr';rw[List.length_map];have:=hr r' hr'';simp only[maxLen];omega⟩
theorem cgTail_ok {w W:World}{k:Nat}(hk:1≤k∧k≤8){b9 b30:Nat}{g2:Int}{sp lsl:Sl}{ea:List Ed}{l:List Nat}{y:Int × Int × Sl × Sl × Unit}{Rw:List Row}{Rv:Nat→List Row}{B:Nat}(hB:B≤100000)(hes:∀ e∈ea,e.1<B∧e.2.2<B)(hel:ea.length≤1000000)
  (hW:Chg Nil w W) (h9:W.heap[b9]? = some (.cells #[.int .i64 (k:Int),.int .i64 g2,sp.v] 54 (0,0))) (hsp:RdT W tE sp (ea.map ofE)) (hl:OwnN W lsl l) (hll:l.length≤100000) (hlb:∀ v∈l,v<B)
  (h30:W.heap[b30]? = some (.cells #[.int .i64 y.1,.int .i64 y.2.1,y.2.2.1.v,y.2.2.2.1.v] 27 (0,0))) (hy:AutIn W y (autE k Rw)) (hv:∀ v∈l,∃ K,numE k ea K 0 [v] []=some (Rv v))
  {R:Ending→World→Prop} (hR:∀ W',Chg Nil w W'→R (.returned (.bool (l.any fun v=>sameF (autE k (Rv v)) (autE k Rw)))) W'):cgTail b9 lsl b30 R W:=by
 unfold cgTail;have hln:lsl.n=l.length:=by rw[hl.len,List.length_map]
 refine LoopT.mk (fun z V=>∃ i:Nat,i≤l.length∧z=(at0 b9,lsl,at0 b30,(i:Int),())∧Chg Nil W V∧(l.take i).any (fun v=>sameF (autE k (Rv v)) (autE k Rw))=false) (fun z _=>l.length-z.2.2.2.1.toNat) ⟨0,Nat.zero_le _,rfl,Chg.refl _,rfl⟩ ?_
 rintro z g V ⟨i,hi,rfl,hV,hno⟩
 dsimp only;refine Br.dec (fun hlt=>?_) (fun hge=>?_)
 rotate_left
 ·have hge:¬ (i:Int)<((lsl.n:Nat):Int):=hge;have hie:i=l.length:=by omega
  rw[hie,List.take_length]at hno;rw[← hno];exact hR V (hW.then hV)
 have hlt:(i:Int)<((lsl.n:Nat):Int):=hlt;obtain⟨v,hvi⟩:∃ v,l[i]? = some v:=⟨_,List.getElem?_eq_getElem (by omega)⟩
 have hvm:=List.mem_of_getElem? hvi;obtain⟨K,hK⟩:=hv v hvm;have htk:(l.take (i+1))=l.take i ++ [v]:=by rw[List.take_add_one,hvi];rfl
 have hd:Chg Nil V V.drew:=Chg.drew V;have e9:at0 b9=Addr.mk b9 0 none:=rfl;have e30:at0 b30=Addr.mk b30 0 none:=rfl;refine⟨fun X=>Chg Nil V X,hd,?_⟩
 refine LoadS.mk tG (x:=((k:Int),g2,sp,())) (fun X hX j u hu=>by rw[e9,cellOf ((hV.then hX).heap h9 fun h=>h)];simpa[Ty.cells] using hu) ?_
 refine(hl.rd.chg hV fun _ _ h=>h).idx (t:=tI) i rfl (x:=(v:Int)) (by rw[List.getElem?_map,hvi];rfl) fun ad had=>?_
 have had0:=had 0 _ rfl;rw[add0]at had0;refine LoadS.sc (s:=.int .i64) (x:=(v:Int)) (fun X hX=>hX.cell had0 fun h=>h) ?_
 refine LoadS.mk tA (x:=y) (fun X hX j u hu=>by rw[e30,cellOf ((hV.then hX).heap h30 fun h=>h)];simpa[Ty.cells] using hu) ?_
 refine Ret.call (Numbered_ret (k:=k) (B:=B) hk.2 (hsp.chg (hV.then hd) fun _ _ h=>h) (by omega) (by omega) hes (hlb v hvm) hK) ?_
 rintro⟨r1,r2,ua,un,_⟩ V1 ⟨q1,q2,hA,hc1,hlen⟩
 have q1:r1=((2*k:Nat):Int):=q1;have q2:r2=0:=q2;subst q1 q2;have d1:=hd.then hc1
 refine⟨d1,?_⟩;have hrr:=numE_rows K 0 [v] [] (Rv v) (by simp) hK
 refine Ret.call (Same_ret (autIn_num (k:=k) (fun r hr=>by rw[hrr r hr];omega) (by omega) hA) (hy.nil (hV.then d1))) ?_
 rintro _ V2 ⟨rfl,hc2⟩
 have d2:=d1.then hc2
 refine Br.mk (fun ht=>?_) (fun hf=>?_)
 ·have:(l.any fun v=>sameF (autE k (Rv v)) (autE k Rw))=true:=List.any_eq_true.2 ⟨v,hvm,ht⟩
  rw[← this];exact hR V2 (hW.then (hV.then d2))
 ·refine⟨⟨i+1,by omega,by rw[wrap64 (by omega) (by omega)];rfl,hV.then d2,?_⟩,?_⟩
  ·rw[htk,List.any_append,hno];simp[hf]
  ·show l.length-(IntKind.wrap .i64 ((i:Int)+1)).toNat<l.length-((i:Int)).toNat
   rw[wrap64 (by omega) (by omega)];omega
def conjB (k:Nat)(l m:List Nat)(Rv:Nat→List Row)(Rw:List Row):Bool:=
 if l=[]∨m=[] then decide (l.length=m.length) else l.any fun v=>sameF (autE k (Rv v)) (autE k Rw)
theorem Conjugates_ret {w:World}{k:Nat}(hk:1≤k∧k≤8){x y:Int × Int × Sl × Sl × Unit}{a b:Aut}(ha:AutIn w x a)(hb:AutIn w y b)(hca:a.check (k:Int)=0)(hcb:b.check (k:Int)=0){K K':Nat}{ea eb:List Ed}(hfa:prunedE true K (graphL k 0 a.next)=some ea)(hfb:prunedE true K' (graphL k 0 b.next)=some eb)
  {Rv:Nat→List Row} {Rw:List Row} (hv:∀ v∈coreV a.next.length ea,∃ K,numE k ea K 0 [v] []=some (Rv v)) (hw:∀ v,(coreV b.next.length eb)[0]? = some v→∃ K,numE k eb K 0 [v] []=some Rw) :
  Ret Tryd.prog 40 #[.int .i64 (k:Int),.agg #[.int .i64 x.1,.int .i64 x.2.1,x.2.2.1.v,x.2.2.2.1.v],.agg #[.int .i64 y.1,.int .i64 y.2.1,y.2.2.1.v,y.2.2.2.1.v]] (.sc .bool) w fun z w'=>
   z=conjB k (coreV a.next.length ea) (coreV b.next.length eb) Rv Rw∧Chg Nil w w':=by
 obtain⟨x1,x2,sa,sn,_⟩:=x;obtain⟨y1,y2,ta,tn,_⟩:=y;obtain⟨_,_,na1,na2,na3,_,hrowsA⟩:=check_spec hca;obtain⟨_,_,nb1,nb2,nb3,_,hrowsB⟩:=check_spec hcb;have hltA:=graphL_lt (k:=k) (next:=a.next) (fun r hr t ht=>((hrowsA r hr).2 t ht).2) na1
 have hltB:=graphL_lt (k:=k) (next:=b.next) (fun r hr t ht=>((hrowsB r hr).2 t ht).2) nb1
 have hgA:=graphL_len k a.next 0;have hgB:=graphL_len k b.next 0;have hmA:k*a.next.length≤8*2000:=Nat.mul_le_mul hk.2 na2;have hmB:k*b.next.length≤8*2000:=Nat.mul_le_mul hk.2 nb2;refine cayleyref21_Conjugates.calls (k:Int) x1 x2 sa sn y1 y2 ta tn ?_;unfold cayleyref21_Conjugates.sh;refine New.mk fun b1 w1 hb1 hh1 hs1 hc1=>?_
 refine New.mk fun b3 w2 hb3 hh3 hs3 hc3=>?_
 have h1:w2.heap[b1]? = some _:=hc3.heap hh1 fun h=>h
 have hc02:=hc1.then hc3
 refine LoadT.mk tA (x:=(x1,x2,sa,sn,())) (fun j v hv=>by rw[cellOf h1];simpa[Ty.cells] using hv) ?_
 refine RetN.call (core_ret (k:=k) hk (x:=(x1,x2,sa,sn,())) (ha.nil hc02) hca hfa) ?_
 rintro⟨⟨p1,p2,sp,_⟩,lsl,_⟩ w7 ⟨⟨g2,q1,q2⟩,hsp,hl,hc7⟩
 have q1:p1=(k:Int):=q1;have q2:p2=g2:=q2;subst q1 q2;have hsp:RdT w7 tE sp (ea.map ofE):=hsp;have hl:OwnN w7 lsl (coreV a.next.length ea):=hl;refine New.mk fun b9 w10 hb9 hn9 hz9 hc9=>?_
 refine StoreN.whole (vs:=[.int .i64 (k:Int),.int .i64 p2,sp.v]) hn9 rfl fun w11 h9 hc11 _=>?_
 have hN11:Chg Nil w7 w11:=hc9.trans hc11 (fun _ _ h=>h) fun i hi he=>by have he:i=b9:=he;omega
 have hc211:=hc7.then hN11
 refine LoadT.mk tA (x:=(y1,y2,ta,tn,())) (fun j v hv=>by rw[cellOf (hc211.heap hh3 fun h=>h)];simpa[Ty.cells] using hv) ?_
 refine RetN.call (core_ret (k:=k) hk (x:=(y1,y2,ta,tn,())) (hb.nil (hc02.then hc211)) hcb hfb) ?_
 rintro⟨⟨p1',p2',sp',_⟩,msl,_⟩ w14 ⟨⟨g2',q1,q2⟩,hsp',hm,hc14⟩
 have q1:p1'=(k:Int):=q1;have q2:p2'=g2':=q2;subst q1 q2;have hsp':RdT w14 tE sp' (eb.map ofE):=hsp';have hm:OwnN w14 msl (coreV b.next.length eb):=hm;refine New.mk fun b16 w17 hb16 hn16 hz16 hc16=>?_
 refine StoreN.whole (vs:=[.int .i64 (k:Int),.int .i64 p2',sp'.v]) hn16 rfl fun w18 h16 hc18 _=>?_
 have hN18:Chg Nil w14 w18:=hc16.trans hc18 (fun _ _ h=>h) fun i hi he=>by have he:i=b16:=he;omega
 have hc1118:=hc14.then hN18
 have hc018:=(hc02.then hc211).then hc1118
 have h918:=hc1118.heap h9 fun h=>h
 have hsp18:=hsp.chg (hN11.then hc1118) fun _ _ h=>h
 have hl18:=hl.chg (hN11.then hc1118) fun _ _ h=>h
 have hsp18':=hsp'.chg hN18 fun _ _ h=>h
 have hm18:=hm.chg hN18 fun _ _ h=>h
 have hln:lsl.n=(coreV a.next.length ea).length:=by rw[hl.len,List.length_map]
 have hmn:msl.n=(coreV b.next.length eb).length:=by rw[hm.len,List.length_map]
 have inA:∀ v∈coreV a.next.length ea,v<a.next.length:=fun v hv=>List.mem_range.1 (List.mem_filter.1 hv).1
 have inB:∀ v∈coreV b.next.length eb,v<b.next.length:=fun v hv=>List.mem_range.1 (List.mem_filter.1 hv).1
 have lA:(coreV a.next.length ea).length≤a.next.length:=Nat.le_trans (List.length_filter_le _ _) (by rw[List.length_range];exact Nat.le_refl _)
 have lB:(coreV b.next.length eb).length≤b.next.length:=Nat.le_trans (List.length_filter_le _ _) (by rw[List.length_range];exact Nat.le_refl _)
 have sA:=prunedE_sub hfa;have sB:=prunedE_sub hfb;have eAl:ea.length≤16000:=by have:=prunedE_len hfa;omega
 have eBl:eb.length≤16000:=by have:=prunedE_len hfb;omega
 refine Join.by' (fun z V=>z=(at0 b9,lsl,at0 b16,msl,decide (coreV a.next.length ea=[]∨coreV b.next.length eb=[]),())∧V=w18) ?_ ?_
 rotate_left
 ·intro J hJ;refine Br.mk (fun h0=>?_) (fun h0=>?_)
  ·have h0:(coreV a.next.length ea).length=0:=by have:((lsl.n:Nat):Int)=0:=by simpa using h0
                                                 omega
   refine hJ _ _ ⟨?_,rfl⟩;rw[decide_eq_true (.inl (List.length_eq_zero_iff.1 h0))]
  ·have h0:¬ (coreV a.next.length ea)=[]:=fun h=>by rw[hln,h]at h0;simp at h0
   refine hJ _ _ ⟨?_,rfl⟩;have:((((msl.n:Nat):Int):Int) == 0)=decide (coreV a.next.length ea=[]∨coreV b.next.length eb=[]):=by
    rw[hmn]
    by_cases hm0:coreV b.next.length eb=[]
    ·rw[decide_eq_true (.inr hm0),hm0];rfl
    ·rw[decide_eq_false (by rintro(h | h);exact h0 h;exact hm0 h)]
     have:(coreV b.next.length eb).length≠0:=fun h=>hm0 (List.length_eq_zero_iff.1 h)
     simp only[beq_eq_false_iff_ne,ne_eq];omega
   rw[this]
 rintro z V g ⟨rfl,hV⟩
 rw[hV];clear hV;dsimp only;unfold conjB;refine Br.dec (fun hemp=>?_) (fun hfull=>?_)
 ·rw[if_pos hemp];refine⟨_,rfl,?_,hc018⟩;rw[hln,hmn]
  by_cases h:(coreV a.next.length ea).length=(coreV b.next.length eb).length
  ·simp[h]
  ·rw[decide_eq_false h];simp only[beq_eq_false_iff_ne,ne_eq];omega
 rw[if_neg hfull];obtain⟨m0,hm0⟩:∃ v,(coreV b.next.length eb)[0]? = some v:=by
  cases hc:coreV b.next.length eb with
  | nil=>exact absurd (.inr hc) hfull
  | cons v l=>exact⟨v,rfl⟩
 obtain⟨K2,hK2⟩:=hw m0 hm0;have hm0m:=List.mem_of_getElem? hm0;have hrr:=numE_rows K2 0 [m0] [] Rw (by simp) hK2
 have hd:Chg Nil w18 w18.drew:=Chg.drew w18;refine⟨fun X=>Chg Nil w18 X,hd,?_⟩
 have e16:at0 b16=Addr.mk b16 0 none:=rfl;refine LoadS.mk tG (x:=((k:Int),p2',sp',())) (fun X hX j u hu=>by rw[e16,cellOf (hX.heap h16 fun h=>h)];simpa[Ty.cells] using hu) ?_
 refine hm18.rd.idx (t:=tI) 0 rfl (x:=(m0:Int)) (by rw[List.getElem?_map,hm0];rfl) fun ad had=>?_
 have had0:=had 0 _ rfl;rw[add0]at had0;refine LoadS.sc (s:=.int .i64) (x:=(m0:Int)) (fun X hX=>hX.cell had0 fun h=>h) ?_
 have hesA:∀ e∈ea,e.1<2000∧e.2.2<2000:=fun e he=>by have:=hltA e (sA e he);omega
 have hesB:∀ e∈eb,e.1<2000∧e.2.2<2000:=fun e he=>by have:=hltB e (sB e he);omega
 have fin:∀ {W:World} {b30:Nat} {y:Int × Int × Sl × Sl × Unit},Chg Nil w18 W→W.heap[b30]? = some (.cells #[.int .i64 y.1,.int .i64 y.2.1,y.2.2.1.v,y.2.2.2.1.v] 27 (0,0))→AutIn W y (autE k Rw) →
   cgTail b9 lsl b30 (fun e w'=>∃ z:Bool,e = .returned ((Ty.sc .bool).val z)∧z=((coreV a.next.length ea).any fun v=>sameF (autE k (Rv v)) (autE k Rw))∧Chg Nil w w') W:=fun {W b30 y} hW h30 hy=>
  cgTail_ok (w:=w) (B:=2000) hk (by decide) hesA (by omega) (hc018.then hW) (hW.heap h918 fun h=>h) (hsp18.chg hW fun _ _ h=>h) (hl18.chg hW fun _ _ h=>h) (by omega) (fun v hv=>by have:=inA v hv;omega) h30 hy hv fun W' h=>⟨_,rfl,rfl,h⟩
 refine⟨?_,?_⟩
 ·refine Ret.call (Numbered_ret (k:=k) (B:=2000) hk.2 (hsp18'.chg hd fun _ _ h=>h) (by omega) (by decide) hesB (by have:=inB m0 hm0m;omega) hK2) ?_
  rintro⟨r1,r2,ua,un,_⟩ V1 ⟨q1,q2,hA,hcV1,hlen⟩
  have q1:r1=((2*k:Nat):Int):=q1;have q2:r2=0:=q2;subst q1 q2;have d1:=hd.then hcV1
  refine⟨d1,?_⟩;have hy:=autIn_num (k:=k) (fun r hr=>by rw[hrr r hr];omega) (by omega) hA
  refine New.mk fun b30 V2 hb30 hn30 hz30 hc30=>?_
  refine⟨d1.then hc30,?_⟩
  refine StoreN.whole (vs:=[.int .i64 ((2*k:Nat):Int),.int .i64 0,ua.v,un.v]) hn30 rfl fun V3 h30 hcV3 _=>?_
  have hN:Chg Nil V1 V3:=hc30.trans hcV3 (fun _ _ h=>h) fun i hi he=>by have he:i=b30:=he;omega
  exact fin (y:=(((2*k:Nat):Int),0,ua,un,())) (d1.then hN) h30 (hy.nil hN)
 ·refine New.mk fun b30 V2 hb30 hn30 hz30 hc30=>?_
  have d2:=hd.then hc30
  refine⟨d2,?_⟩;refine Ret.call (Numbered_ret (k:=k) (B:=2000) hk.2 (hsp18'.chg d2 fun _ _ h=>h) (by omega) (by decide) hesB (by have:=inB m0 hm0m;omega) hK2) ?_
  rintro⟨r1,r2,ua,un,_⟩ V1 ⟨q1,q2,hA,hcV1,hlen⟩
  have q1:r1=((2*k:Nat):Int):=q1;have q2:r2=0:=q2;subst q1 q2;have d1:=d2.then hcV1
  refine⟨d1,?_⟩;have l30:=lt_of_heap hn30;refine StoreN.whole (vs:=[.int .i64 ((2*k:Nat):Int),.int .i64 0,ua.v,un.v]) (hcV1.heap hn30 fun h=>h) rfl fun V3 h30 hcV3 _=>?_
  have hA3:=hA.chg hcV3 fun q hq he=>by have he:q=b30:=he;omega
  have hz0:w18.drew.heap.size=w18.heap.size:=rfl;exact fin (y:=(((2*k:Nat):Int),0,ua,un,())) (d1.trans hcV3 (fun _ _ h=>h) fun i hi he=>by have he:i=b30:=he;omega) h30 (autIn_num (k:=k) (fun r hr=>by rw[hrr r hr];omega) (by omega) hA3)
structure CoreK (k:Int)(a:Aut)(c:Co):Prop where
 run:coreF a.next.length a.next (core0 a.next)=some c
 len:c.inn.length=a.next.length
 of:CoreOf (Dl k a) (inC c) c.base
 lt:∀ v,inC c v→v<a.next.length
 size:c.size=(c.inn.count true:Int)
 stem:∃ p,Run (Dl k a) 0 p c.base∧c.stem=letsS p
 short:c.stem.size≤a.next.length
 conn:∀ v,inC c v→∃ l,Rd l∧Run (cD (Dl k a) (inC c)) c.base l v
theorem coreK {k:Int}{a:Aut}(hc:a.check k=0)(hk:1≤k∧k≤8):∃ c,CoreK k a c:=by
 obtain⟨co,h1,h2,h3,h4,h5⟩:=core_of hc hk;obtain⟨g1,⟨p,g2,g3⟩,g4⟩:=core_spec hc hk h1;have hA:=dl_aut (k:=k) (by omega) hc
 refine⟨co,h1,h2,g1,g4,h5,⟨p,g2,g3⟩,by omega,fun v hv=>?_⟩
 exact g1.conn hA g2 (path_runs (k:=k) (by omega) hc _ v (g4 v hv) (Nat.le_refl _)) hv
theorem run_in {δ:Nat→Nat→Nat→Prop}{C:Nat→Prop}:∀ {l:List Nat}{s t:Nat},C s→Run (cD δ C) s l t→C t
 | [],s,t,hs,h=>by cases h;exact hs
 | x :: l,s,t,hs,h=>by
  cases h with
  | cons h1 h2=>exact run_in h1.2.2 h2
theorem count_range (l:List Bool):l.count true=((List.range l.length).filter fun v=>decide (l[v]? = some true)).length:=by
 induction l with
 | nil=>rfl
 | cons b l ih=>
  rw[List.length_cons,List.range_succ_eq_map,List.filter_cons,List.filter_map,List.count_cons,ih];cases b
  ·simp;rfl
  ·simp;rfl
theorem size_le {k:Int}{a b:Aut}{ca cb:Co}(ha:CoreK k a ca){s:Nat}(hb:inC cb s)(h:PIso (cD (Dl k a) (inC ca)) (cD (Dl k b) (inC cb)) ca.base s)(hl:cb.inn.length=b.next.length):ca.inn.count true≤cb.inn.count true:=by
 classical
 obtain⟨P,hP,h0⟩:=h;have tot:∀ v,inC ca v→∃ w,P v w∧inC cb w:=fun v hv=>by
  obtain⟨l,_,hr⟩:=ha.conn v hv;obtain⟨w,g1,g2⟩:=hP.run hr h0;exact⟨w,g2,run_in hb g1⟩
 let φ:Nat→Nat:=fun s=>if h:∃ w,P s w∧inC cb w then Classical.choose h else 0
 have hφ:∀ v,inC ca v→P v (φ v)∧inC cb (φ v):=fun v hv=>by
  have hex:=tot v hv
  show P v (if h:∃ w,P v w∧inC cb w then Classical.choose h else 0)∧inC cb (if h:∃ w,P v w∧inC cb w then Classical.choose h else 0)
  rw[dif_pos hex];exact Classical.choose_spec hex
 rw[count_range,count_range];have hA:∀ v,v∈((List.range ca.inn.length).filter fun v=>decide (ca.inn[v]? = some true))→inC ca v:=fun v hv=>by
  have:=(List.mem_filter.1 hv).2;exact of_decide_eq_true this
 have:=nodup_sub ((((List.range ca.inn.length).filter fun v=>decide (ca.inn[v]? = some true))).map φ) ((List.range cb.inn.length).filter fun v=>decide (cb.inn[v]? = some true)) (by
  unfold List.Nodup;rw[List.pairwise_map];refine List.Pairwise.imp_of_mem (fun {x y} hx hy hne he=>hne ?_) ((List.nodup_range).filter _)
  have h1:=(hφ x (hA x hx)).1;have h2:=(hφ y (hA y hy)).1;rw[he]at h1;exact hP.inj _ _ _ h1 h2) (fun w hw=>by
  obtain⟨v,hv,rfl⟩:=List.mem_map.1 hw;have:=(hφ v (hA v hv)).2;exact List.mem_filter.2 ⟨List.mem_range.2 (List.getElem?_eq_some_iff.1 this).1,decide_eq_true this⟩)
 simpa using this
theorem deg_iff {es:List Ed}(hev:Evn es){v:Nat}:0<degE es v↔∃ x t,Dir es v x t:=by
 constructor
 ·intro h;obtain⟨⟨f,y,u⟩,he,hc⟩:=degE_pos h;have hy:=hev _ he;dsimp only at hy;unfold cE at hc;dsimp only at hc
  by_cases hf:f=v
  ·subst hf;exact⟨y,u,.inl ⟨hy,he⟩⟩
  ·by_cases hu:u=v
   ·subst hu;exact⟨y+1,f,.inr ⟨by omega,he⟩⟩
   ·rw[if_neg hf,if_neg hu]at hc;omega
 ·rintro⟨x,t,(⟨h1,h2⟩|⟨h1,h2⟩)⟩
  ·have:=degE_mem (v:=v) h2;unfold cE at this;rw[if_pos rfl]at this;omega
  ·have:=degE_mem (v:=v) h2;unfold cE at this;rw[if_pos (rfl:(t,x-1,v).2.2=v)]at this;omega
theorem ref_core {k:Nat}(hk:1≤k∧k≤8){a:Aut}(hc:a.check (k:Int)=0){ca:Co}(hK:CoreK (k:Int) a ca):∃ K ea,prunedE true K (graphL k 0 a.next)=some ea∧(∀ s x t,Dir ea s x t↔cD (Dl (k:Int) a) (inC ca) s x t)∧Evn ea∧(∀ e∈ea,e∈graphL k 0 a.next):=by
 have hA:=dl_aut (k:=(k:Int)) (by omega) hc
 have hdet:Det (graphL k 0 a.next):=fun s x t t' h h'=>hA.det _ _ _ _ ((graph_dl hk.2 hc).1 h) ((graph_dl hk.2 hc).1 h')
 obtain⟨K,ea,h1,h2,h3,h4⟩:=prunedA (graph_even k a.next) (graph_nodup k a.next) hdet;exact⟨K,ea,h1,fun s x t=>pruned_core hA hK.of (fun s x t=>graph_dl hk.2 hc) h2 h3 h4 s x t,fun e he=>graph_even k a.next e (h2 e he),h2⟩
theorem same_refl (a:Aut):sameF a a=true:=by unfold sameF;simp
theorem autE_inj {k:Nat}{R R':List Row}(h:autE k R=autE k R'):R=R':=by
 have h1:R.map (·.map ofO)=R'.map (·.map ofO):=congrArg Aut.next h;have inj:∀ {o o':Option Nat},ofO o=ofO o'→o=o':=fun {o o'} h=>by
  cases o <;> cases o' <;> simp[ofO]at h ⊢ <;> omega
 have inj2:∀ {r r':Row},r.map ofO=r'.map ofO→r=r':=fun {r r'} h=>(List.map_inj_right (fun _ _ h=>inj h)).1 h
 exact(List.map_inj_right (fun _ _ h=>inj2 h)).1 h1
theorem PIso.dir {γ γ' δ δ':Nat→Nat→Nat→Prop}(h1:∀ s x t,γ s x t↔δ s x t)(h2:∀ s x t,γ' s x t↔δ' s x t){v u:Nat}:PIso γ γ' v u↔PIso δ δ' v u:=by
 have e1:γ=δ:=funext fun s=>funext fun x=>funext fun t=>propext (h1 s x t)
 have e2:γ'=δ':=funext fun s=>funext fun x=>funext fun t=>propext (h2 s x t)
 rw[e1,e2]
def isB (a b:Aut)(ca cb:Co):Prop:=ca.size=cb.size∧∃ s,inC cb s∧alB a b ca cb s=true
theorem cD_rev {δ:Nat→Nat→Nat→Prop}{C:Nat→Prop}(hA:Aut' δ){l:List Nat}{s t:Nat}(h:Run (cD δ C) s l t):Run (cD δ C) t (inv l) s:=h.rev (cD_aut hA).inv
theorem conj_iff {k:Nat}(hk:1≤k∧k≤8){a b:Aut}(hc:a.check (k:Int)=0)(hd:b.check (k:Int)=0){ca cb:Co}(ka:CoreK (k:Int) a ca)(kb:CoreK (k:Int) b cb){ea eb:List Ed}(da:∀ s x t,Dir ea s x t↔cD (Dl (k:Int) a) (inC ca) s x t)(db:∀ s x t,Dir eb s x t↔cD (Dl (k:Int) b) (inC cb) s x t)(va:Evn ea)(vb:Evn eb)
  {Rv:Nat→List Row} {Rw:List Row} (hv:∀ v∈coreV a.next.length ea,∃ K,numE k ea K 0 [v] []=some (Rv v)) (hw:∀ v,(coreV b.next.length eb)[0]? = some v→∃ K,numE k eb K 0 [v] []=some Rw) :
  isB a b ca cb↔conjB k (coreV a.next.length ea) (coreV b.next.length eb) Rv Rw=true:=by
 have hA:=dl_aut (k:=(k:Int)) (by omega) hc
 have hB:=dl_aut (k:=(k:Int)) (by omega) hd
 have memA:∀ {v},v∈coreV a.next.length ea↔∃ x t,cD (Dl (k:Int) a) (inC ca) v x t:=fun {v}=>by
  unfold coreV;rw[List.mem_filter,List.mem_range,decide_eq_true_eq,deg_iff va];constructor
  ·rintro⟨_,x,t,h⟩;exact⟨x,t,(da _ _ _).1 h⟩
  ·rintro⟨x,t,h⟩;exact⟨ka.lt v h.2.1,x,t,(da _ _ _).2 h⟩
 have memB:∀ {v},v∈coreV b.next.length eb↔∃ x t,cD (Dl (k:Int) b) (inC cb) v x t:=fun {v}=>by
  unfold coreV;rw[List.mem_filter,List.mem_range,decide_eq_true_eq,deg_iff vb];constructor
  ·rintro⟨_,x,t,h⟩;exact⟨x,t,(db _ _ _).1 h⟩
  ·rintro⟨x,t,h⟩;exact⟨kb.lt v h.2.1,x,t,(db _ _ _).2 h⟩
 have alb:∀ {s},inC cb s→(alB a b ca cb s=true↔PIso (cD (Dl (k:Int) a) (inC ca)) (cD (Dl (k:Int) b) (inC cb)) ca.base s):=fun {s} hs=>alB_iso hc hd ka.len kb.len ka.of.base hs
 have detA:Det ea:=fun s x t t' h h'=>hA.det _ _ _ _ ((da _ _ _).1 h).1 ((da _ _ _).1 h').1
 have detB:Det eb:=fun s x t t' h h'=>hB.det _ _ _ _ ((db _ _ _).1 h).1 ((db _ _ _).1 h').1
 have xA:∀ s x t,Dir ea s x t→x<2*k:=fun s x t h=>by have:=((da _ _ _).1 h).1.2.1;omega
 have xB:∀ s x t,Dir eb s x t→x<2*k:=fun s x t h=>by have:=((db _ _ _).1 h).1.2.1;omega
 have sizes:∀ {s},inC cb s→PIso (cD (Dl (k:Int) a) (inC ca)) (cD (Dl (k:Int) b) (inC cb)) ca.base s→ca.size=cb.size:=fun {s} hs h=>by
  have h1:=size_le ka hs h kb.len
  -- from b's base
  obtain⟨l,_,hr⟩:=kb.conn s hs;obtain⟨v,g1,g2⟩:=h.symm.move (cD_rev hB hr);have h2:=size_le kb (run_in ka.of.base g1) g2 ka.len;rw[ka.size,kb.size];omega
 -- no edges here: none there
 have none_:∀ {s},inC cb s→PIso (cD (Dl (k:Int) a) (inC ca)) (cD (Dl (k:Int) b) (inC cb)) ca.base s→(coreV a.next.length ea=[]↔coreV b.next.length eb=[]):=fun {s} hs h=>by
  have hAn:coreV a.next.length ea=[]↔∀ x t,¬ cD (Dl (k:Int) a) (inC ca) ca.base x t:=by
   constructor
   ·intro h x t hd;have:=memA.2 ⟨x,t,hd⟩;rw[h]at this;simp at this
   ·intro h;refine List.eq_nil_iff_forall_not_mem.2 fun v hv=>?_
    obtain⟨x,t,hd⟩:=memA.1 hv;obtain⟨l,_,hr⟩:=ka.conn v hd.2.1;cases hr with
    | nil=>exact h x t hd
    | cons h1 _=>exact h _ _ h1
  have hBn:coreV b.next.length eb=[]↔∀ x t,¬ cD (Dl (k:Int) b) (inC cb) s x t:=by
   constructor
   ·intro h x t hd;have:=memB.2 ⟨x,t,hd⟩;rw[h]at this;simp at this
   ·intro h;refine List.eq_nil_iff_forall_not_mem.2 fun v hv=>?_
    obtain⟨x,t,hd⟩:=memB.1 hv;obtain⟨l1,_,hr1⟩:=kb.conn s hs;obtain⟨l2,_,hr2⟩:=kb.conn v hd.2.1;have hr:=(cD_rev hB hr1).app hr2;generalize inv l1 ++ l2=l at hr;cases hr with
    | nil=>exact h x t hd
    | cons h1 _=>exact h _ _ h1
  obtain⟨P,hP,h0⟩:=h;rw[hAn,hBn];constructor
  ·intro h x t hd;obtain⟨t',g1,_⟩:=hP.bwd _ _ _ _ h0 hd;exact h _ _ g1
  ·intro h x t hd;obtain⟨t',g1,_⟩:=hP.fwd _ _ _ _ h0 hd;exact h _ _ g1
 unfold conjB;constructor
 ·rintro⟨_,s,hs,hal⟩
  have hI:=(alb hs).1 hal;have hn:=none_ hs hI
  by_cases hemp:coreV a.next.length ea=[]∨coreV b.next.length eb=[]
  ·rw[if_pos hemp];have h1:coreV a.next.length ea=[]:=by rcases hemp with h | h;exact h;exact hn.2 h
   have h2:=hn.1 h1;rw[h1,h2];simp
  ·rw[if_neg hemp];obtain⟨m0,hm0⟩:∃ v,(coreV b.next.length eb)[0]? = some v:=by
    cases hcv:coreV b.next.length eb with
    | nil=>exact absurd (.inr hcv) hemp
    | cons v l=>exact⟨v,rfl⟩
   obtain⟨x,t,hd0⟩:=memB.1 (List.mem_of_getElem? hm0);obtain⟨l1,_,hr1⟩:=kb.conn s hs;obtain⟨l2,_,hr2⟩:=kb.conn m0 hd0.2.1;obtain⟨v,g1,g2⟩:=hI.symm.move ((cD_rev hB hr1).app hr2);have hI2:=g2.symm;obtain⟨P,hP,h0⟩:=g2;obtain⟨t',g3,_⟩:=hP.fwd _ _ _ _ h0 hd0;have hvm:=memA.2 ⟨x,t',g3⟩;obtain⟨K,hK⟩:=hv v hvm;obtain⟨K',hK'⟩:=hw m0 hm0;have heq:=(num_iso detA detB xA xB hK hK').2 ((PIso.dir da db).2 hI2)
   exact List.any_eq_true.2 ⟨v,hvm,by rw[heq];exact same_refl _⟩
 ·intro h
  by_cases hemp:coreV a.next.length ea=[]∨coreV b.next.length eb=[]
  ·rw[if_pos hemp]at h;have hlen:=of_decide_eq_true h;have h1:coreV a.next.length ea=[]:=by
    rcases hemp with h|h
    ·exact h
    ·rw[h]at hlen;exact List.length_eq_zero_iff.1 hlen
   have h2:coreV b.next.length eb=[]:=by rw[h1]at hlen;exact List.length_eq_zero_iff.1 hlen.symm
   have hI:PIso (cD (Dl (k:Int) a) (inC ca)) (cD (Dl (k:Int) b) (inC cb)) ca.base cb.base:=by
    refine⟨fun v u=>v=ca.base∧u=cb.base,⟨fun s w w' h h'=>h.2.trans h'.2.symm,fun s s' w h h'=>h.1.trans h'.1.symm,fun s w x t hp hd=>?_,fun s w x t hp hd=>?_⟩,rfl,rfl⟩
    ·have:=memA.2 ⟨x,t,hd⟩;rw[h1]at this;simp at this
    ·have:=memB.2 ⟨x,t,hd⟩;rw[h2]at this;simp at this
   exact⟨sizes kb.of.base hI,cb.base,kb.of.base,(alb kb.of.base).2 hI⟩
  ·rw[if_neg hemp]at h;obtain⟨v,hvm,hs⟩:=List.any_eq_true.1 h;have heq:=autE_inj (aut_ext hs);obtain⟨m0,hm0⟩:∃ v,(coreV b.next.length eb)[0]? = some v:=by
    cases hcv:coreV b.next.length eb with
    | nil=>exact absurd (.inr hcv) hemp
    | cons v l=>exact⟨v,rfl⟩
   obtain⟨x,t,hd0⟩:=memB.1 (List.mem_of_getElem? hm0);obtain⟨x',t',hdv⟩:=memA.1 hvm;obtain⟨K,hK⟩:=hv v hvm;obtain⟨K',hK'⟩:=hw m0 hm0;have hI:=(PIso.dir da db).1 ((num_iso detA detB xA xB hK hK').1 heq);obtain⟨l,_,hr⟩:=ka.conn v hdv.2.1;obtain⟨s,g1,g2⟩:=hI.move (cD_rev hA hr);have hs:=run_in hd0.2.1 g1;exact⟨sizes hs g2,s,hs,(alb hs).2 g2⟩
theorem word_reduce {k:Int}(hk:1≤k∧k≤8){y:ByteArray}(hy:checkF k y=0):checkF k (ReduceF y)=0∧wordF (ReduceF y)=wordF y∧(ReduceF y).size≤y.size:=by
 obtain⟨h8,_⟩:=check8 hy;have hsz:=check_size hy;have e:(ReduceF y).data.toList=redF y.data.toList:=by unfold ReduceF;rw[if_pos h8]
 have hlen:(ReduceF y).size≤y.size:=by
  have h1:=redF_len y.data.toList;have h2:(ReduceF y).size=(ReduceF y).data.toList.length:=by simp
  have h3:y.size=y.data.toList.length:=by simp
  rw[h2,h3,e];exact h1
 have hlet:LetB (2*k.toNat) (ReduceF y).data.toList:=fun b hb=>by
  rw[e]at hb;have:=redFold_mem (P:=fun b=>b∈y.data.toList) y.data.toList [] (by simp) (fun b hb=>hb) b hb
  exact let_of hy b this
 refine⟨check_of hk (by omega) hlet,?_,hlen⟩
 have g1:=good_word hy;have g2:Pl.Good (ReduceF y).data.toList:=hlet.good (by omega)
 rw[word_raw g2];have:rawF (ReduceF y)=wordF y:=by unfold rawF wordF;rw[e];rfl
 rw[this,word_raw g1];exact(rd_rd _).self
theorem lets_list:∀ p:List Nat,(letsS p).data.toList=p.map L
 | []=>rfl
 | x :: p=>by
  rw[letsS,app_list,lets_list p];rfl
theorem lets_raw {p:List Nat}(h:∀ x∈p,x<16):rawF (letsS p)=p:=by
 unfold rawF;rw[lets_list,List.map_map];have:∀ x∈p,(ix ∘ L) x=x:=fun x hx=>ix_L (h x hx)
 rw[List.map_congr_left this,List.map_id']
theorem same_conj (q g:List Nat):Same (inv q ++ (q ++ g ++ inv q) ++ q) g:=by
 have h1:inv q ++ (q ++ g ++ inv q) ++ q=(inv q ++ q) ++ g ++ (inv q ++ q):=by simp[List.append_assoc]
 rw[h1];have:=((same_inv' q).app (Same.refl g)).app (same_inv' q)
 simpa using this
theorem same_conj' (q g:List Nat):Same (q ++ (inv q ++ g ++ q) ++ inv q) g:=by
 have:=same_conj (inv q) g
 rwa [inv_inv]at this
theorem conj_found {k:Nat}(hk:1≤k∧k≤8){a b:Aut}(hc:a.check (k:Int)=0)(hd:b.check (k:Int)=0){ca cb:Co}(ka:CoreK (k:Int) a ca)(kb:CoreK (k:Int) b cb){s:Nat}(hs:inC cb s)
  (hI:PIso (cD (Dl (k:Int) a) (inC ca)) (cD (Dl (k:Int) b) (inC cb)) ca.base s) :
  checkF (k:Int) (ReduceF ((treeF b.next).paths.getD s ⟨#[]⟩ ++ InverseF ca.stem))=0∧(ReduceF ((treeF b.next).paths.getD s ⟨#[]⟩ ++ InverseF ca.stem)).size≤b.next.length+a.next.length ∧
   ∀ l,Rd l→(conjL (k:Int) a (wordF (ReduceF ((treeF b.next).paths.getD s ⟨#[]⟩ ++ InverseF ca.stem))) l↔Run (Dl (k:Int) b) 0 l 0):=by
 have hA:=dl_aut (k:=(k:Int)) (by omega) hc
 have hB:=dl_aut (k:=(k:Int)) (by omega) hd
 have hsl:=kb.lt s hs;have hkk:(1:Int)≤k∧(k:Int)≤8:=by omega
 obtain⟨_,_,n1,n2,_⟩:=check_spec hc;obtain⟨_,_,m1,m2,_⟩:=check_spec hd;obtain⟨p,hp,hst⟩:=ka.stem;have hq:=path_runs (k:=(k:Int)) (by omega) hd _ s hsl (Nat.le_refl _)
 have hpl:=run_let hp;have plet:LetB (2*(k:Int).toNat) ca.stem.data.toList:=fun c hcm=>by
  rw[hst,lets_list]at hcm;obtain⟨x,hx,rfl⟩:=List.mem_map.1 hcm;exact⟨x,hpl x hx,rfl⟩
 have hsh:=ka.short;have pchk:checkF (k:Int) ca.stem=0:=check_of hkk (by omega) plet
 obtain⟨ichk,isz⟩:=check_inv pchk;obtain⟨hT,_,hseen⟩:=tree_ok (k:=(k:Int)) (by omega) hd
 have hps:((treeF b.next).paths.getD s ⟨#[]⟩).size≤b.next.length:=by
  have hpl:s<(treeF b.next).paths.length:=by rw[hT.len];exact hsl
  have hm:(treeF b.next).paths.getD s ⟨#[]⟩∈(treeF b.next).paths:=by
   rw[List.getD_eq_getElem?_getD,List.getElem?_eq_getElem hpl];exact List.getElem_mem hpl
  have h1:=hT.small _ hm;have h2:=hT.seen;omega
 have qchk:checkF (k:Int) ((treeF b.next).paths.getD s ⟨#[]⟩)=0:=check_of hkk (by omega) (path_let (by omega) hd hsl)
 have ychk:=check_cat qchk ichk (by omega)
 obtain⟨x1,x2,x3⟩:=word_reduce hkk ychk;have hysz:((treeF b.next).paths.getD s ⟨#[]⟩ ++ InverseF ca.stem).size=((treeF b.next).paths.getD s ⟨#[]⟩).size+(InverseF ca.stem).size:=ByteArray.size_append ..;refine⟨x1,by omega,fun l hl=>?_⟩
 rw[x2]
 -- the word in the free group
 obtain⟨h8,_⟩:=check8 pchk;have hpraw:rawF ca.stem=p:=by rw[hst];exact lets_raw fun x hx=>by have:=hpl x hx;omega
 have hw:Same (wordF ((treeF b.next).paths.getD s ⟨#[]⟩ ++ InverseF ca.stem)) (pathR' (treeF b.next) s ++ inv p):=by
  obtain⟨g1,g2⟩:=word_inv (good_word pchk) h8;refine(word_app (good_word qchk) g1).trans ((same_raw (good_word qchk)).app (g2.trans ?_));have:=(same_raw (good_word pchk)).inv
  rwa [hpraw]at this
 generalize wordF ((treeF b.next).paths.getD s ⟨#[]⟩ ++ InverseF ca.stem)=u at hw;generalize pathR' (treeF b.next) s=q at hq hw;have hcongr:∀ h:List Nat,Same (u ++ h ++ inv u) (q ++ (inv p ++ h ++ p) ++ inv q):=fun h=>by
  have h1:=(hw.app (Same.refl h)).app hw.inv;refine h1.trans ?_;rw[inv_app,inv_inv];have:q ++ inv p ++ h ++ (p ++ inv q)=q ++ (inv p ++ h ++ p) ++ inv q:=by simp[List.append_assoc]
  rw[this];exact Same.refl _
 constructor
 ·rintro⟨h,h1,h2⟩
  have hg:=(((hp.rev hA.inv).app h1).app hp).rd hA;have hg1:=ka.of.stay hA _ _ _ (rd_rd _) hg ka.of.base ka.of.base;have hg2:=hI.loop hg1;have hg3:Run (Dl (k:Int) b) s (rd (inv p ++ h ++ p)) s:=hg2.map fun _ _ _ h=>h.1
  have hg4:=((hq.app hg3).app (hq.rev hB.inv)).rd hB;have he:l=rd (q ++ rd (inv p ++ h ++ p) ++ inv q):=by
   rw[← hl.self];refine(Same.rd_eq (h2.symm.trans ((hcongr h).trans ?_)));exact((Same.refl q).app (same_rd _).symm).app (Same.refl _)
  rw[he];exact hg4
 ·intro h1;have hg:=(((hq.rev hB.inv).app h1).app hq).rd hB;have hg1:=kb.of.stay hB _ _ _ (rd_rd _) hg hs hs;have hg2:=hI.symm.loop hg1;have hg3:Run (Dl (k:Int) a) ca.base (rd (inv q ++ l ++ q)) ca.base:=hg2.map fun _ _ _ h=>h.1
  refine⟨p ++ rd (inv q ++ l ++ q) ++ inv p,(hp.app hg3).app (hp.rev hA.inv),(hcongr _).trans ?_⟩;have h3:Same (inv p ++ (p ++ rd (inv q ++ l ++ q) ++ inv p) ++ p) (inv q ++ l ++ q):=(same_conj p _).trans (same_rd _);exact(((Same.refl q).app h3).app (Same.refl _)).trans (same_conj' q l)
end Go.Proofs.YtffdjfkekdoeaaaDoor.Fo
end
section
namespace Go.Proofs.YtffdjfkekdoeaaaDoor.Pl
open Fo Rf Wd
theorem rank_max {δ:Nat→Nat→Nat→Prop}{C:Nat→Prop}{rk:Nat→Nat}{T:Nat}(hC:∀ v,C v↔T≤rk v)(hu:∀ v x x' t t',¬ C v→δ v x t→δ v x' t'→rk v≤rk t→rk v≤rk t'→x=x')
  {S:Nat→Nat→Nat→Prop} (hi:∀ s x t,S s x t→S t (x ^^^ 1) s) (h2:∀ s x t,S s x t→∃ x' t',x'≠x∧S s x' t') (hS:∀ s x t,S s x t→δ s x t):∀ (n s x t:Nat),rk s≤n→S s x t→C s:=by
 intro n;induction n with
 | zero=>
  intro s x t hn hs
  by_cases hc:C s
  ·exact hc
  obtain⟨x',t',hne,hs'⟩:=h2 s x t hs;exact absurd (hu s x x' t t' hc (hS _ _ _ hs) (hS _ _ _ hs') (by omega) (by omega)) (fun he=>hne he.symm)
 | succ n ih=>
  intro s x t hn hs
  by_cases hc:C s
  ·exact hc
  obtain⟨x',t',hne,hs'⟩:=h2 s x t hs;have hT:¬ T≤rk s:=fun h=>hc ((hC s).2 h)
  rcases Nat.lt_or_ge (rk t) (rk s) with h3|h3
  ·have:=(hC t).1 (ih t _ s (by omega) (hi _ _ _ hs));omega
  ·rcases Nat.lt_or_ge (rk t') (rk s) with h4|h4
   ·have:=(hC t').1 (ih t' _ s (by omega) (hi _ _ _ hs'));omega
   ·exact absurd (hu s x x' t t' hc (hS _ _ _ hs) (hS _ _ _ hs') h3 h4) (fun he=>hne he.symm)
theorem split_end {γ:Nat→Nat→Nat→Prop}(hi:∀ s x t,γ s x t→γ t (x ^^^ 1) s):∀ (n:Nat)(v:List Nat)(b:Nat),v.length=n→∃ v1 v2 s',v=v1 ++ v2∧Run γ s' v2 b∧∀ y t,v1.getLast? = some y→¬ γ s' (y ^^^ 1) t
 | 0,v,b,h=>⟨[],[],b,by rw[List.length_eq_zero_iff.1 h];rfl,.nil b,fun y t hy=>by simp at hy⟩
 | n+1,v,b,h=>by
  have hne:v≠[]:=fun he=>by rw[he]at h;simp at h
  obtain⟨w,y,rfl⟩:∃ w y,v=w ++ [y]:=⟨v.dropLast,v.getLast hne,(List.dropLast_concat_getLast hne).symm⟩
  by_cases hx:∃ t,γ b (y ^^^ 1) t
  ·obtain⟨t,ht⟩:=hx;obtain⟨v1,v2,s',h1,h2,h3⟩:=split_end hi n w t (by simpa using h)
   have hy:=hi _ _ _ ht;rw[xor_two]at hy;exact⟨v1,v2 ++ [y],s',by rw[h1,List.append_assoc],h2.app (.one hy),h3⟩
  ·refine⟨w ++ [y],[],b,by simp,.nil b,fun z t hz=>?_⟩
   simp only[List.getLast?_append,List.getLast?_singleton,Option.some_or,Option.some.injEq]at hz;subst hz;exact fun h=>hx ⟨t,h⟩
theorem Rd_at:∀ {l:List Nat}{i y z:Nat},Rd l→l[i]? = some y→l[i+1]? = some z→z≠y ^^^ 1
 | [],i,y,z,_,h,_=>by simp at h
 | [x],0,y,z,_,_,h=>by simp at h
 | [x],i+1,y,z,_,h,_=>by simp at h
 | a :: b :: l,0,y,z,h,h1,h2=>by
  simp at h1 h2;subst h1;subst h2;exact h.1
 | a :: b :: l,i+1,y,z,h,h1,h2=>Rd_at (l:=b :: l) h.2 (by simpa using h1) (by simpa using h2)
section
variable {u:List Nat} {γ:Nat→Nat→Nat→Prop}
theorem conjD_inv (hi:∀ s x t,γ s x t→γ t (x ^^^ 1) s):∀ p x q,conjD u γ p x q→conjD u γ q (x ^^^ 1) p:=fun p x q h=>by
 rcases h with ⟨h1,rfl⟩|⟨y,h1,rfl,rfl⟩|⟨h1,h2,h3⟩
 ·exact .inr (.inl ⟨x,h1,rfl,rfl⟩)
 ·exact .inl ⟨by rw[xor_two];exact h1,rfl⟩
 ·exact .inr (.inr ⟨h2,h1,hi _ _ _ h3⟩)
theorem conjD_aut (hA:Aut' γ)(hr:Rd u)(hm:∀ y t,u.getLast? = some y→¬ γ 0 (y ^^^ 1) t):Aut' (conjD u γ):=by
 have lt:∀ {i x:Nat},u[i]? = some x→i<u.length:=fun h=>(List.getElem?_eq_some_iff.1 h).1
 have last:∀ {i y:Nat},u[i]? = some y→i+1=u.length→u.getLast? = some y:=fun {i y} h he=>by
  rw[List.getLast?_eq_getElem?,show u.length-1=i by omega];exact h
 refine⟨fun s x t t' h h'=>?_,conjD_inv hA.inv⟩
 rcases h with ⟨h1,rfl⟩|⟨y,h1,rfl,rfl⟩|⟨h1,h2,h3⟩ <;> rcases h' with ⟨k1,e1⟩|⟨y',k1,e1,e2⟩|⟨k1,k2,k3⟩
 ·exact e1.symm
 ·subst e2;exact absurd e1 (Rd_at hr k1 h1)
 ·have:=lt h1;omega
 ·subst e1;exact absurd rfl (Rd_at hr h1 k1)
 ·omega
 ·have hl:=lt h1;have hz:t+1-u.length=0:=by omega
  rw[hz]at k3;exact absurd k3 (hm y _ (last h1 (by omega)))
 ·have:=lt k1;omega
 ·subst e1;subst e2;have hl:=lt k1;have hz:t'+1-u.length=0:=by omega
  rw[hz]at h3;exact absurd h3 (hm y' _ (last k1 (by omega)))
 ·have:=hA.det _ _ _ _ h3 k3;omega
theorem conjD_gr (hA:Aut' γ)(hr:Rd u)(hm:∀ y t,u.getLast? = some y→¬ γ 0 (y ^^^ 1) t)(h2:∀ s x t,γ s x t→∃ x' t',x'≠x∧γ s x' t')(h0:∃ x t,γ 0 x t){n:Nat}(hn:∀ s x t,γ s x t→s<n∧t<n):Gr (conjD u γ) 0 (u.length+n):=by
 have lt:∀ {i x:Nat},u[i]? = some x→i<u.length:=fun h=>(List.getElem?_eq_some_iff.1 h).1
 have last:∀ {i y:Nat},u[i]? = some y→i+1=u.length→u.getLast? = some y:=fun {i y} h he=>by
  rw[List.getLast?_eq_getElem?,show u.length-1=i by omega];exact h
 obtain⟨x0,t0,e0⟩:=h0;have n0:=(hn _ _ _ e0).1;refine⟨conjD_aut hA hr hm,fun s x t h hs=>?_,fun s x t h=>?_,by omega⟩
 ·by_cases hl:s<u.length
  · -- on the path
   obtain⟨s1,rfl⟩:∃ s1,s=s1+1:=⟨s-1,by omega⟩
   have g1:u[s1]? = some u[s1]:=List.getElem?_eq_getElem (by omega)
   have g2:u[s1+1]? = some u[s1+1]:=List.getElem?_eq_getElem hl;have hne:=Rd_at hr g1 g2;have f1:conjD u γ (s1+1) (u[s1+1]) (s1+2):=.inl ⟨g2,rfl⟩;have f2:conjD u γ (s1+1) (u[s1] ^^^ 1) s1:=.inr (.inl ⟨_,g1,rfl,rfl⟩)
   by_cases hx:x=u[s1+1]
   ·exact⟨_,_,fun he=>hne (by rw[← hx,← he]),f2⟩
   ·exact⟨_,_,fun he=>hx he.symm,f1⟩
  ·rcases h with ⟨h1,rfl⟩|⟨y,h1,rfl,rfl⟩|⟨h1,h3,h4⟩
   ·have:=lt h1;omega
   ·have hl2:=lt h1;have hz:t+1-u.length=0:=by omega
    refine⟨x0,u.length+t0,fun he=>?_,.inr (.inr ⟨by omega,by omega,by rw[hz,Nat.add_sub_cancel_left];exact e0⟩)⟩
    rw[he]at e0;exact hm y _ (last h1 (by omega)) e0
   ·obtain⟨x',t',hne,h5⟩:=h2 _ _ _ h4;exact⟨x',u.length+t',hne,.inr (.inr ⟨h1,by omega,by rw[Nat.add_sub_cancel_left];exact h5⟩)⟩
 ·rcases h with ⟨h1,rfl⟩|⟨y,h1,rfl,rfl⟩|⟨h1,h3,h4⟩
  ·have:=lt h1;omega
  ·have:=lt h1;omega
  ·have:=hn _ _ _ h4;omega
theorem line_run:∀ (i:Nat),i≤u.length→Run (conjD u γ) 0 (u.take i) i
 | 0,_=>by rw[List.take_zero];exact .nil 0
 | i+1,hi=>by
  have hx:u[i]? = some u[i]:=List.getElem?_eq_getElem (by omega)
  rw[take_at hx];exact(line_run i (by omega)).app (.one (.inl ⟨hx,rfl⟩))
theorem line_out {S:Nat→Nat→Nat→Prop}(hi:∀ s x t,S s x t→S t (x ^^^ 1) s)(h2:∀ s x t,S s x t→∃ x' t',x'≠x∧S s x' t')(hS:∀ s x t,S s x t→conjD u γ s x t){s x t:Nat}(hs:S s x t):u.length≤s∧u.length≤t:=by
 have lt:∀ {i x:Nat},u[i]? = some x→i<u.length:=fun h=>(List.getElem?_eq_some_iff.1 h).1
 have key:=rank_max (δ:=conjD u γ) (C:=fun v=>u.length≤v) (rk:=fun v=>if v<u.length then v else u.length) (T:=u.length) (fun v=>by by_cases h:v<u.length <;> simp[h] <;> omega) (fun v x x' t t' hv h h' hr hr'=>by
  have hv:v<u.length:=by omega
  rw[if_pos hv]at hr hr';have one:∀ {x t},conjD u γ v x t→v≤(if t<u.length then t else u.length)→u[v]? = some x:=fun {x t} h hr=>by
   rcases h with ⟨h1,_⟩|⟨y,h1,rfl,rfl⟩|⟨h1,_⟩
   ·exact h1
   ·rw[if_pos (by have:=lt h1;omega)]at hr;omega
   ·omega
  have e1:=one h hr;have e2:=one h' hr';rw[e1]at e2;exact Option.some.inj e2) hi h2 hS
 exact⟨key _ s x t (Nat.le_refl _) hs,key _ t _ s (Nat.le_refl _) (hi _ _ _ hs)⟩
theorem rch_run {δ:Nat→Nat→Nat→Prop}{r:Nat}:∀ {l:List Nat}{s t:Nat},Rch δ r s→Run δ s l t→Rch δ r t
 | [],s,t,hs,h=>by cases h;exact hs
 | x :: l,s,t,hs,h=>by
  cases h with
  | cons h1 h2=>
   obtain⟨l',g1,g2⟩:=hs;exact rch_run (reach_step g1 g2 h1) h2
theorem rch_nil {δ:Nat→Nat→Nat→Prop}{r:Nat}:Rch δ r r:=⟨[],.nil,by simp[Simp]⟩
end
end Go.Proofs.YtffdjfkekdoeaaaDoor.Pl
end
section
namespace Go.Proofs.YtffdjfkekdoeaaaDoor.Fo
open Fw Wd Rf Pl
def sw (r v:Nat):Nat:=if v=0 then r else if v=r then 0 else v
theorem sw_sw (r v:Nat):sw r (sw r v)=v:=by
 unfold sw
 by_cases h:v=0
 ·subst h;rw[if_pos rfl]
  by_cases hr:r=0
  ·rw[if_pos hr];exact hr
  ·rw[if_neg hr,if_pos rfl]
 ·rw[if_neg h]
  by_cases hv:v=r
  ·rw[if_pos hv,if_pos rfl];exact hv.symm
  ·rw[if_neg hv,if_neg h,if_neg hv]
theorem conj_core {k:Nat}(hk:1≤k∧k≤8){a c:Aut}(hc:a.check (k:Int)=0)(hd:c.check (k:Int)=0){ca cc:Co}(ka:CoreK (k:Int) a ca)(kc:CoreK (k:Int) c cc){u:List Nat}
  (hconj:∀ l,Rd l→(conjL (k:Int) a u l↔Run (Dl (k:Int) c) 0 l 0)):∃ s,inC cc s∧PIso (cD (Dl (k:Int) a) (inC ca)) (cD (Dl (k:Int) c) (inC cc)) ca.base s:=by
 have hA:=dl_aut (k:=(k:Int)) (by omega) hc
 have hB:=dl_aut (k:=(k:Int)) (by omega) hd
 obtain⟨p,hp,_⟩:=ka.stem;obtain⟨p',hp',_⟩:=kc.stem;have aG:Aut' (cD (Dl (k:Int) a) (inC ca)):=cD_aut hA;have gRun:∀ {l s t},Run (cD (Dl (k:Int) a) (inC ca)) s l t→Run (Dl (k:Int) a) s l t:=fun h=>h.map fun _ _ _ h=>h.1
 generalize hγ:cD (Dl (k:Int) a) (inC ca)=γ at *;have γtwo:∀ s x t,γ s x t→∃ x' t',x'≠x∧γ s x' t':=fun s x t h=>by rw[← hγ]at h ⊢;exact ka.of.two h
 have γin:∀ s x t,γ s x t→inC ca s∧inC ca t:=fun s x t h=>by rw[← hγ]at h;exact⟨h.2.1,h.2.2⟩
 have γconn:∀ v,inC ca v→∃ l,Rd l∧Run γ ca.base l v:=fun v hv=>by rw[← hγ];exact ka.conn v hv
 have γstay:∀ l s t,Rd l→Run (Dl (k:Int) a) s l t→inC ca s→inC ca t→Run γ s l t:=fun l s t h1 h2 h3 h4=>by rw[← hγ];exact ka.of.stay hA l s t h1 h2 h3 h4
 have runC:∀ {l s t},inC ca s→Run γ s l t→inC ca t:=fun {l s t} hs h=>by rw[← hγ]at h;exact run_in hs h
 by_cases hex:∃ s x t,γ s x t
 case neg=>
  -- no edges on either side
  have no:∀ s x t,¬ γ s x t:=fun s x t h=>hex ⟨s,x,t,h⟩
  refine⟨cc.base,kc.of.base,fun v w=>v=ca.base∧w=cc.base,⟨fun s w w' h h'=>h.2.trans h'.2.symm,fun s s' w h h'=>h.1.trans h'.1.symm,fun s w x t hp hd=>absurd hd (no _ _ _),fun s w x t ⟨_,hw⟩ hd=>?_⟩,rfl,rfl⟩
  exfalso
  subst hw
  -- a loop that is not trivial
  have hG:Gr (cD (Dl (k:Int) c) (inC cc)) cc.base c.next.length:=⟨cD_aut hB,fun s x t h _=>kc.of.two h,fun s x t h=>⟨kc.lt _ h.2.1,kc.lt _ h.2.2⟩,kc.lt _ kc.of.base⟩
  obtain⟨q,g1,g2⟩:=close hG _ cc.base [] x t (Nat.le_refl _) .nil (by simp[Simp]) hd (fun y v h=>by simp at h)
  have g3:Run (Dl (k:Int) c) cc.base ([x] ++ q) cc.base:=((Run.one hd).app g2).map fun _ _ _ h=>h.1
  have g4:=((hp'.app g3).app (hp'.rev hB.inv)).rd hB;obtain⟨h,h1,h2⟩:=(hconj _ (rd_rd _)).2 g4;have h3:=(((hp.rev hA.inv).app h1).app hp).rd hA;have h4:=γstay _ _ _ (rd_rd _) h3 ka.of.base ka.of.base;have h5:rd (inv p ++ h ++ p)=[]:=by
   generalize rd (inv p ++ h ++ p)=z at h4;cases h4 with
   | nil=>rfl
   | cons h _=>exact absurd h (no _ _ _)
  have s1:Same (inv p ++ h ++ p) []:=(same_rd _).symm.trans (by rw[h5];exact Same.refl _)
  have s2:Same h []:=by
   have:=((Same.refl p).app s1).app (Same.refl (inv p));refine((same_conj' p h).symm.trans this).trans ?_;rw[List.append_nil];exact same_inv p
  have s3:Same (u ++ h ++ inv u) []:=(same_mid s2 (inv u)).trans (same_inv u);have s4:Same (p' ++ ([x] ++ q) ++ inv p') []:=(same_rd _).symm.trans (h2.symm.trans s3);have s5:Same ([x] ++ q) []:=by
   have:=((Same.refl (inv p')).app s4).app (Same.refl p');refine((same_conj p' _).symm.trans this).trans ?_;rw[List.append_nil];exact same_inv' p'
  have g5:Rd ([x] ++ q):=by simpa[word] using g1
  have:=s5.rd_eq;rw[g5.self]at this;simp[rd,act]at this
 -- every vertex of the core has an edge
 have edge:∀ v,inC ca v→∃ x t,γ v x t:=fun v hv=>by
  obtain⟨s,x,t,h⟩:=hex;obtain⟨l1,_,r1⟩:=γconn v hv;obtain⟨l2,_,r2⟩:=γconn s (γin _ _ _ h).1;have hr:=(r1.rev aG.inv).app r2;generalize inv l1 ++ l2=l at hr;cases hr with
  | nil=>exact⟨x,t,h⟩
  | cons h1 _=>exact⟨_,_,h1⟩
 obtain⟨v1,v2,r,hv,hr2,hmax⟩:=split_end aG.inv _ (rd (u ++ p)) ca.base rfl;have hv1:Rd v1:=Rd_pre (b:=v2) (by rw[← hv];exact rd_rd _)
 have hr:inC ca r:=runC ka.of.base (hr2.rev aG.inv)
 -- the core,numbered so that r is 0
 let γ0:Nat→Nat→Nat→Prop:=fun s x t=>γ (sw r s) x (sw r t)
 have aG0:Aut' γ0:=⟨fun s x t t' h h'=>by
  have:=aG.det _ _ _ _ h h';have e:=congrArg (sw r) this
  rwa [sw_sw,sw_sw]at e,fun s x t h=>aG.inv _ _ _ h⟩
 have sw0:sw r 0=r:=rfl;have hm0:∀ y t,v1.getLast? = some y→¬ γ0 0 (y ^^^ 1) t:=fun y t hy h=>hmax y _ hy h
 have two0:∀ s x t,γ0 s x t→∃ x' t',x'≠x∧γ0 s x' t':=fun s x t h=>by
  obtain⟨x',t',h1,h2⟩:=γtwo _ _ _ h;exact⟨x',sw r t',h1,by show γ (sw r s) x' (sw r (sw r t'));rw[sw_sw];exact h2⟩
 have e0:∃ x t,γ0 0 x t:=by
  obtain⟨x,t,h⟩:=edge r hr;exact⟨x,sw r t,by show γ (sw r 0) x (sw r (sw r t));rw[sw_sw];exact h⟩
 have hn0:∀ s x t,γ0 s x t→s<a.next.length∧t<a.next.length:=fun s x t h=>by
  obtain⟨h1,h2⟩:=γin _ _ _ h;have hrl:=ka.lt r hr;have key:∀ z,inC ca (sw r z)→z<a.next.length:=fun z hz=>by
   have:=ka.lt _ hz;unfold sw at this;split at this
   ·omega
   ·split at this
    ·omega
    ·exact this
  exact⟨key s h1,key t h2⟩
 have hGZ:=conjD_gr aG0 hv1 hm0 two0 e0 hn0;have to0:∀ {l s t},Run γ s l t→Run γ0 (sw r s) l (sw r t):=fun h=>h.mono (f:=sw r) fun s x t h=>by show γ (sw r (sw r s)) x (sw r (sw r t));rw[sw_sw,sw_sw];exact h
 have of0:∀ {l s t},Run γ0 s l t→Run γ (sw r s) l (sw r t):=fun h=>h.mono (f:=sw r) fun s x t h=>h
 have swr:sw r r=0:=by unfold sw;split;next h=>exact h
                       next h=>rw[if_pos rfl]
 -- what both read
 have hup:Same (u ++ p) (v1 ++ v2):=by rw[← hv];exact(same_rd _).symm
 have hlang:∀ l,Rd l→(Run (conjD v1 γ0) 0 l 0↔Run (Dl (k:Int) c) 0 l 0):=fun l hl=>by
  rw[← lg_det hGZ.aut hl,conj_lang aG0.inv,← hconj l hl];constructor
  ·rintro⟨h,h1,h2⟩
   have h1:=of0 h1;rw[sw0]at h1;have g1:Run γ ca.base (inv v2 ++ h ++ v2) ca.base:=((hr2.rev aG.inv).app h1).app hr2;refine⟨p ++ (inv v2 ++ h ++ v2) ++ inv p,(hp.app (gRun g1)).app (hp.rev hA.inv),?_⟩;refine Same.trans ?_ h2;have e1:u ++ (p ++ (inv v2 ++ h ++ v2) ++ inv p) ++ inv u=(u ++ p) ++ (inv v2 ++ h ++ v2) ++ inv (u ++ p):=by rw[inv_app];simp[List.append_assoc]
   rw[e1];refine((hup.app (Same.refl _)).app hup.inv).trans ?_;have e2:v1 ++ v2 ++ (inv v2 ++ h ++ v2) ++ inv (v1 ++ v2)=v1 ++ (v2 ++ (inv v2 ++ h ++ v2) ++ inv v2) ++ inv v1:=by rw[inv_app];simp[List.append_assoc]
   rw[e2];exact((Same.refl v1).app (same_conj' v2 h)).app (Same.refl _)
  ·rintro⟨H,h1,h2⟩
   have g1:=(((hp.rev hA.inv).app h1).app hp).rd hA;have g2:=γstay _ _ _ (rd_rd _) g1 ka.of.base ka.of.base;have g3:=to0 ((hr2.app g2).app (hr2.rev aG.inv));rw[swr]at g3;refine⟨v2 ++ rd (inv p ++ H ++ p) ++ inv v2,g3,Same.trans ?_ h2⟩;have e1:v1 ++ (v2 ++ rd (inv p ++ H ++ p) ++ inv v2) ++ inv v1=(v1 ++ v2) ++ rd (inv p ++ H ++ p) ++ inv (v1 ++ v2):=by rw[inv_app];simp[List.append_assoc]
   rw[e1];refine((hup.symm.app (same_rd _)).app hup.symm.inv).trans ?_;have e2:u ++ p ++ (inv p ++ H ++ p) ++ inv (u ++ p)=u ++ (p ++ (inv p ++ H ++ p) ++ inv p) ++ inv u:=by rw[inv_app];simp[List.append_assoc]
   rw[e2];exact((Same.refl u).app (same_conj' p H)).app (Same.refl _)
 obtain⟨_,_,m1,m2,_⟩:=check_spec hd;have hGE:Gr (Dl (k:Int) c) 0 c.next.length:=⟨hB,fun s x t h hs=>two_of (by omega) hd h hs,fun s x t h=>⟨h.1,(hB.inv _ _ _ h).1⟩,by omega⟩
 have hP:Pair (conjD v1 γ0) (Dl (k:Int) c) 0 0 (v1.length+a.next.length) c.next.length:=⟨hGZ,hGE,hlang⟩;generalize hτ:to (conjD v1 γ0) (Dl (k:Int) c) 0 0=τ at *
 let e:Nat→Nat:=fun t=>v1.length+sw r t
 have ze:∀ {s x t},γ s x t→conjD v1 γ0 (e s) x (e t):=fun {s x t} h=>.inr (.inr ⟨by show _≤_+_;omega,by show _≤_+_;omega,by
  show γ (sw r (v1.length+sw r s-v1.length)) x (sw r (v1.length+sw r t-v1.length))
  rw[Nat.add_sub_cancel_left,Nat.add_sub_cancel_left,sw_sw,sw_sw];exact h⟩)
 have zr:∀ {l s t},Run γ s l t→Run (conjD v1 γ0) (e s) l (e t):=fun h=>h.mono (f:=e) fun s x t h=>ze h
 have er:e r=v1.length:=by show v1.length+sw r r=_;rw[swr];rfl
 have rch:∀ {v},inC ca v→Rch (conjD v1 γ0) 0 (e v):=fun {v} hv=>by
  have h1:Run (conjD v1 γ0) 0 v1 v1.length:=by
   have:=line_run (u:=v1) (γ:=γ0) v1.length (Nat.le_refl _)
   rwa [List.take_length]at this
  obtain⟨l,_,h2⟩:=γconn v hv;have h3:=zr (hr2.app h2);rw[er]at h3;exact rch_run rch_nil (h1.app h3)
 have step:∀ {v x t},Rch (conjD v1 γ0) 0 v→conjD v1 γ0 v x t→Dl (k:Int) c (τ v) x (τ t):=fun {v x t} hv hx=>by
  have:=hP.step hv hx
  rwa [hτ]at this
 have back:∀ {v x t'},Rch (conjD v1 γ0) 0 v→Dl (k:Int) c (τ v) x t'→∃ t,conjD v1 γ0 v x t∧t'=τ t:=fun {v x t'} hv hx=>by
  have:=hP.back (v:=v) (x:=x) (t':=t') hv (by rw[hτ];exact hx)
  rwa [hτ]at this
 have inj:∀ {v w},Rch (conjD v1 γ0) 0 v→Rch (conjD v1 γ0) 0 w→τ v=τ w→v=w:=fun {v w} hv hw he=>hP.inj hv hw (by rw[hτ];exact he)
 -- the core goes into the core
 have fwd:∀ {s x t},γ s x t→cD (Dl (k:Int) c) (inC cc) (τ (e s)) x (τ (e t)):=fun {s x t} h=>
  kc.of.max (S:=fun w x w'=>∃ s t,γ s x t∧w=τ (e s)∧w'=τ (e t)) (fun w x w' ⟨s,t,h,e1,e2⟩=>⟨t,s,aG.inv _ _ _ h,e2,e1⟩) (fun w x w' ⟨s,t,h,e1,e2⟩=>by
   obtain⟨x',t',h1,h2⟩:=γtwo _ _ _ h;exact⟨x',_,h1,s,t',h2,e1,rfl⟩) (fun w x w' ⟨s,t,h,e1,e2⟩=>by rw[e1,e2];exact step (rch (γin _ _ _ h).1) (ze h)) ⟨s,t,h,rfl,rfl⟩
 have bwd:∀ {s x w},inC ca s→cD (Dl (k:Int) c) (inC cc) (τ (e s)) x w→∃ t,γ s x t∧w=τ (e t):=fun {s x w} hs h=>by
  obtain⟨z,h1,h2⟩:=back (rch hs) h.1;subst h2;have hz:Rch (conjD v1 γ0) 0 z:=rch_run (rch hs) (.one h1);obtain⟨_,hz2⟩:=line_out (u:=v1) (γ:=γ0) (S:=fun y x y'=>conjD v1 γ0 y x y'∧Rch (conjD v1 γ0) 0 y∧Rch (conjD v1 γ0) 0 y'∧cD (Dl (k:Int) c) (inC cc) (τ y) x (τ y')) (fun y x y' ⟨a1,a2,a3,a4⟩=>⟨hGZ.aut.inv _ _ _ a1,a3,a2,(cD_aut hB).inv _ _ _ a4⟩) (fun y x y' ⟨a1,a2,a3,a4⟩=>by
   obtain⟨x',w',b1,b2⟩:=kc.of.two a4;obtain⟨z',b3,b4⟩:=back a2 b2.1;subst b4;exact⟨x',z',b1,b3,a2,rch_run a2 (.one b3),b2⟩) (fun y x y' h=>h.1) ⟨h1,rch hs,hz,h⟩
  have hlt:∀ {i x:Nat},v1[i]? = some x→i<v1.length:=fun h=>(List.getElem?_eq_some_iff.1 h).1
  have hes:v1.length≤e s:=by show _≤_+_;omega
  rcases h1 with ⟨g1,_⟩|⟨y,g1,_,_⟩|⟨g1,g2,g3⟩
  ·have:=hlt g1;omega
  ·have:=hlt g1;omega
  ·refine⟨sw r (z-v1.length),?_,?_⟩
   ·have g3:γ (sw r (v1.length+sw r s-v1.length)) x (sw r (z-v1.length)):=g3;rw[Nat.add_sub_cancel_left,sw_sw]at g3;exact g3
   ·have:e (sw r (z-v1.length))=z:=by
     show v1.length+sw r (sw r (z-v1.length))=z
     rw[sw_sw];omega
    rw[this]
 obtain⟨xb,tb,hb⟩:=edge ca.base ka.of.base;refine⟨τ (e ca.base),(fwd hb).2.1,fun s w=>inC ca s∧w=τ (e s),⟨fun s w w' h h'=>h.2.trans h'.2.symm,fun s s' w ⟨h1,h2⟩ ⟨h3,h4⟩=>?_,fun s w x t ⟨h1,h2⟩ hd=>?_,fun s w x w' ⟨h1,h2⟩ hd=>?_⟩,ka.of.base,rfl⟩
 ·have:=inj (rch h1) (rch h3) (h2.symm.trans h4);have h5:sw r s=sw r s':=by
   have:v1.length+sw r s=v1.length+sw r s':=this;omega
  have h6:=congrArg (sw r) h5
  rwa [sw_sw,sw_sw]at h6
 ·subst h2;exact⟨_,fwd hd,(γin _ _ _ hd).2,rfl⟩
 ·subst h2;obtain⟨t,g1,g2⟩:=bwd h1 hd;exact⟨t,g1,(γin _ _ _ g1).2,g2⟩
end Go.Proofs.YtffdjfkekdoeaaaDoor.Fo
end
section
namespace Go.Proofs.YtffdjfkekdoeaaaDoor
open Fw
noncomputable def fold_Conjugator.ann:Ann where
 loops:=fun | 9=>[(4,.sc .adr),(5,.sc .adr),(10,.sc .adr),(11,.sc .adr),(12,.sc .sl),(36,.sc .sl),(37,.sc (.int .i64)),(38,.sc (.int .i64))] | _=>[]
 joins:=fun | 12=>some [(4,.sc .adr),(5,.sc .adr),(10,.sc .adr),(11,.sc .adr),(12,.sc .sl),(13,.sc (.int .i64)),(36,.sc .sl),(37,.sc (.int .i64)),(38,.sc (.int .i64)),(51,.sc .bool)] | _=>none
noncomputable def fold_Conjugator.body:Code:=match Tryd.f39.body with | some c=>c | none=>.skip
def fold_Conjugator.sh (p0:Int)(p1_0:Int)(p1_1:Int)(p1_2:Sl)(p1_3:Sl)(p2_0:Int)(p2_1:Int)(p2_2:Sl)(p2_3:Sl)(R:Ending→World→Prop)(w:World):Prop:=
 New w (.cells #[(.int .i64 p1_0),(.int .i64 p1_1),(.slice p1_2.a p1_2.n p1_2.c),(.slice p1_3.a p1_3.n p1_3.c)] 27) fun b1 w2=>
 New w2 (.cells #[(.int .i64 p2_0),(.int .i64 p2_1),(.slice p2_2.a p2_2.n p2_2.c),(.slice p2_3.a p2_3.n p2_3.c)] 27) fun b3 w4=>
 LoadT (.agg [.int .i64,.int .i64,.sl,.sl]) w4 (Addr.mk b1 0 none) fun x5=>
 LoadT (.agg [.int .i64,.int .i64,.sl,.sl]) w4 (Addr.mk b3 0 none) fun x6=>
 New w4 (.cells #[(.int .i64 x5.1),(.int .i64 x5.2.1),(.slice x5.2.2.1.a x5.2.2.1.n x5.2.2.1.c),(.slice x5.2.2.2.1.a x5.2.2.2.1.n x5.2.2.2.1.c),(.int .i64 x6.1),(.int .i64 x6.2.1),(.slice x6.2.2.1.a x6.2.2.1.n x6.2.2.1.c),(.slice x6.2.2.2.1.a x6.2.2.2.1.n x6.2.2.2.1.c)] 27) fun b7 w8=>
 CallT Tryd.prog 55 #[(.int .i64 p0),(.slice (some (Addr.mk b7 0 none)) 2 2),(.slice none 0 0)] (.sc (.int .i64)) w8 (fun r9 w10=>
 Br ((r9:Int) != 0)
 (R (.returned (.tuple #[(.string (ByteArray.mk #[])),(.bool false),(.int .i64 r9)])) w10)
 (∃ S12:World→Prop,S12 w10.drew ∧
 (LoadS S12 (.agg [.int .i64,.int .i64,.sl,.sl]) (Addr.mk b1 0 none) fun x13=>
 LoadS S12 (.agg [.int .i64,.int .i64,.sl,.sl]) (Addr.mk b3 0 none) fun x14=>
 (CallT Tryd.prog 73 #[(.agg #[(.int .i64 x13.1),(.int .i64 x13.2.1),(.slice x13.2.2.1.a x13.2.2.1.n x13.2.2.1.c),(.slice x13.2.2.2.1.a x13.2.2.2.1.n x13.2.2.2.1.c)])] (.agg [.sl,.int .i64,.int .i64,.str]) w10.drew (fun r15 w16=>
 S12 w16 ∧
 ((CallT Tryd.prog 73 #[(.agg #[(.int .i64 x14.1),(.int .i64 x14.2.1),(.slice x14.2.2.1.a x14.2.2.1.n x14.2.2.1.c),(.slice x14.2.2.2.1.a x14.2.2.2.1.n x14.2.2.2.1.c)])] (.agg [.sl,.int .i64,.int .i64,.str]) w16 (fun r18 w19=>
 S12 w19 ∧
 ((New w19 (.cells #[(.slice none 0 0),(.int .i64 0),(.int .i64 0),(.string (ByteArray.mk #[]))] 115) fun b21 w22=>
 S12 w22 ∧
 (New w22 (.cells #[(.slice none 0 0),(.int .i64 0),(.int .i64 0),(.string (ByteArray.mk #[]))] 115) fun b23 w24=>
 S12 w24 ∧
 (StoreN w24 (Addr.mk b21 0 none) [(.slice r15.1.a r15.1.n r15.1.c),(.int .i64 r15.2.1),(.int .i64 r15.2.2.1),(.string r15.2.2.2.1)] fun w25=>
 S12 w25 ∧
 (StoreN w25 (Addr.mk b23 0 none) [(.slice r18.1.a r18.1.n r18.1.c),(.int .i64 r18.2.1),(.int .i64 r18.2.2.1),(.string r18.2.2.2.1)] fun w26=>
 LoadT (.sc (.int .i64)) w26 ((Addr.mk b21 0 none).add 1) fun x27=>
 LoadT (.sc (.int .i64)) w26 ((Addr.mk b23 0 none).add 1) fun x28=>
 Br ((x27:Int) != x28)
 (R (.returned (.tuple #[(.string (ByteArray.mk #[])),(.bool false),(.int .i64 0)])) w26)
 (LoadT (.agg [.int .i64,.int .i64,.sl,.sl]) w26 (Addr.mk b3 0 none) fun x29=>
 CallT Tryd.prog 56 #[(.agg #[(.int .i64 x29.1),(.int .i64 x29.2.1),(.slice x29.2.2.1.a x29.2.2.1.n x29.2.2.1.c),(.slice x29.2.2.2.1.a x29.2.2.2.1.n x29.2.2.2.1.c)])] (.agg [.sl,.map,.sl]) w26 (fun r30 w31=>
 LoadT (.sc .sl) w31 ((Addr.mk b23 0 none).add 0) fun x33=>
 LoopT (σ:=Addr × Addr × Addr × Addr × Sl × Sl × Int × Int × Unit) ((Addr.mk b1 0 none),(Addr.mk b3 0 none),(Addr.mk b21 0 none),(Addr.mk b23 0 none),r30.1,x33,((x33.n:Nat):Int),0,()) w31 fun l34 g35 w36 I37=>
 Br (decide ((l34.2.2.2.2.2.2.2.1:Int)<l34.2.2.2.2.2.2.1))
 (Idx l34.2.2.2.2.2.1.a l34.2.2.2.2.2.1.n 1 l34.2.2.2.2.2.2.2.1 fun a38=>
 LoadT (.sc .bool) w36 a38 fun x39=>
 Join (σ:=Addr × Addr × Addr × Addr × Sl × Int × Sl × Int × Int × Bool × Unit) (fun j42 g41 w50=>
 Br j42.2.2.2.2.2.2.2.2.2.1
 (∃ S51:World→Prop,S51 w50.drew ∧
 (Idx j42.2.2.2.2.1.a j42.2.2.2.2.1.n 1 j42.2.2.2.2.2.1 fun a52=>
 LoadS S51 (.sc .str) a52 fun x53=>
 LoadS S51 (.sc .str) (j42.2.2.1.add 3) fun x54=>
 CallT Tryd.prog 75 #[(.string x54)] (.sc .str) w50.drew (fun r55 w56=>
 S51 w56 ∧
 ((((x53.size+r55.size:Nat):Int)≤9223372036854775807) ∧
 CallT Tryd.prog 48 #[(.string (x53 ++ r55))] (.sc .str) w56 (fun r58 w59=>
 S51 w59 ∧
 (R (.returned (.tuple #[(.string r58),(.bool true),(.int .i64 0)])) w59)) (fun h60 w59=>R (.panicked h60) w59))) (fun h57 w56=>R (.panicked h57) w56)))
 (I37 (j42.1,j42.2.1,j42.2.2.1,j42.2.2.2.1,j42.2.2.2.2.1,j42.2.2.2.2.2.2.1,j42.2.2.2.2.2.2.2.1,(IntKind.wrap .i64 (j42.2.2.2.2.2.2.2.2.1+1)),()) w50)) fun J40=>
 Br x39
 (LoadT (.agg [.int .i64,.int .i64,.sl,.sl]) w36 l34.1 fun x43=>
 LoadT (.agg [.int .i64,.int .i64,.sl,.sl]) w36 l34.2.1 fun x44=>
 LoadT (.agg [.sl,.int .i64,.int .i64,.str]) w36 l34.2.2.1 fun x45=>
 LoadT (.agg [.sl,.int .i64,.int .i64,.str]) w36 l34.2.2.2.1 fun x46=>
 CallT Tryd.prog 74 #[(.agg #[(.int .i64 x43.1),(.int .i64 x43.2.1),(.slice x43.2.2.1.a x43.2.2.1.n x43.2.2.1.c),(.slice x43.2.2.2.1.a x43.2.2.2.1.n x43.2.2.2.1.c)]),(.agg #[(.int .i64 x44.1),(.int .i64 x44.2.1),(.slice x44.2.2.1.a x44.2.2.1.n x44.2.2.1.c),(.slice x44.2.2.2.1.a x44.2.2.2.1.n x44.2.2.2.1.c)]),(.agg #[(.slice x45.1.a x45.1.n x45.1.c),(.int .i64 x45.2.1),(.int .i64 x45.2.2.1),(.string x45.2.2.2.1)]),(.agg #[(.slice x46.1.a x46.1.n x46.1.c),(.int .i64 x46.2.1),(.int .i64 x46.2.2.1),(.string x46.2.2.2.1)]),(.int .i64 l34.2.2.2.2.2.2.2.1)] (.sc .bool) w36 (fun r47 w48=>
 J40 (l34.1,l34.2.1,l34.2.2.1,l34.2.2.2.1,l34.2.2.2.2.1,l34.2.2.2.2.2.2.2.1,l34.2.2.2.2.2.1,l34.2.2.2.2.2.2.1,l34.2.2.2.2.2.2.2.1,r47,()) w48) (fun h49 w48=>R (.panicked h49) w48))
 (J40 (l34.1,l34.2.1,l34.2.2.1,l34.2.2.2.1,l34.2.2.2.2.1,l34.2.2.2.2.2.2.2.1,l34.2.2.2.2.2.1,l34.2.2.2.2.2.2.1,l34.2.2.2.2.2.2.2.1,false,()) w36))
 (R (.returned (.tuple #[(.string (ByteArray.mk #[])),(.bool false),(.int .i64 0)])) w36)) (fun h32 w31=>R (.panicked h32) w31)))))) ∧
 (New w19 (.cells #[(.slice none 0 0),(.int .i64 0),(.int .i64 0),(.string (ByteArray.mk #[]))] 115) fun b61 w62=>
 S12 w62 ∧
 (New w62 (.cells #[(.slice none 0 0),(.int .i64 0),(.int .i64 0),(.string (ByteArray.mk #[]))] 115) fun b63 w64=>
 S12 w64 ∧
 (StoreN w64 (Addr.mk b63 0 none) [(.slice r15.1.a r15.1.n r15.1.c),(.int .i64 r15.2.1),(.int .i64 r15.2.2.1),(.string r15.2.2.2.1)] fun w65=>
 S12 w65 ∧
 (StoreN w65 (Addr.mk b61 0 none) [(.slice r18.1.a r18.1.n r18.1.c),(.int .i64 r18.2.1),(.int .i64 r18.2.2.1),(.string r18.2.2.2.1)] fun w66=>
 LoadT (.sc (.int .i64)) w66 ((Addr.mk b63 0 none).add 1) fun x67=>
 LoadT (.sc (.int .i64)) w66 ((Addr.mk b61 0 none).add 1) fun x68=>
 Br ((x67:Int) != x68)
 (R (.returned (.tuple #[(.string (ByteArray.mk #[])),(.bool false),(.int .i64 0)])) w66)
 (LoadT (.agg [.int .i64,.int .i64,.sl,.sl]) w66 (Addr.mk b3 0 none) fun x69=>
 CallT Tryd.prog 56 #[(.agg #[(.int .i64 x69.1),(.int .i64 x69.2.1),(.slice x69.2.2.1.a x69.2.2.1.n x69.2.2.1.c),(.slice x69.2.2.2.1.a x69.2.2.2.1.n x69.2.2.2.1.c)])] (.agg [.sl,.map,.sl]) w66 (fun r70 w71=>
 LoadT (.sc .sl) w71 ((Addr.mk b61 0 none).add 0) fun x73=>
 LoopT (σ:=Addr × Addr × Addr × Addr × Sl × Sl × Int × Int × Unit) ((Addr.mk b1 0 none),(Addr.mk b3 0 none),(Addr.mk b63 0 none),(Addr.mk b61 0 none),r70.1,x73,((x73.n:Nat):Int),0,()) w71 fun l74 g75 w76 I77=>
 Br (decide ((l74.2.2.2.2.2.2.2.1:Int)<l74.2.2.2.2.2.2.1))
 (Idx l74.2.2.2.2.2.1.a l74.2.2.2.2.2.1.n 1 l74.2.2.2.2.2.2.2.1 fun a78=>
 LoadT (.sc .bool) w76 a78 fun x79=>
 Join (σ:=Addr × Addr × Addr × Addr × Sl × Int × Sl × Int × Int × Bool × Unit) (fun j82 g81 w90=>
 Br j82.2.2.2.2.2.2.2.2.2.1
 (∃ S91:World→Prop,S91 w90.drew ∧
 (Idx j82.2.2.2.2.1.a j82.2.2.2.2.1.n 1 j82.2.2.2.2.2.1 fun a92=>
 LoadS S91 (.sc .str) a92 fun x93=>
 LoadS S91 (.sc .str) (j82.2.2.1.add 3) fun x94=>
 CallT Tryd.prog 75 #[(.string x94)] (.sc .str) w90.drew (fun r95 w96=>
 S91 w96 ∧
 ((((x93.size+r95.size:Nat):Int)≤9223372036854775807) ∧
 CallT Tryd.prog 48 #[(.string (x93 ++ r95))] (.sc .str) w96 (fun r98 w99=>
 S91 w99 ∧
 (R (.returned (.tuple #[(.string r98),(.bool true),(.int .i64 0)])) w99)) (fun h100 w99=>R (.panicked h100) w99))) (fun h97 w96=>R (.panicked h97) w96)))
 (I77 (j82.1,j82.2.1,j82.2.2.1,j82.2.2.2.1,j82.2.2.2.2.1,j82.2.2.2.2.2.2.1,j82.2.2.2.2.2.2.2.1,(IntKind.wrap .i64 (j82.2.2.2.2.2.2.2.2.1+1)),()) w90)) fun J80=>
 Br x79
 (LoadT (.agg [.int .i64,.int .i64,.sl,.sl]) w76 l74.1 fun x83=>
 LoadT (.agg [.int .i64,.int .i64,.sl,.sl]) w76 l74.2.1 fun x84=>
 LoadT (.agg [.sl,.int .i64,.int .i64,.str]) w76 l74.2.2.1 fun x85=>
 LoadT (.agg [.sl,.int .i64,.int .i64,.str]) w76 l74.2.2.2.1 fun x86=>
 CallT Tryd.prog 74 #[(.agg #[(.int .i64 x83.1),(.int .i64 x83.2.1),(.slice x83.2.2.1.a x83.2.2.1.n x83.2.2.1.c),(.slice x83.2.2.2.1.a x83.2.2.2.1.n x83.2.2.2.1.c)]),(.agg #[(.int .i64 x84.1),(.int .i64 x84.2.1),(.slice x84.2.2.1.a x84.2.2.1.n x84.2.2.1.c),(.slice x84.2.2.2.1.a x84.2.2.2.1.n x84.2.2.2.1.c)]),(.agg #[(.slice x85.1.a x85.1.n x85.1.c),(.int .i64 x85.2.1),(.int .i64 x85.2.2.1),(.string x85.2.2.2.1)]),(.agg #[(.slice x86.1.a x86.1.n x86.1.c),(.int .i64 x86.2.1),(.int .i64 x86.2.2.1),(.string x86.2.2.2.1)]),(.int .i64 l74.2.2.2.2.2.2.2.1)] (.sc .bool) w76 (fun r87 w88=>
 J80 (l74.1,l74.2.1,l74.2.2.1,l74.2.2.2.1,l74.2.2.2.2.1,l74.2.2.2.2.2.2.2.1,l74.2.2.2.2.2.1,l74.2.2.2.2.2.2.1,l74.2.2.2.2.2.2.2.1,r87,()) w88) (fun h89 w88=>R (.panicked h89) w88))
 (J80 (l74.1,l74.2.1,l74.2.2.1,l74.2.2.2.1,l74.2.2.2.2.1,l74.2.2.2.2.2.2.2.1,l74.2.2.2.2.2.1,l74.2.2.2.2.2.2.1,l74.2.2.2.2.2.2.2.1,false,()) w76))
 (R (.returned (.tuple #[(.string (ByteArray.mk #[])),(.bool false),(.int .i64 0)])) w76)) (fun h72 w71=>R (.panicked h72) w71)))))))) (fun h20 w19=>R (.panicked h20) w19)) ∧
 (New w16 (.cells #[(.slice none 0 0),(.int .i64 0),(.int .i64 0),(.string (ByteArray.mk #[]))] 115) fun b101 w102=>
 S12 w102 ∧
 ((CallT Tryd.prog 73 #[(.agg #[(.int .i64 x14.1),(.int .i64 x14.2.1),(.slice x14.2.2.1.a x14.2.2.1.n x14.2.2.1.c),(.slice x14.2.2.2.1.a x14.2.2.2.1.n x14.2.2.2.1.c)])] (.agg [.sl,.int .i64,.int .i64,.str]) w102 (fun r103 w104=>
 S12 w104 ∧
 (New w104 (.cells #[(.slice none 0 0),(.int .i64 0),(.int .i64 0),(.string (ByteArray.mk #[]))] 115) fun b106 w107=>
 S12 w107 ∧
 (StoreN w107 (Addr.mk b101 0 none) [(.slice r15.1.a r15.1.n r15.1.c),(.int .i64 r15.2.1),(.int .i64 r15.2.2.1),(.string r15.2.2.2.1)] fun w108=>
 S12 w108 ∧
 (StoreN w108 (Addr.mk b106 0 none) [(.slice r103.1.a r103.1.n r103.1.c),(.int .i64 r103.2.1),(.int .i64 r103.2.2.1),(.string r103.2.2.2.1)] fun w109=>
 LoadT (.sc (.int .i64)) w109 ((Addr.mk b101 0 none).add 1) fun x110=>
 LoadT (.sc (.int .i64)) w109 ((Addr.mk b106 0 none).add 1) fun x111=>
 Br ((x110:Int) != x111)
 (R (.returned (.tuple #[(.string (ByteArray.mk #[])),(.bool false),(.int .i64 0)])) w109)
 (LoadT (.agg [.int .i64,.int .i64,.sl,.sl]) w109 (Addr.mk b3 0 none) fun x112=>
 CallT Tryd.prog 56 #[(.agg #[(.int .i64 x112.1),(.int .i64 x112.2.1),(.slice x112.2.2.1.a x112.2.2.1.n x112.2.2.1.c),(.slice x112.2.2.2.1.a x112.2.2.2.1.n x112.2.2.2.1.c)])] (.agg [.sl,.map,.sl]) w109 (fun r113 w114=>
 LoadT (.sc .sl) w114 ((Addr.mk b106 0 none).add 0) fun x116=>
 LoopT (σ:=Addr × Addr × Addr × Addr × Sl × Sl × Int × Int × Unit) ((Addr.mk b1 0 none),(Addr.mk b3 0 none),(Addr.mk b101 0 none),(Addr.mk b106 0 none),r113.1,x116,((x116.n:Nat):Int),0,()) w114 fun l117 g118 w119 I120=>
 Br (decide ((l117.2.2.2.2.2.2.2.1:Int)<l117.2.2.2.2.2.2.1))
 (Idx l117.2.2.2.2.2.1.a l117.2.2.2.2.2.1.n 1 l117.2.2.2.2.2.2.2.1 fun a121=>
 LoadT (.sc .bool) w119 a121 fun x122=>
 Join (σ:=Addr × Addr × Addr × Addr × Sl × Int × Sl × Int × Int × Bool × Unit) (fun j125 g124 w133=>
 Br j125.2.2.2.2.2.2.2.2.2.1
 (∃ S134:World→Prop,S134 w133.drew ∧
 (Idx j125.2.2.2.2.1.a j125.2.2.2.2.1.n 1 j125.2.2.2.2.2.1 fun a135=>
 LoadS S134 (.sc .str) a135 fun x136=>
 LoadS S134 (.sc .str) (j125.2.2.1.add 3) fun x137=>
 CallT Tryd.prog 75 #[(.string x137)] (.sc .str) w133.drew (fun r138 w139=>
 S134 w139 ∧
 ((((x136.size+r138.size:Nat):Int)≤9223372036854775807) ∧
 CallT Tryd.prog 48 #[(.string (x136 ++ r138))] (.sc .str) w139 (fun r141 w142=>
 S134 w142 ∧
 (R (.returned (.tuple #[(.string r141),(.bool true),(.int .i64 0)])) w142)) (fun h143 w142=>R (.panicked h143) w142))) (fun h140 w139=>R (.panicked h140) w139)))
 (I120 (j125.1,j125.2.1,j125.2.2.1,j125.2.2.2.1,j125.2.2.2.2.1,j125.2.2.2.2.2.2.1,j125.2.2.2.2.2.2.2.1,(IntKind.wrap .i64 (j125.2.2.2.2.2.2.2.2.1+1)),()) w133)) fun J123=>
 Br x122
 (LoadT (.agg [.int .i64,.int .i64,.sl,.sl]) w119 l117.1 fun x126=>
 LoadT (.agg [.int .i64,.int .i64,.sl,.sl]) w119 l117.2.1 fun x127=>
 LoadT (.agg [.sl,.int .i64,.int .i64,.str]) w119 l117.2.2.1 fun x128=>
 LoadT (.agg [.sl,.int .i64,.int .i64,.str]) w119 l117.2.2.2.1 fun x129=>
 CallT Tryd.prog 74 #[(.agg #[(.int .i64 x126.1),(.int .i64 x126.2.1),(.slice x126.2.2.1.a x126.2.2.1.n x126.2.2.1.c),(.slice x126.2.2.2.1.a x126.2.2.2.1.n x126.2.2.2.1.c)]),(.agg #[(.int .i64 x127.1),(.int .i64 x127.2.1),(.slice x127.2.2.1.a x127.2.2.1.n x127.2.2.1.c),(.slice x127.2.2.2.1.a x127.2.2.2.1.n x127.2.2.2.1.c)]),(.agg #[(.slice x128.1.a x128.1.n x128.1.c),(.int .i64 x128.2.1),(.int .i64 x128.2.2.1),(.string x128.2.2.2.1)]),(.agg #[(.slice x129.1.a x129.1.n x129.1.c),(.int .i64 x129.2.1),(.int .i64 x129.2.2.1),(.string x129.2.2.2.1)]),(.int .i64 l117.2.2.2.2.2.2.2.1)] (.sc .bool) w119 (fun r130 w131=>
 J123 (l117.1,l117.2.1,l117.2.2.1,l117.2.2.2.1,l117.2.2.2.2.1,l117.2.2.2.2.2.2.2.1,l117.2.2.2.2.2.1,l117.2.2.2.2.2.2.1,l117.2.2.2.2.2.2.2.1,r130,()) w131) (fun h132 w131=>R (.panicked h132) w131))
 (J123 (l117.1,l117.2.1,l117.2.2.1,l117.2.2.2.1,l117.2.2.2.2.1,l117.2.2.2.2.2.2.2.1,l117.2.2.2.2.2.1,l117.2.2.2.2.2.2.1,l117.2.2.2.2.2.2.2.1,false,()) w119))
 (R (.returned (.tuple #[(.string (ByteArray.mk #[])),(.bool false),(.int .i64 0)])) w119)) (fun h115 w114=>R (.panicked h115) w114)))))) (fun h105 w104=>R (.panicked h105) w104)) ∧
 (New w102 (.cells #[(.slice none 0 0),(.int .i64 0),(.int .i64 0),(.string (ByteArray.mk #[]))] 115) fun b144 w145=>
 S12 w145 ∧
 (CallT Tryd.prog 73 #[(.agg #[(.int .i64 x14.1),(.int .i64 x14.2.1),(.slice x14.2.2.1.a x14.2.2.1.n x14.2.2.1.c),(.slice x14.2.2.2.1.a x14.2.2.2.1.n x14.2.2.2.1.c)])] (.agg [.sl,.int .i64,.int .i64,.str]) w145 (fun r146 w147=>
 S12 w147 ∧
 (StoreN w147 (Addr.mk b101 0 none) [(.slice r15.1.a r15.1.n r15.1.c),(.int .i64 r15.2.1),(.int .i64 r15.2.2.1),(.string r15.2.2.2.1)] fun w149=>
 S12 w149 ∧
 (StoreN w149 (Addr.mk b144 0 none) [(.slice r146.1.a r146.1.n r146.1.c),(.int .i64 r146.2.1),(.int .i64 r146.2.2.1),(.string r146.2.2.2.1)] fun w150=>
 LoadT (.sc (.int .i64)) w150 ((Addr.mk b101 0 none).add 1) fun x151=>
 LoadT (.sc (.int .i64)) w150 ((Addr.mk b144 0 none).add 1) fun x152=>
 Br ((x151:Int) != x152)
 (R (.returned (.tuple #[(.string (ByteArray.mk #[])),(.bool false),(.int .i64 0)])) w150)
 (LoadT (.agg [.int .i64,.int .i64,.sl,.sl]) w150 (Addr.mk b3 0 none) fun x153=>
 CallT Tryd.prog 56 #[(.agg #[(.int .i64 x153.1),(.int .i64 x153.2.1),(.slice x153.2.2.1.a x153.2.2.1.n x153.2.2.1.c),(.slice x153.2.2.2.1.a x153.2.2.2.1.n x153.2.2.2.1.c)])] (.agg [.sl,.map,.sl]) w150 (fun r154 w155=>
 LoadT (.sc .sl) w155 ((Addr.mk b144 0 none).add 0) fun x157=>
 LoopT (σ:=Addr × Addr × Addr × Addr × Sl × Sl × Int × Int × Unit) ((Addr.mk b1 0 none),(Addr.mk b3 0 none),(Addr.mk b101 0 none),(Addr.mk b144 0 none),r154.1,x157,((x157.n:Nat):Int),0,()) w155 fun l158 g159 w160 I161=>
 Br (decide ((l158.2.2.2.2.2.2.2.1:Int)<l158.2.2.2.2.2.2.1))
 (Idx l158.2.2.2.2.2.1.a l158.2.2.2.2.2.1.n 1 l158.2.2.2.2.2.2.2.1 fun a162=>
 LoadT (.sc .bool) w160 a162 fun x163=>
 Join (σ:=Addr × Addr × Addr × Addr × Sl × Int × Sl × Int × Int × Bool × Unit) (fun j166 g165 w174=>
 Br j166.2.2.2.2.2.2.2.2.2.1
 (∃ S175:World→Prop,S175 w174.drew ∧
 (Idx j166.2.2.2.2.1.a j166.2.2.2.2.1.n 1 j166.2.2.2.2.2.1 fun a176=>
 LoadS S175 (.sc .str) a176 fun x177=>
 LoadS S175 (.sc .str) (j166.2.2.1.add 3) fun x178=>
 CallT Tryd.prog 75 #[(.string x178)] (.sc .str) w174.drew (fun r179 w180=>
 S175 w180 ∧
 ((((x177.size+r179.size:Nat):Int)≤9223372036854775807) ∧
 CallT Tryd.prog 48 #[(.string (x177 ++ r179))] (.sc .str) w180 (fun r182 w183=>
 S175 w183 ∧
 (R (.returned (.tuple #[(.string r182),(.bool true),(.int .i64 0)])) w183)) (fun h184 w183=>R (.panicked h184) w183))) (fun h181 w180=>R (.panicked h181) w180)))
 (I161 (j166.1,j166.2.1,j166.2.2.1,j166.2.2.2.1,j166.2.2.2.2.1,j166.2.2.2.2.2.2.1,j166.2.2.2.2.2.2.2.1,(IntKind.wrap .i64 (j166.2.2.2.2.2.2.2.2.1+1)),()) w174)) fun J164=>
 Br x163
 (LoadT (.agg [.int .i64,.int .i64,.sl,.sl]) w160 l158.1 fun x167=>
 LoadT (.agg [.int .i64,.int .i64,.sl,.sl]) w160 l158.2.1 fun x168=>
 LoadT (.agg [.sl,.int .i64,.int .i64,.str]) w160 l158.2.2.1 fun x169=>
 LoadT (.agg [.sl,.int .i64,.int .i64,.str]) w160 l158.2.2.2.1 fun x170=>
 CallT Tryd.prog 74 #[(.agg #[(.int .i64 x167.1),(.int .i64 x167.2.1),(.slice x167.2.2.1.a x167.2.2.1.n x167.2.2.1.c),(.slice x167.2.2.2.1.a x167.2.2.2.1.n x167.2.2.2.1.c)]),(.agg #[(.int .i64 x168.1),(.int .i64 x168.2.1),(.slice x168.2.2.1.a x168.2.2.1.n x168.2.2.1.c),(.slice x168.2.2.2.1.a x168.2.2.2.1.n x168.2.2.2.1.c)]),(.agg #[(.slice x169.1.a x169.1.n x169.1.c),(.int .i64 x169.2.1),(.int .i64 x169.2.2.1),(.string x169.2.2.2.1)]),(.agg #[(.slice x170.1.a x170.1.n x170.1.c),(.int .i64 x170.2.1),(.int .i64 x170.2.2.1),(.string x170.2.2.2.1)]),(.int .i64 l158.2.2.2.2.2.2.2.1)] (.sc .bool) w160 (fun r171 w172=>
 J164 (l158.1,l158.2.1,l158.2.2.1,l158.2.2.2.1,l158.2.2.2.2.1,l158.2.2.2.2.2.2.2.1,l158.2.2.2.2.2.1,l158.2.2.2.2.2.2.1,l158.2.2.2.2.2.2.2.1,r171,()) w172) (fun h173 w172=>R (.panicked h173) w172))
 (J164 (l158.1,l158.2.1,l158.2.2.1,l158.2.2.2.1,l158.2.2.2.2.1,l158.2.2.2.2.2.2.2.1,l158.2.2.2.2.2.1,l158.2.2.2.2.2.2.1,l158.2.2.2.2.2.2.2.1,false,()) w160))
 (R (.returned (.tuple #[(.string (ByteArray.mk #[])),(.bool false),(.int .i64 0)])) w160)) (fun h156 w155=>R (.panicked h156) w155))))) (fun h148 w147=>R (.panicked h148) w147))))) ∧
 (New w16 (.cells #[(.slice none 0 0),(.int .i64 0),(.int .i64 0),(.string (ByteArray.mk #[]))] 115) fun b185 w186=>
 S12 w186 ∧
 ((CallT Tryd.prog 73 #[(.agg #[(.int .i64 x14.1),(.int .i64 x14.2.1),(.slice x14.2.2.1.a x14.2.2.1.n x14.2.2.1.c),(.slice x14.2.2.2.1.a x14.2.2.2.1.n x14.2.2.2.1.c)])] (.agg [.sl,.int .i64,.int .i64,.str]) w186 (fun r187 w188=>
 S12 w188 ∧
 (New w188 (.cells #[(.slice none 0 0),(.int .i64 0),(.int .i64 0),(.string (ByteArray.mk #[]))] 115) fun b190 w191=>
 S12 w191 ∧
 (StoreN w191 (Addr.mk b190 0 none) [(.slice r15.1.a r15.1.n r15.1.c),(.int .i64 r15.2.1),(.int .i64 r15.2.2.1),(.string r15.2.2.2.1)] fun w192=>
 S12 w192 ∧
 (StoreN w192 (Addr.mk b185 0 none) [(.slice r187.1.a r187.1.n r187.1.c),(.int .i64 r187.2.1),(.int .i64 r187.2.2.1),(.string r187.2.2.2.1)] fun w193=>
 LoadT (.sc (.int .i64)) w193 ((Addr.mk b190 0 none).add 1) fun x194=>
 LoadT (.sc (.int .i64)) w193 ((Addr.mk b185 0 none).add 1) fun x195=>
 Br ((x194:Int) != x195)
 (R (.returned (.tuple #[(.string (ByteArray.mk #[])),(.bool false),(.int .i64 0)])) w193)
 (LoadT (.agg [.int .i64,.int .i64,.sl,.sl]) w193 (Addr.mk b3 0 none) fun x196=>
 CallT Tryd.prog 56 #[(.agg #[(.int .i64 x196.1),(.int .i64 x196.2.1),(.slice x196.2.2.1.a x196.2.2.1.n x196.2.2.1.c),(.slice x196.2.2.2.1.a x196.2.2.2.1.n x196.2.2.2.1.c)])] (.agg [.sl,.map,.sl]) w193 (fun r197 w198=>
 LoadT (.sc .sl) w198 ((Addr.mk b185 0 none).add 0) fun x200=>
 LoopT (σ:=Addr × Addr × Addr × Addr × Sl × Sl × Int × Int × Unit) ((Addr.mk b1 0 none),(Addr.mk b3 0 none),(Addr.mk b190 0 none),(Addr.mk b185 0 none),r197.1,x200,((x200.n:Nat):Int),0,()) w198 fun l201 g202 w203 I204=>
 Br (decide ((l201.2.2.2.2.2.2.2.1:Int)<l201.2.2.2.2.2.2.1))
 (Idx l201.2.2.2.2.2.1.a l201.2.2.2.2.2.1.n 1 l201.2.2.2.2.2.2.2.1 fun a205=>
 LoadT (.sc .bool) w203 a205 fun x206=>
 Join (σ:=Addr × Addr × Addr × Addr × Sl × Int × Sl × Int × Int × Bool × Unit) (fun j209 g208 w217=>
 Br j209.2.2.2.2.2.2.2.2.2.1
 (∃ S218:World→Prop,S218 w217.drew ∧
 (Idx j209.2.2.2.2.1.a j209.2.2.2.2.1.n 1 j209.2.2.2.2.2.1 fun a219=>
 LoadS S218 (.sc .str) a219 fun x220=>
 LoadS S218 (.sc .str) (j209.2.2.1.add 3) fun x221=>
 CallT Tryd.prog 75 #[(.string x221)] (.sc .str) w217.drew (fun r222 w223=>
 S218 w223 ∧
 ((((x220.size+r222.size:Nat):Int)≤9223372036854775807) ∧
 CallT Tryd.prog 48 #[(.string (x220 ++ r222))] (.sc .str) w223 (fun r225 w226=>
 S218 w226 ∧
 (R (.returned (.tuple #[(.string r225),(.bool true),(.int .i64 0)])) w226)) (fun h227 w226=>R (.panicked h227) w226))) (fun h224 w223=>R (.panicked h224) w223)))
 (I204 (j209.1,j209.2.1,j209.2.2.1,j209.2.2.2.1,j209.2.2.2.2.1,j209.2.2.2.2.2.2.1,j209.2.2.2.2.2.2.2.1,(IntKind.wrap .i64 (j209.2.2.2.2.2.2.2.2.1+1)),()) w217)) fun J207=>
 Br x206
 (LoadT (.agg [.int .i64,.int .i64,.sl,.sl]) w203 l201.1 fun x210=>
 LoadT (.agg [.int .i64,.int .i64,.sl,.sl]) w203 l201.2.1 fun x211=>
 LoadT (.agg [.sl,.int .i64,.int .i64,.str]) w203 l201.2.2.1 fun x212=>
 LoadT (.agg [.sl,.int .i64,.int .i64,.str]) w203 l201.2.2.2.1 fun x213=>
 CallT Tryd.prog 74 #[(.agg #[(.int .i64 x210.1),(.int .i64 x210.2.1),(.slice x210.2.2.1.a x210.2.2.1.n x210.2.2.1.c),(.slice x210.2.2.2.1.a x210.2.2.2.1.n x210.2.2.2.1.c)]),(.agg #[(.int .i64 x211.1),(.int .i64 x211.2.1),(.slice x211.2.2.1.a x211.2.2.1.n x211.2.2.1.c),(.slice x211.2.2.2.1.a x211.2.2.2.1.n x211.2.2.2.1.c)]),(.agg #[(.slice x212.1.a x212.1.n x212.1.c),(.int .i64 x212.2.1),(.int .i64 x212.2.2.1),(.string x212.2.2.2.1)]),(.agg #[(.slice x213.1.a x213.1.n x213.1.c),(.int .i64 x213.2.1),(.int .i64 x213.2.2.1),(.string x213.2.2.2.1)]),(.int .i64 l201.2.2.2.2.2.2.2.1)] (.sc .bool) w203 (fun r214 w215=>
 J207 (l201.1,l201.2.1,l201.2.2.1,l201.2.2.2.1,l201.2.2.2.2.1,l201.2.2.2.2.2.2.2.1,l201.2.2.2.2.2.1,l201.2.2.2.2.2.2.1,l201.2.2.2.2.2.2.2.1,r214,()) w215) (fun h216 w215=>R (.panicked h216) w215))
 (J207 (l201.1,l201.2.1,l201.2.2.1,l201.2.2.2.1,l201.2.2.2.2.1,l201.2.2.2.2.2.2.2.1,l201.2.2.2.2.2.1,l201.2.2.2.2.2.2.1,l201.2.2.2.2.2.2.2.1,false,()) w203))
 (R (.returned (.tuple #[(.string (ByteArray.mk #[])),(.bool false),(.int .i64 0)])) w203)) (fun h199 w198=>R (.panicked h199) w198)))))) (fun h189 w188=>R (.panicked h189) w188)) ∧
 (New w186 (.cells #[(.slice none 0 0),(.int .i64 0),(.int .i64 0),(.string (ByteArray.mk #[]))] 115) fun b228 w229=>
 S12 w229 ∧
 (CallT Tryd.prog 73 #[(.agg #[(.int .i64 x14.1),(.int .i64 x14.2.1),(.slice x14.2.2.1.a x14.2.2.1.n x14.2.2.1.c),(.slice x14.2.2.2.1.a x14.2.2.2.1.n x14.2.2.2.1.c)])] (.agg [.sl,.int .i64,.int .i64,.str]) w229 (fun r230 w231=>
 S12 w231 ∧
 (StoreN w231 (Addr.mk b228 0 none) [(.slice r15.1.a r15.1.n r15.1.c),(.int .i64 r15.2.1),(.int .i64 r15.2.2.1),(.string r15.2.2.2.1)] fun w233=>
 S12 w233 ∧
 (StoreN w233 (Addr.mk b185 0 none) [(.slice r230.1.a r230.1.n r230.1.c),(.int .i64 r230.2.1),(.int .i64 r230.2.2.1),(.string r230.2.2.2.1)] fun w234=>
 LoadT (.sc (.int .i64)) w234 ((Addr.mk b228 0 none).add 1) fun x235=>
 LoadT (.sc (.int .i64)) w234 ((Addr.mk b185 0 none).add 1) fun x236=>
 Br ((x235:Int) != x236)
 (R (.returned (.tuple #[(.string (ByteArray.mk #[])),(.bool false),(.int .i64 0)])) w234)
 (LoadT (.agg [.int .i64,.int .i64,.sl,.sl]) w234 (Addr.mk b3 0 none) fun x237=>
 CallT Tryd.prog 56 #[(.agg #[(.int .i64 x237.1),(.int .i64 x237.2.1),(.slice x237.2.2.1.a x237.2.2.1.n x237.2.2.1.c),(.slice x237.2.2.2.1.a x237.2.2.2.1.n x237.2.2.2.1.c)])] (.agg [.sl,.map,.sl]) w234 (fun r238 w239=>
 LoadT (.sc .sl) w239 ((Addr.mk b185 0 none).add 0) fun x241=>
 LoopT (σ:=Addr × Addr × Addr × Addr × Sl × Sl × Int × Int × Unit) ((Addr.mk b1 0 none),(Addr.mk b3 0 none),(Addr.mk b228 0 none),(Addr.mk b185 0 none),r238.1,x241,((x241.n:Nat):Int),0,()) w239 fun l242 g243 w244 I245=>
 Br (decide ((l242.2.2.2.2.2.2.2.1:Int)<l242.2.2.2.2.2.2.1))
 (Idx l242.2.2.2.2.2.1.a l242.2.2.2.2.2.1.n 1 l242.2.2.2.2.2.2.2.1 fun a246=>
 LoadT (.sc .bool) w244 a246 fun x247=>
 Join (σ:=Addr × Addr × Addr × Addr × Sl × Int × Sl × Int × Int × Bool × Unit) (fun j250 g249 w258=>
 Br j250.2.2.2.2.2.2.2.2.2.1
 (∃ S259:World→Prop,S259 w258.drew ∧
 (Idx j250.2.2.2.2.1.a j250.2.2.2.2.1.n 1 j250.2.2.2.2.2.1 fun a260=>
 LoadS S259 (.sc .str) a260 fun x261=>
 LoadS S259 (.sc .str) (j250.2.2.1.add 3) fun x262=>
 CallT Tryd.prog 75 #[(.string x262)] (.sc .str) w258.drew (fun r263 w264=>
 S259 w264 ∧
 ((((x261.size+r263.size:Nat):Int)≤9223372036854775807) ∧
 CallT Tryd.prog 48 #[(.string (x261 ++ r263))] (.sc .str) w264 (fun r266 w267=>
 S259 w267 ∧
 (R (.returned (.tuple #[(.string r266),(.bool true),(.int .i64 0)])) w267)) (fun h268 w267=>R (.panicked h268) w267))) (fun h265 w264=>R (.panicked h265) w264)))
 (I245 (j250.1,j250.2.1,j250.2.2.1,j250.2.2.2.1,j250.2.2.2.2.1,j250.2.2.2.2.2.2.1,j250.2.2.2.2.2.2.2.1,(IntKind.wrap .i64 (j250.2.2.2.2.2.2.2.2.1+1)),()) w258)) fun J248=>
 Br x247
 (LoadT (.agg [.int .i64,.int .i64,.sl,.sl]) w244 l242.1 fun x251=>
 LoadT (.agg [.int .i64,.int .i64,.sl,.sl]) w244 l242.2.1 fun x252=>
 LoadT (.agg [.sl,.int .i64,.int .i64,.str]) w244 l242.2.2.1 fun x253=>
 LoadT (.agg [.sl,.int .i64,.int .i64,.str]) w244 l242.2.2.2.1 fun x254=>
 CallT Tryd.prog 74 #[(.agg #[(.int .i64 x251.1),(.int .i64 x251.2.1),(.slice x251.2.2.1.a x251.2.2.1.n x251.2.2.1.c),(.slice x251.2.2.2.1.a x251.2.2.2.1.n x251.2.2.2.1.c)]),(.agg #[(.int .i64 x252.1),(.int .i64 x252.2.1),(.slice x252.2.2.1.a x252.2.2.1.n x252.2.2.1.c),(.slice x252.2.2.2.1.a x252.2.2.2.1.n x252.2.2.2.1.c)]),(.agg #[(.slice x253.1.a x253.1.n x253.1.c),(.int .i64 x253.2.1),(.int .i64 x253.2.2.1),(.string x253.2.2.2.1)]),(.agg #[(.slice x254.1.a x254.1.n x254.1.c),(.int .i64 x254.2.1),(.int .i64 x254.2.2.1),(.string x254.2.2.2.1)]),(.int .i64 l242.2.2.2.2.2.2.2.1)] (.sc .bool) w244 (fun r255 w256=>
 J248 (l242.1,l242.2.1,l242.2.2.1,l242.2.2.2.1,l242.2.2.2.2.1,l242.2.2.2.2.2.2.2.1,l242.2.2.2.2.2.1,l242.2.2.2.2.2.2.1,l242.2.2.2.2.2.2.2.1,r255,()) w256) (fun h257 w256=>R (.panicked h257) w256))
 (J248 (l242.1,l242.2.1,l242.2.2.1,l242.2.2.2.1,l242.2.2.2.2.1,l242.2.2.2.2.2.2.2.1,l242.2.2.2.2.2.1,l242.2.2.2.2.2.2.1,l242.2.2.2.2.2.2.2.1,false,()) w244))
 (R (.returned (.tuple #[(.string (ByteArray.mk #[])),(.bool false),(.int .i64 0)])) w244)) (fun h240 w239=>R (.panicked h240) w239))))) (fun h232 w231=>R (.panicked h232) w231))))))) (fun h17 w16=>R (.panicked h17) w16)) ∧
 (New w10.drew (.cells #[(.slice none 0 0),(.int .i64 0),(.int .i64 0),(.string (ByteArray.mk #[]))] 115) fun b269 w270=>
 S12 w270 ∧
 ((CallT Tryd.prog 73 #[(.agg #[(.int .i64 x13.1),(.int .i64 x13.2.1),(.slice x13.2.2.1.a x13.2.2.1.n x13.2.2.1.c),(.slice x13.2.2.2.1.a x13.2.2.2.1.n x13.2.2.2.1.c)])] (.agg [.sl,.int .i64,.int .i64,.str]) w270 (fun r271 w272=>
 S12 w272 ∧
 ((CallT Tryd.prog 73 #[(.agg #[(.int .i64 x14.1),(.int .i64 x14.2.1),(.slice x14.2.2.1.a x14.2.2.1.n x14.2.2.1.c),(.slice x14.2.2.2.1.a x14.2.2.2.1.n x14.2.2.2.1.c)])] (.agg [.sl,.int .i64,.int .i64,.str]) w272 (fun r274 w275=>
 S12 w275 ∧
 (New w275 (.cells #[(.slice none 0 0),(.int .i64 0),(.int .i64 0),(.string (ByteArray.mk #[]))] 115) fun b277 w278=>
 S12 w278 ∧
 (StoreN w278 (Addr.mk b269 0 none) [(.slice r271.1.a r271.1.n r271.1.c),(.int .i64 r271.2.1),(.int .i64 r271.2.2.1),(.string r271.2.2.2.1)] fun w279=>
 S12 w279 ∧
 (StoreN w279 (Addr.mk b277 0 none) [(.slice r274.1.a r274.1.n r274.1.c),(.int .i64 r274.2.1),(.int .i64 r274.2.2.1),(.string r274.2.2.2.1)] fun w280=>
 LoadT (.sc (.int .i64)) w280 ((Addr.mk b269 0 none).add 1) fun x281=>
 LoadT (.sc (.int .i64)) w280 ((Addr.mk b277 0 none).add 1) fun x282=>
 Br ((x281:Int) != x282)
 (R (.returned (.tuple #[(.string (ByteArray.mk #[])),(.bool false),(.int .i64 0)])) w280)
 (LoadT (.agg [.int .i64,.int .i64,.sl,.sl]) w280 (Addr.mk b3 0 none) fun x283=>
 CallT Tryd.prog 56 #[(.agg #[(.int .i64 x283.1),(.int .i64 x283.2.1),(.slice x283.2.2.1.a x283.2.2.1.n x283.2.2.1.c),(.slice x283.2.2.2.1.a x283.2.2.2.1.n x283.2.2.2.1.c)])] (.agg [.sl,.map,.sl]) w280 (fun r284 w285=>
 LoadT (.sc .sl) w285 ((Addr.mk b277 0 none).add 0) fun x287=>
 LoopT (σ:=Addr × Addr × Addr × Addr × Sl × Sl × Int × Int × Unit) ((Addr.mk b1 0 none),(Addr.mk b3 0 none),(Addr.mk b269 0 none),(Addr.mk b277 0 none),r284.1,x287,((x287.n:Nat):Int),0,()) w285 fun l288 g289 w290 I291=>
 Br (decide ((l288.2.2.2.2.2.2.2.1:Int)<l288.2.2.2.2.2.2.1))
 (Idx l288.2.2.2.2.2.1.a l288.2.2.2.2.2.1.n 1 l288.2.2.2.2.2.2.2.1 fun a292=>
 LoadT (.sc .bool) w290 a292 fun x293=>
 Join (σ:=Addr × Addr × Addr × Addr × Sl × Int × Sl × Int × Int × Bool × Unit) (fun j296 g295 w304=>
 Br j296.2.2.2.2.2.2.2.2.2.1
 (∃ S305:World→Prop,S305 w304.drew ∧
 (Idx j296.2.2.2.2.1.a j296.2.2.2.2.1.n 1 j296.2.2.2.2.2.1 fun a306=>
 LoadS S305 (.sc .str) a306 fun x307=>
 LoadS S305 (.sc .str) (j296.2.2.1.add 3) fun x308=>
 CallT Tryd.prog 75 #[(.string x308)] (.sc .str) w304.drew (fun r309 w310=>
 S305 w310 ∧
 ((((x307.size+r309.size:Nat):Int)≤9223372036854775807) ∧
 CallT Tryd.prog 48 #[(.string (x307 ++ r309))] (.sc .str) w310 (fun r312 w313=>
 S305 w313 ∧
 (R (.returned (.tuple #[(.string r312),(.bool true),(.int .i64 0)])) w313)) (fun h314 w313=>R (.panicked h314) w313))) (fun h311 w310=>R (.panicked h311) w310)))
 (I291 (j296.1,j296.2.1,j296.2.2.1,j296.2.2.2.1,j296.2.2.2.2.1,j296.2.2.2.2.2.2.1,j296.2.2.2.2.2.2.2.1,(IntKind.wrap .i64 (j296.2.2.2.2.2.2.2.2.1+1)),()) w304)) fun J294=>
 Br x293
 (LoadT (.agg [.int .i64,.int .i64,.sl,.sl]) w290 l288.1 fun x297=>
 LoadT (.agg [.int .i64,.int .i64,.sl,.sl]) w290 l288.2.1 fun x298=>
 LoadT (.agg [.sl,.int .i64,.int .i64,.str]) w290 l288.2.2.1 fun x299=>
 LoadT (.agg [.sl,.int .i64,.int .i64,.str]) w290 l288.2.2.2.1 fun x300=>
 CallT Tryd.prog 74 #[(.agg #[(.int .i64 x297.1),(.int .i64 x297.2.1),(.slice x297.2.2.1.a x297.2.2.1.n x297.2.2.1.c),(.slice x297.2.2.2.1.a x297.2.2.2.1.n x297.2.2.2.1.c)]),(.agg #[(.int .i64 x298.1),(.int .i64 x298.2.1),(.slice x298.2.2.1.a x298.2.2.1.n x298.2.2.1.c),(.slice x298.2.2.2.1.a x298.2.2.2.1.n x298.2.2.2.1.c)]),(.agg #[(.slice x299.1.a x299.1.n x299.1.c),(.int .i64 x299.2.1),(.int .i64 x299.2.2.1),(.string x299.2.2.2.1)]),(.agg #[(.slice x300.1.a x300.1.n x300.1.c),(.int .i64 x300.2.1),(.int .i64 x300.2.2.1),(.string x300.2.2.2.1)]),(.int .i64 l288.2.2.2.2.2.2.2.1)] (.sc .bool) w290 (fun r301 w302=>
 J294 (l288.1,l288.2.1,l288.2.2.1,l288.2.2.2.1,l288.2.2.2.2.1,l288.2.2.2.2.2.2.2.1,l288.2.2.2.2.2.1,l288.2.2.2.2.2.2.1,l288.2.2.2.2.2.2.2.1,r301,()) w302) (fun h303 w302=>R (.panicked h303) w302))
 (J294 (l288.1,l288.2.1,l288.2.2.1,l288.2.2.2.1,l288.2.2.2.2.1,l288.2.2.2.2.2.2.2.1,l288.2.2.2.2.2.1,l288.2.2.2.2.2.2.1,l288.2.2.2.2.2.2.2.1,false,()) w290))
 (R (.returned (.tuple #[(.string (ByteArray.mk #[])),(.bool false),(.int .i64 0)])) w290)) (fun h286 w285=>R (.panicked h286) w285)))))) (fun h276 w275=>R (.panicked h276) w275)) ∧
 (New w272 (.cells #[(.slice none 0 0),(.int .i64 0),(.int .i64 0),(.string (ByteArray.mk #[]))] 115) fun b315 w316=>
 S12 w316 ∧
 (CallT Tryd.prog 73 #[(.agg #[(.int .i64 x14.1),(.int .i64 x14.2.1),(.slice x14.2.2.1.a x14.2.2.1.n x14.2.2.1.c),(.slice x14.2.2.2.1.a x14.2.2.2.1.n x14.2.2.2.1.c)])] (.agg [.sl,.int .i64,.int .i64,.str]) w316 (fun r317 w318=>
 S12 w318 ∧
 (StoreN w318 (Addr.mk b269 0 none) [(.slice r271.1.a r271.1.n r271.1.c),(.int .i64 r271.2.1),(.int .i64 r271.2.2.1),(.string r271.2.2.2.1)] fun w320=>
 S12 w320 ∧
 (StoreN w320 (Addr.mk b315 0 none) [(.slice r317.1.a r317.1.n r317.1.c),(.int .i64 r317.2.1),(.int .i64 r317.2.2.1),(.string r317.2.2.2.1)] fun w321=>
 LoadT (.sc (.int .i64)) w321 ((Addr.mk b269 0 none).add 1) fun x322=>
 LoadT (.sc (.int .i64)) w321 ((Addr.mk b315 0 none).add 1) fun x323=>
 Br ((x322:Int) != x323)
 (R (.returned (.tuple #[(.string (ByteArray.mk #[])),(.bool false),(.int .i64 0)])) w321)
 (LoadT (.agg [.int .i64,.int .i64,.sl,.sl]) w321 (Addr.mk b3 0 none) fun x324=>
 CallT Tryd.prog 56 #[(.agg #[(.int .i64 x324.1),(.int .i64 x324.2.1),(.slice x324.2.2.1.a x324.2.2.1.n x324.2.2.1.c),(.slice x324.2.2.2.1.a x324.2.2.2.1.n x324.2.2.2.1.c)])] (.agg [.sl,.map,.sl]) w321 (fun r325 w326=>
 LoadT (.sc .sl) w326 ((Addr.mk b315 0 none).add 0) fun x328=>
 LoopT (σ:=Addr × Addr × Addr × Addr × Sl × Sl × Int × Int × Unit) ((Addr.mk b1 0 none),(Addr.mk b3 0 none),(Addr.mk b269 0 none),(Addr.mk b315 0 none),r325.1,x328,((x328.n:Nat):Int),0,()) w326 fun l329 g330 w331 I332=>
 Br (decide ((l329.2.2.2.2.2.2.2.1:Int)<l329.2.2.2.2.2.2.1))
 (Idx l329.2.2.2.2.2.1.a l329.2.2.2.2.2.1.n 1 l329.2.2.2.2.2.2.2.1 fun a333=>
 LoadT (.sc .bool) w331 a333 fun x334=>
 Join (σ:=Addr × Addr × Addr × Addr × Sl × Int × Sl × Int × Int × Bool × Unit) (fun j337 g336 w345=>
 Br j337.2.2.2.2.2.2.2.2.2.1
 (∃ S346:World→Prop,S346 w345.drew ∧
 (Idx j337.2.2.2.2.1.a j337.2.2.2.2.1.n 1 j337.2.2.2.2.2.1 fun a347=>
 LoadS S346 (.sc .str) a347 fun x348=>
 LoadS S346 (.sc .str) (j337.2.2.1.add 3) fun x349=>
 CallT Tryd.prog 75 #[(.string x349)] (.sc .str) w345.drew (fun r350 w351=>
 S346 w351 ∧
 ((((x348.size+r350.size:Nat):Int)≤9223372036854775807) ∧
 CallT Tryd.prog 48 #[(.string (x348 ++ r350))] (.sc .str) w351 (fun r353 w354=>
 S346 w354 ∧
 (R (.returned (.tuple #[(.string r353),(.bool true),(.int .i64 0)])) w354)) (fun h355 w354=>R (.panicked h355) w354))) (fun h352 w351=>R (.panicked h352) w351)))
 (I332 (j337.1,j337.2.1,j337.2.2.1,j337.2.2.2.1,j337.2.2.2.2.1,j337.2.2.2.2.2.2.1,j337.2.2.2.2.2.2.2.1,(IntKind.wrap .i64 (j337.2.2.2.2.2.2.2.2.1+1)),()) w345)) fun J335=>
 Br x334
 (LoadT (.agg [.int .i64,.int .i64,.sl,.sl]) w331 l329.1 fun x338=>
 LoadT (.agg [.int .i64,.int .i64,.sl,.sl]) w331 l329.2.1 fun x339=>
 LoadT (.agg [.sl,.int .i64,.int .i64,.str]) w331 l329.2.2.1 fun x340=>
 LoadT (.agg [.sl,.int .i64,.int .i64,.str]) w331 l329.2.2.2.1 fun x341=>
 CallT Tryd.prog 74 #[(.agg #[(.int .i64 x338.1),(.int .i64 x338.2.1),(.slice x338.2.2.1.a x338.2.2.1.n x338.2.2.1.c),(.slice x338.2.2.2.1.a x338.2.2.2.1.n x338.2.2.2.1.c)]),(.agg #[(.int .i64 x339.1),(.int .i64 x339.2.1),(.slice x339.2.2.1.a x339.2.2.1.n x339.2.2.1.c),(.slice x339.2.2.2.1.a x339.2.2.2.1.n x339.2.2.2.1.c)]),(.agg #[(.slice x340.1.a x340.1.n x340.1.c),(.int .i64 x340.2.1),(.int .i64 x340.2.2.1),(.string x340.2.2.2.1)]),(.agg #[(.slice x341.1.a x341.1.n x341.1.c),(.int .i64 x341.2.1),(.int .i64 x341.2.2.1),(.string x341.2.2.2.1)]),(.int .i64 l329.2.2.2.2.2.2.2.1)] (.sc .bool) w331 (fun r342 w343=>
 J335 (l329.1,l329.2.1,l329.2.2.1,l329.2.2.2.1,l329.2.2.2.2.1,l329.2.2.2.2.2.2.2.1,l329.2.2.2.2.2.1,l329.2.2.2.2.2.2.1,l329.2.2.2.2.2.2.2.1,r342,()) w343) (fun h344 w343=>R (.panicked h344) w343))
 (J335 (l329.1,l329.2.1,l329.2.2.1,l329.2.2.2.1,l329.2.2.2.2.1,l329.2.2.2.2.2.2.2.1,l329.2.2.2.2.2.1,l329.2.2.2.2.2.2.1,l329.2.2.2.2.2.2.2.1,false,()) w331))
 (R (.returned (.tuple #[(.string (ByteArray.mk #[])),(.bool false),(.int .i64 0)])) w331)) (fun h327 w326=>R (.panicked h327) w326))))) (fun h319 w318=>R (.panicked h319) w318))))) (fun h273 w272=>R (.panicked h273) w272)) ∧
 (New w270 (.cells #[(.slice none 0 0),(.int .i64 0),(.int .i64 0),(.string (ByteArray.mk #[]))] 115) fun b356 w357=>
 S12 w357 ∧
 (CallT Tryd.prog 73 #[(.agg #[(.int .i64 x13.1),(.int .i64 x13.2.1),(.slice x13.2.2.1.a x13.2.2.1.n x13.2.2.1.c),(.slice x13.2.2.2.1.a x13.2.2.2.1.n x13.2.2.2.1.c)])] (.agg [.sl,.int .i64,.int .i64,.str]) w357 (fun r358 w359=>
 S12 w359 ∧
 (CallT Tryd.prog 73 #[(.agg #[(.int .i64 x14.1),(.int .i64 x14.2.1),(.slice x14.2.2.1.a x14.2.2.1.n x14.2.2.1.c),(.slice x14.2.2.2.1.a x14.2.2.2.1.n x14.2.2.2.1.c)])] (.agg [.sl,.int .i64,.int .i64,.str]) w359 (fun r361 w362=>
 S12 w362 ∧
 (StoreN w362 (Addr.mk b269 0 none) [(.slice r358.1.a r358.1.n r358.1.c),(.int .i64 r358.2.1),(.int .i64 r358.2.2.1),(.string r358.2.2.2.1)] fun w364=>
 S12 w364 ∧
 (StoreN w364 (Addr.mk b356 0 none) [(.slice r361.1.a r361.1.n r361.1.c),(.int .i64 r361.2.1),(.int .i64 r361.2.2.1),(.string r361.2.2.2.1)] fun w365=>
 LoadT (.sc (.int .i64)) w365 ((Addr.mk b269 0 none).add 1) fun x366=>
 LoadT (.sc (.int .i64)) w365 ((Addr.mk b356 0 none).add 1) fun x367=>
 Br ((x366:Int) != x367)
 (R (.returned (.tuple #[(.string (ByteArray.mk #[])),(.bool false),(.int .i64 0)])) w365)
 (LoadT (.agg [.int .i64,.int .i64,.sl,.sl]) w365 (Addr.mk b3 0 none) fun x368=>
 CallT Tryd.prog 56 #[(.agg #[(.int .i64 x368.1),(.int .i64 x368.2.1),(.slice x368.2.2.1.a x368.2.2.1.n x368.2.2.1.c),(.slice x368.2.2.2.1.a x368.2.2.2.1.n x368.2.2.2.1.c)])] (.agg [.sl,.map,.sl]) w365 (fun r369 w370=>
 LoadT (.sc .sl) w370 ((Addr.mk b356 0 none).add 0) fun x372=>
 LoopT (σ:=Addr × Addr × Addr × Addr × Sl × Sl × Int × Int × Unit) ((Addr.mk b1 0 none),(Addr.mk b3 0 none),(Addr.mk b269 0 none),(Addr.mk b356 0 none),r369.1,x372,((x372.n:Nat):Int),0,()) w370 fun l373 g374 w375 I376=>
 Br (decide ((l373.2.2.2.2.2.2.2.1:Int)<l373.2.2.2.2.2.2.1))
 (Idx l373.2.2.2.2.2.1.a l373.2.2.2.2.2.1.n 1 l373.2.2.2.2.2.2.2.1 fun a377=>
 LoadT (.sc .bool) w375 a377 fun x378=>
 Join (σ:=Addr × Addr × Addr × Addr × Sl × Int × Sl × Int × Int × Bool × Unit) (fun j381 g380 w389=>
 Br j381.2.2.2.2.2.2.2.2.2.1
 (∃ S390:World→Prop,S390 w389.drew ∧
 (Idx j381.2.2.2.2.1.a j381.2.2.2.2.1.n 1 j381.2.2.2.2.2.1 fun a391=>
 LoadS S390 (.sc .str) a391 fun x392=>
 LoadS S390 (.sc .str) (j381.2.2.1.add 3) fun x393=>
 CallT Tryd.prog 75 #[(.string x393)] (.sc .str) w389.drew (fun r394 w395=>
 S390 w395 ∧
 ((((x392.size+r394.size:Nat):Int)≤9223372036854775807) ∧
 CallT Tryd.prog 48 #[(.string (x392 ++ r394))] (.sc .str) w395 (fun r397 w398=>
 S390 w398 ∧
 (R (.returned (.tuple #[(.string r397),(.bool true),(.int .i64 0)])) w398)) (fun h399 w398=>R (.panicked h399) w398))) (fun h396 w395=>R (.panicked h396) w395)))
 (I376 (j381.1,j381.2.1,j381.2.2.1,j381.2.2.2.1,j381.2.2.2.2.1,j381.2.2.2.2.2.2.1,j381.2.2.2.2.2.2.2.1,(IntKind.wrap .i64 (j381.2.2.2.2.2.2.2.2.1+1)),()) w389)) fun J379=>
 Br x378
 (LoadT (.agg [.int .i64,.int .i64,.sl,.sl]) w375 l373.1 fun x382=>
 LoadT (.agg [.int .i64,.int .i64,.sl,.sl]) w375 l373.2.1 fun x383=>
 LoadT (.agg [.sl,.int .i64,.int .i64,.str]) w375 l373.2.2.1 fun x384=>
 LoadT (.agg [.sl,.int .i64,.int .i64,.str]) w375 l373.2.2.2.1 fun x385=>
 CallT Tryd.prog 74 #[(.agg #[(.int .i64 x382.1),(.int .i64 x382.2.1),(.slice x382.2.2.1.a x382.2.2.1.n x382.2.2.1.c),(.slice x382.2.2.2.1.a x382.2.2.2.1.n x382.2.2.2.1.c)]),(.agg #[(.int .i64 x383.1),(.int .i64 x383.2.1),(.slice x383.2.2.1.a x383.2.2.1.n x383.2.2.1.c),(.slice x383.2.2.2.1.a x383.2.2.2.1.n x383.2.2.2.1.c)]),(.agg #[(.slice x384.1.a x384.1.n x384.1.c),(.int .i64 x384.2.1),(.int .i64 x384.2.2.1),(.string x384.2.2.2.1)]),(.agg #[(.slice x385.1.a x385.1.n x385.1.c),(.int .i64 x385.2.1),(.int .i64 x385.2.2.1),(.string x385.2.2.2.1)]),(.int .i64 l373.2.2.2.2.2.2.2.1)] (.sc .bool) w375 (fun r386 w387=>
 J379 (l373.1,l373.2.1,l373.2.2.1,l373.2.2.2.1,l373.2.2.2.2.1,l373.2.2.2.2.2.2.2.1,l373.2.2.2.2.2.1,l373.2.2.2.2.2.2.1,l373.2.2.2.2.2.2.2.1,r386,()) w387) (fun h388 w387=>R (.panicked h388) w387))
 (J379 (l373.1,l373.2.1,l373.2.2.1,l373.2.2.2.1,l373.2.2.2.2.1,l373.2.2.2.2.2.2.2.1,l373.2.2.2.2.2.1,l373.2.2.2.2.2.2.1,l373.2.2.2.2.2.2.2.1,false,()) w375))
 (R (.returned (.tuple #[(.string (ByteArray.mk #[])),(.bool false),(.int .i64 0)])) w375)) (fun h371 w370=>R (.panicked h371) w370))))) (fun h363 w362=>R (.panicked h363) w362))) (fun h360 w359=>R (.panicked h360) w359))))) ∧
 (New w10.drew (.cells #[(.slice none 0 0),(.int .i64 0),(.int .i64 0),(.string (ByteArray.mk #[]))] 115) fun b400 w401=>
 S12 w401 ∧
 ((CallT Tryd.prog 73 #[(.agg #[(.int .i64 x13.1),(.int .i64 x13.2.1),(.slice x13.2.2.1.a x13.2.2.1.n x13.2.2.1.c),(.slice x13.2.2.2.1.a x13.2.2.2.1.n x13.2.2.2.1.c)])] (.agg [.sl,.int .i64,.int .i64,.str]) w401 (fun r402 w403=>
 S12 w403 ∧
 ((CallT Tryd.prog 73 #[(.agg #[(.int .i64 x14.1),(.int .i64 x14.2.1),(.slice x14.2.2.1.a x14.2.2.1.n x14.2.2.1.c),(.slice x14.2.2.2.1.a x14.2.2.2.1.n x14.2.2.2.1.c)])] (.agg [.sl,.int .i64,.int .i64,.str]) w403 (fun r405 w406=>
 S12 w406 ∧
 (New w406 (.cells #[(.slice none 0 0),(.int .i64 0),(.int .i64 0),(.string (ByteArray.mk #[]))] 115) fun b408 w409=>
 S12 w409 ∧
 (StoreN w409 (Addr.mk b408 0 none) [(.slice r402.1.a r402.1.n r402.1.c),(.int .i64 r402.2.1),(.int .i64 r402.2.2.1),(.string r402.2.2.2.1)] fun w410=>
 S12 w410 ∧
 (StoreN w410 (Addr.mk b400 0 none) [(.slice r405.1.a r405.1.n r405.1.c),(.int .i64 r405.2.1),(.int .i64 r405.2.2.1),(.string r405.2.2.2.1)] fun w411=>
 LoadT (.sc (.int .i64)) w411 ((Addr.mk b408 0 none).add 1) fun x412=>
 LoadT (.sc (.int .i64)) w411 ((Addr.mk b400 0 none).add 1) fun x413=>
 Br ((x412:Int) != x413)
 (R (.returned (.tuple #[(.string (ByteArray.mk #[])),(.bool false),(.int .i64 0)])) w411)
 (LoadT (.agg [.int .i64,.int .i64,.sl,.sl]) w411 (Addr.mk b3 0 none) fun x414=>
 CallT Tryd.prog 56 #[(.agg #[(.int .i64 x414.1),(.int .i64 x414.2.1),(.slice x414.2.2.1.a x414.2.2.1.n x414.2.2.1.c),(.slice x414.2.2.2.1.a x414.2.2.2.1.n x414.2.2.2.1.c)])] (.agg [.sl,.map,.sl]) w411 (fun r415 w416=>
 LoadT (.sc .sl) w416 ((Addr.mk b400 0 none).add 0) fun x418=>
 LoopT (σ:=Addr × Addr × Addr × Addr × Sl × Sl × Int × Int × Unit) ((Addr.mk b1 0 none),(Addr.mk b3 0 none),(Addr.mk b408 0 none),(Addr.mk b400 0 none),r415.1,x418,((x418.n:Nat):Int),0,()) w416 fun l419 g420 w421 I422=>
 Br (decide ((l419.2.2.2.2.2.2.2.1:Int)<l419.2.2.2.2.2.2.1))
 (Idx l419.2.2.2.2.2.1.a l419.2.2.2.2.2.1.n 1 l419.2.2.2.2.2.2.2.1 fun a423=>
 LoadT (.sc .bool) w421 a423 fun x424=>
 Join (σ:=Addr × Addr × Addr × Addr × Sl × Int × Sl × Int × Int × Bool × Unit) (fun j427 g426 w435=>
 Br j427.2.2.2.2.2.2.2.2.2.1
 (∃ S436:World→Prop,S436 w435.drew ∧
 (Idx j427.2.2.2.2.1.a j427.2.2.2.2.1.n 1 j427.2.2.2.2.2.1 fun a437=>
 LoadS S436 (.sc .str) a437 fun x438=>
 LoadS S436 (.sc .str) (j427.2.2.1.add 3) fun x439=>
 CallT Tryd.prog 75 #[(.string x439)] (.sc .str) w435.drew (fun r440 w441=>
 S436 w441 ∧
 ((((x438.size+r440.size:Nat):Int)≤9223372036854775807) ∧
 CallT Tryd.prog 48 #[(.string (x438 ++ r440))] (.sc .str) w441 (fun r443 w444=>
 S436 w444 ∧
 (R (.returned (.tuple #[(.string r443),(.bool true),(.int .i64 0)])) w444)) (fun h445 w444=>R (.panicked h445) w444))) (fun h442 w441=>R (.panicked h442) w441)))
 (I422 (j427.1,j427.2.1,j427.2.2.1,j427.2.2.2.1,j427.2.2.2.2.1,j427.2.2.2.2.2.2.1,j427.2.2.2.2.2.2.2.1,(IntKind.wrap .i64 (j427.2.2.2.2.2.2.2.2.1+1)),()) w435)) fun J425=>
 Br x424
 (LoadT (.agg [.int .i64,.int .i64,.sl,.sl]) w421 l419.1 fun x428=>
 LoadT (.agg [.int .i64,.int .i64,.sl,.sl]) w421 l419.2.1 fun x429=>
 LoadT (.agg [.sl,.int .i64,.int .i64,.str]) w421 l419.2.2.1 fun x430=>
 LoadT (.agg [.sl,.int .i64,.int .i64,.str]) w421 l419.2.2.2.1 fun x431=>
 CallT Tryd.prog 74 #[(.agg #[(.int .i64 x428.1),(.int .i64 x428.2.1),(.slice x428.2.2.1.a x428.2.2.1.n x428.2.2.1.c),(.slice x428.2.2.2.1.a x428.2.2.2.1.n x428.2.2.2.1.c)]),(.agg #[(.int .i64 x429.1),(.int .i64 x429.2.1),(.slice x429.2.2.1.a x429.2.2.1.n x429.2.2.1.c),(.slice x429.2.2.2.1.a x429.2.2.2.1.n x429.2.2.2.1.c)]),(.agg #[(.slice x430.1.a x430.1.n x430.1.c),(.int .i64 x430.2.1),(.int .i64 x430.2.2.1),(.string x430.2.2.2.1)]),(.agg #[(.slice x431.1.a x431.1.n x431.1.c),(.int .i64 x431.2.1),(.int .i64 x431.2.2.1),(.string x431.2.2.2.1)]),(.int .i64 l419.2.2.2.2.2.2.2.1)] (.sc .bool) w421 (fun r432 w433=>
 J425 (l419.1,l419.2.1,l419.2.2.1,l419.2.2.2.1,l419.2.2.2.2.1,l419.2.2.2.2.2.2.2.1,l419.2.2.2.2.2.1,l419.2.2.2.2.2.2.1,l419.2.2.2.2.2.2.2.1,r432,()) w433) (fun h434 w433=>R (.panicked h434) w433))
 (J425 (l419.1,l419.2.1,l419.2.2.1,l419.2.2.2.1,l419.2.2.2.2.1,l419.2.2.2.2.2.2.2.1,l419.2.2.2.2.2.1,l419.2.2.2.2.2.2.1,l419.2.2.2.2.2.2.2.1,false,()) w421))
 (R (.returned (.tuple #[(.string (ByteArray.mk #[])),(.bool false),(.int .i64 0)])) w421)) (fun h417 w416=>R (.panicked h417) w416)))))) (fun h407 w406=>R (.panicked h407) w406)) ∧
 (New w403 (.cells #[(.slice none 0 0),(.int .i64 0),(.int .i64 0),(.string (ByteArray.mk #[]))] 115) fun b446 w447=>
 S12 w447 ∧
 (CallT Tryd.prog 73 #[(.agg #[(.int .i64 x14.1),(.int .i64 x14.2.1),(.slice x14.2.2.1.a x14.2.2.1.n x14.2.2.1.c),(.slice x14.2.2.2.1.a x14.2.2.2.1.n x14.2.2.2.1.c)])] (.agg [.sl,.int .i64,.int .i64,.str]) w447 (fun r448 w449=>
 S12 w449 ∧
 (StoreN w449 (Addr.mk b446 0 none) [(.slice r402.1.a r402.1.n r402.1.c),(.int .i64 r402.2.1),(.int .i64 r402.2.2.1),(.string r402.2.2.2.1)] fun w451=>
 S12 w451 ∧
 (StoreN w451 (Addr.mk b400 0 none) [(.slice r448.1.a r448.1.n r448.1.c),(.int .i64 r448.2.1),(.int .i64 r448.2.2.1),(.string r448.2.2.2.1)] fun w452=>
 LoadT (.sc (.int .i64)) w452 ((Addr.mk b446 0 none).add 1) fun x453=>
 LoadT (.sc (.int .i64)) w452 ((Addr.mk b400 0 none).add 1) fun x454=>
 Br ((x453:Int) != x454)
 (R (.returned (.tuple #[(.string (ByteArray.mk #[])),(.bool false),(.int .i64 0)])) w452)
 (LoadT (.agg [.int .i64,.int .i64,.sl,.sl]) w452 (Addr.mk b3 0 none) fun x455=>
 CallT Tryd.prog 56 #[(.agg #[(.int .i64 x455.1),(.int .i64 x455.2.1),(.slice x455.2.2.1.a x455.2.2.1.n x455.2.2.1.c),(.slice x455.2.2.2.1.a x455.2.2.2.1.n x455.2.2.2.1.c)])] (.agg [.sl,.map,.sl]) w452 (fun r456 w457=>
 LoadT (.sc .sl) w457 ((Addr.mk b400 0 none).add 0) fun x459=>
 LoopT (σ:=Addr × Addr × Addr × Addr × Sl × Sl × Int × Int × Unit) ((Addr.mk b1 0 none),(Addr.mk b3 0 none),(Addr.mk b446 0 none),(Addr.mk b400 0 none),r456.1,x459,((x459.n:Nat):Int),0,()) w457 fun l460 g461 w462 I463=>
 Br (decide ((l460.2.2.2.2.2.2.2.1:Int)<l460.2.2.2.2.2.2.1))
 (Idx l460.2.2.2.2.2.1.a l460.2.2.2.2.2.1.n 1 l460.2.2.2.2.2.2.2.1 fun a464=>
 LoadT (.sc .bool) w462 a464 fun x465=>
 Join (σ:=Addr × Addr × Addr × Addr × Sl × Int × Sl × Int × Int × Bool × Unit) (fun j468 g467 w476=>
 Br j468.2.2.2.2.2.2.2.2.2.1
 (∃ S477:World→Prop,S477 w476.drew ∧
 (Idx j468.2.2.2.2.1.a j468.2.2.2.2.1.n 1 j468.2.2.2.2.2.1 fun a478=>
 LoadS S477 (.sc .str) a478 fun x479=>
 LoadS S477 (.sc .str) (j468.2.2.1.add 3) fun x480=>
 CallT Tryd.prog 75 #[(.string x480)] (.sc .str) w476.drew (fun r481 w482=>
 S477 w482 ∧
 ((((x479.size+r481.size:Nat):Int)≤9223372036854775807) ∧
 CallT Tryd.prog 48 #[(.string (x479 ++ r481))] (.sc .str) w482 (fun r484 w485=>
 S477 w485 ∧
 (R (.returned (.tuple #[(.string r484),(.bool true),(.int .i64 0)])) w485)) (fun h486 w485=>R (.panicked h486) w485))) (fun h483 w482=>R (.panicked h483) w482)))
 (I463 (j468.1,j468.2.1,j468.2.2.1,j468.2.2.2.1,j468.2.2.2.2.1,j468.2.2.2.2.2.2.1,j468.2.2.2.2.2.2.2.1,(IntKind.wrap .i64 (j468.2.2.2.2.2.2.2.2.1+1)),()) w476)) fun J466=>
 Br x465
 (LoadT (.agg [.int .i64,.int .i64,.sl,.sl]) w462 l460.1 fun x469=>
 LoadT (.agg [.int .i64,.int .i64,.sl,.sl]) w462 l460.2.1 fun x470=>
 LoadT (.agg [.sl,.int .i64,.int .i64,.str]) w462 l460.2.2.1 fun x471=>
 LoadT (.agg [.sl,.int .i64,.int .i64,.str]) w462 l460.2.2.2.1 fun x472=>
 CallT Tryd.prog 74 #[(.agg #[(.int .i64 x469.1),(.int .i64 x469.2.1),(.slice x469.2.2.1.a x469.2.2.1.n x469.2.2.1.c),(.slice x469.2.2.2.1.a x469.2.2.2.1.n x469.2.2.2.1.c)]),(.agg #[(.int .i64 x470.1),(.int .i64 x470.2.1),(.slice x470.2.2.1.a x470.2.2.1.n x470.2.2.1.c),(.slice x470.2.2.2.1.a x470.2.2.2.1.n x470.2.2.2.1.c)]),(.agg #[(.slice x471.1.a x471.1.n x471.1.c),(.int .i64 x471.2.1),(.int .i64 x471.2.2.1),(.string x471.2.2.2.1)]),(.agg #[(.slice x472.1.a x472.1.n x472.1.c),(.int .i64 x472.2.1),(.int .i64 x472.2.2.1),(.string x472.2.2.2.1)]),(.int .i64 l460.2.2.2.2.2.2.2.1)] (.sc .bool) w462 (fun r473 w474=>
 J466 (l460.1,l460.2.1,l460.2.2.1,l460.2.2.2.1,l460.2.2.2.2.1,l460.2.2.2.2.2.2.2.1,l460.2.2.2.2.2.1,l460.2.2.2.2.2.2.1,l460.2.2.2.2.2.2.2.1,r473,()) w474) (fun h475 w474=>R (.panicked h475) w474))
 (J466 (l460.1,l460.2.1,l460.2.2.1,l460.2.2.2.1,l460.2.2.2.2.1,l460.2.2.2.2.2.2.2.1,l460.2.2.2.2.2.1,l460.2.2.2.2.2.2.1,l460.2.2.2.2.2.2.2.1,false,()) w462))
 (R (.returned (.tuple #[(.string (ByteArray.mk #[])),(.bool false),(.int .i64 0)])) w462)) (fun h458 w457=>R (.panicked h458) w457))))) (fun h450 w449=>R (.panicked h450) w449))))) (fun h404 w403=>R (.panicked h404) w403)) ∧
 (New w401 (.cells #[(.slice none 0 0),(.int .i64 0),(.int .i64 0),(.string (ByteArray.mk #[]))] 115) fun b487 w488=>
 S12 w488 ∧
 (CallT Tryd.prog 73 #[(.agg #[(.int .i64 x13.1),(.int .i64 x13.2.1),(.slice x13.2.2.1.a x13.2.2.1.n x13.2.2.1.c),(.slice x13.2.2.2.1.a x13.2.2.2.1.n x13.2.2.2.1.c)])] (.agg [.sl,.int .i64,.int .i64,.str]) w488 (fun r489 w490=>
 S12 w490 ∧
 (CallT Tryd.prog 73 #[(.agg #[(.int .i64 x14.1),(.int .i64 x14.2.1),(.slice x14.2.2.1.a x14.2.2.1.n x14.2.2.1.c),(.slice x14.2.2.2.1.a x14.2.2.2.1.n x14.2.2.2.1.c)])] (.agg [.sl,.int .i64,.int .i64,.str]) w490 (fun r492 w493=>
 S12 w493 ∧
 (StoreN w493 (Addr.mk b487 0 none) [(.slice r489.1.a r489.1.n r489.1.c),(.int .i64 r489.2.1),(.int .i64 r489.2.2.1),(.string r489.2.2.2.1)] fun w495=>
 S12 w495 ∧
 (StoreN w495 (Addr.mk b400 0 none) [(.slice r492.1.a r492.1.n r492.1.c),(.int .i64 r492.2.1),(.int .i64 r492.2.2.1),(.string r492.2.2.2.1)] fun w496=>
 LoadT (.sc (.int .i64)) w496 ((Addr.mk b487 0 none).add 1) fun x497=>
 LoadT (.sc (.int .i64)) w496 ((Addr.mk b400 0 none).add 1) fun x498=>
 Br ((x497:Int) != x498)
 (R (.returned (.tuple #[(.string (ByteArray.mk #[])),(.bool false),(.int .i64 0)])) w496)
 (LoadT (.agg [.int .i64,.int .i64,.sl,.sl]) w496 (Addr.mk b3 0 none) fun x499=>
 CallT Tryd.prog 56 #[(.agg #[(.int .i64 x499.1),(.int .i64 x499.2.1),(.slice x499.2.2.1.a x499.2.2.1.n x499.2.2.1.c),(.slice x499.2.2.2.1.a x499.2.2.2.1.n x499.2.2.2.1.c)])] (.agg [.sl,.map,.sl]) w496 (fun r500 w501=>
 LoadT (.sc .sl) w501 ((Addr.mk b400 0 none).add 0) fun x503=>
 LoopT (σ:=Addr × Addr × Addr × Addr × Sl × Sl × Int × Int × Unit) ((Addr.mk b1 0 none),(Addr.mk b3 0 none),(Addr.mk b487 0 none),(Addr.mk b400 0 none),r500.1,x503,((x503.n:Nat):Int),0,()) w501 fun l504 g505 w506 I507=>
 Br (decide ((l504.2.2.2.2.2.2.2.1:Int)<l504.2.2.2.2.2.2.1))
 (Idx l504.2.2.2.2.2.1.a l504.2.2.2.2.2.1.n 1 l504.2.2.2.2.2.2.2.1 fun a508=>
 LoadT (.sc .bool) w506 a508 fun x509=>
 Join (σ:=Addr × Addr × Addr × Addr × Sl × Int × Sl × Int × Int × Bool × Unit) (fun j512 g511 w520=>
 Br j512.2.2.2.2.2.2.2.2.2.1
 (∃ S521:World→Prop,S521 w520.drew ∧
 (Idx j512.2.2.2.2.1.a j512.2.2.2.2.1.n 1 j512.2.2.2.2.2.1 fun a522=>
 LoadS S521 (.sc .str) a522 fun x523=>
 LoadS S521 (.sc .str) (j512.2.2.1.add 3) fun x524=>
 CallT Tryd.prog 75 #[(.string x524)] (.sc .str) w520.drew (fun r525 w526=>
 S521 w526 ∧
 ((((x523.size+r525.size:Nat):Int)≤9223372036854775807) ∧
 CallT Tryd.prog 48 #[(.string (x523 ++ r525))] (.sc .str) w526 (fun r528 w529=>
 S521 w529 ∧
 (R (.returned (.tuple #[(.string r528),(.bool true),(.int .i64 0)])) w529)) (fun h530 w529=>R (.panicked h530) w529))) (fun h527 w526=>R (.panicked h527) w526)))
 (I507 (j512.1,j512.2.1,j512.2.2.1,j512.2.2.2.1,j512.2.2.2.2.1,j512.2.2.2.2.2.2.1,j512.2.2.2.2.2.2.2.1,(IntKind.wrap .i64 (j512.2.2.2.2.2.2.2.2.1+1)),()) w520)) fun J510=>
 Br x509
 (LoadT (.agg [.int .i64,.int .i64,.sl,.sl]) w506 l504.1 fun x513=>
 LoadT (.agg [.int .i64,.int .i64,.sl,.sl]) w506 l504.2.1 fun x514=>
 LoadT (.agg [.sl,.int .i64,.int .i64,.str]) w506 l504.2.2.1 fun x515=>
 LoadT (.agg [.sl,.int .i64,.int .i64,.str]) w506 l504.2.2.2.1 fun x516=>
 CallT Tryd.prog 74 #[(.agg #[(.int .i64 x513.1),(.int .i64 x513.2.1),(.slice x513.2.2.1.a x513.2.2.1.n x513.2.2.1.c),(.slice x513.2.2.2.1.a x513.2.2.2.1.n x513.2.2.2.1.c)]),(.agg #[(.int .i64 x514.1),(.int .i64 x514.2.1),(.slice x514.2.2.1.a x514.2.2.1.n x514.2.2.1.c),(.slice x514.2.2.2.1.a x514.2.2.2.1.n x514.2.2.2.1.c)]),(.agg #[(.slice x515.1.a x515.1.n x515.1.c),(.int .i64 x515.2.1),(.int .i64 x515.2.2.1),(.string x515.2.2.2.1)]),(.agg #[(.slice x516.1.a x516.1.n x516.1.c),(.int .i64 x516.2.1),(.int .i64 x516.2.2.1),(.string x516.2.2.2.1)]),(.int .i64 l504.2.2.2.2.2.2.2.1)] (.sc .bool) w506 (fun r517 w518=>
 J510 (l504.1,l504.2.1,l504.2.2.1,l504.2.2.2.1,l504.2.2.2.2.1,l504.2.2.2.2.2.2.2.1,l504.2.2.2.2.2.1,l504.2.2.2.2.2.2.1,l504.2.2.2.2.2.2.2.1,r517,()) w518) (fun h519 w518=>R (.panicked h519) w518))
 (J510 (l504.1,l504.2.1,l504.2.2.1,l504.2.2.2.1,l504.2.2.2.2.1,l504.2.2.2.2.2.2.2.1,l504.2.2.2.2.2.1,l504.2.2.2.2.2.2.1,l504.2.2.2.2.2.2.2.1,false,()) w506))
 (R (.returned (.tuple #[(.string (ByteArray.mk #[])),(.bool false),(.int .i64 0)])) w506)) (fun h502 w501=>R (.panicked h502) w501))))) (fun h494 w493=>R (.panicked h494) w493))) (fun h491 w490=>R (.panicked h491) w490)))))))) (fun h11 w10=>R (.panicked h11) w10)
theorem fold_Conjugator.calls (p0:Int)(p1_0:Int)(p1_1:Int)(p1_2:Sl)(p1_3:Sl)(p2_0:Int)(p2_1:Int)(p2_2:Sl)(p2_3:Sl){R:Ending→World→Prop}{w:World}(h:fold_Conjugator.sh p0 p1_0 p1_1 p1_2 p1_3 p2_0 p2_1 p2_2 p2_3 R w):Calls Tryd.prog 39 #[(.int .i64 p0),(.agg #[(.int .i64 p1_0),(.int .i64 p1_1),(.slice p1_2.a p1_2.n p1_2.c),(.slice p1_3.a p1_3.n p1_3.c)]),(.agg #[(.int .i64 p2_0),(.int .i64 p2_1),(.slice p2_2.a p2_2.n p2_2.c),(.slice p2_3.a p2_3.n p2_3.c)])] w R:=calls_of_wpc mixed Tryd.func39 (by kernel_rfl) (by kernel_rfl) ((show _=wpc Tryd.prog fold_Conjugator.ann fold_Conjugator.body (fnKs Tryd.prog Tryd.f39 R) [] (env0 #[(.int .i64 p0),(.agg #[(.int .i64 p1_0),(.int .i64 p1_1),(.slice p1_2.a p1_2.n p1_2.c),(.slice p1_3.a p1_3.n p1_3.c)]),(.agg #[(.int .i64 p2_0),(.int .i64 p2_1),(.slice p2_2.a p2_2.n p2_2.c),(.slice p2_3.a p2_3.n p2_3.c)])]) w by kernel_rfl).mp h)
end Go.Proofs.YtffdjfkekdoeaaaDoor
end
section
namespace Go.Proofs.YtffdjfkekdoeaaaDoor.Fo
open Fw Wd Rf Pl
def ConjrIs (k:Int)(a b:Aut)(y:ByteArray × Bool × Int × Unit):Prop:=
 (examF k [a,b] []≠0∧y=(⟨#[]⟩,false,examF k [a,b] [],())) ∨
 (examF k [a,b] []=0∧∃ ca cb,coreF a.next.length a.next (core0 a.next)=some ca∧coreF b.next.length b.next (core0 b.next)=some cb ∧
  ((y=(⟨#[]⟩,false,0,())∧(ca.size=cb.size→∀ s,cb.inn[s]? = some true→alB a b ca cb s=false)) ∨
   ∃ s,ca.size=cb.size∧cb.inn[s]? = some true∧alB a b ca cb s=true∧y=(ReduceF ((treeF b.next).paths.getD s ⟨#[]⟩ ++ InverseF ca.stem),true,0,())))
theorem conjr_inv_size (s:ByteArray):(InverseF s).size≤s.size:=by
 unfold InverseF;split
 ·show(invF s.data.toList).toArray.size≤_
  rw[List.size_toArray,invF,List.length_reverse,List.length_map,Array.length_toList];exact Nat.le_refl _
 ·exact Nat.zero_le _
def cjTail (b1 b3 b21 b23:Nat)(R:Ending→World→Prop)(w26:World):Prop:=
 LoadT (.sc (.int .i64)) w26 ((Addr.mk b21 0 none).add 1) fun x27=>
 LoadT (.sc (.int .i64)) w26 ((Addr.mk b23 0 none).add 1) fun x28=>
 Br ((x27:Int) != x28)
  (R (.returned (.tuple #[(.string (ByteArray.mk #[])),(.bool false),(.int .i64 0)])) w26)
  (LoadT (.agg [.int .i64,.int .i64,.sl,.sl]) w26 (Addr.mk b3 0 none) fun x29=>
  CallT Tryd.prog 56 #[(.agg #[(.int .i64 x29.1),(.int .i64 x29.2.1),(.slice x29.2.2.1.a x29.2.2.1.n x29.2.2.1.c),(.slice x29.2.2.2.1.a x29.2.2.2.1.n x29.2.2.2.1.c)])] (.agg [.sl,.map,.sl]) w26 (fun r30 w31=>
   LoadT (.sc .sl) w31 ((Addr.mk b23 0 none).add 0) fun x33=>
   LoopT (σ:=Addr × Addr × Addr × Addr × Sl × Sl × Int × Int × Unit) ((Addr.mk b1 0 none),(Addr.mk b3 0 none),(Addr.mk b21 0 none),(Addr.mk b23 0 none),r30.1,x33,((x33.n:Nat):Int),0,()) w31 fun l34 g35 w36 I37=>
    Br (decide ((l34.2.2.2.2.2.2.2.1:Int)<l34.2.2.2.2.2.2.1))
     (Idx l34.2.2.2.2.2.1.a l34.2.2.2.2.2.1.n 1 l34.2.2.2.2.2.2.2.1 fun a38=>
     LoadT (.sc .bool) w36 a38 fun x39=>
     Join (σ:=Addr × Addr × Addr × Addr × Sl × Int × Sl × Int × Int × Bool × Unit) (fun j42 g41 w50=>
      Br j42.2.2.2.2.2.2.2.2.2.1
       (∃ S51:World→Prop,S51 w50.drew ∧
       (Idx j42.2.2.2.2.1.a j42.2.2.2.2.1.n 1 j42.2.2.2.2.2.1 fun a52=>
       LoadS S51 (.sc .str) a52 fun x53=>
       LoadS S51 (.sc .str) (j42.2.2.1.add 3) fun x54=>
       CallT Tryd.prog 75 #[(.string x54)] (.sc .str) w50.drew (fun r55 w56=>
         S51 w56 ∧
         ((((x53.size+r55.size:Nat):Int)≤9223372036854775807) ∧
         CallT Tryd.prog 48 #[(.string (x53 ++ r55))] (.sc .str) w56 (fun r58 w59=>
           S51 w59 ∧
           (R (.returned (.tuple #[(.string r58),(.bool true),(.int .i64 0)])) w59)) (fun h60 w59=>R (.panicked h60) w59))) (fun h57 w56=>R (.panicked h57) w56)))
       (I37 (j42.1,j42.2.1,j42.2.2.1,j42.2.2.2.1,j42.2.2.2.2.1,j42.2.2.2.2.2.2.1,j42.2.2.2.2.2.2.2.1,(IntKind.wrap .i64 (j42.2.2.2.2.2.2.2.2.1+1)),()) w50)) fun J40=>
      Br x39
       (LoadT (.agg [.int .i64,.int .i64,.sl,.sl]) w36 l34.1 fun x43=>
       LoadT (.agg [.int .i64,.int .i64,.sl,.sl]) w36 l34.2.1 fun x44=>
       LoadT (.agg [.sl,.int .i64,.int .i64,.str]) w36 l34.2.2.1 fun x45=>
       LoadT (.agg [.sl,.int .i64,.int .i64,.str]) w36 l34.2.2.2.1 fun x46=>
       CallT Tryd.prog 74 #[(.agg #[(.int .i64 x43.1),(.int .i64 x43.2.1),(.slice x43.2.2.1.a x43.2.2.1.n x43.2.2.1.c),(.slice x43.2.2.2.1.a x43.2.2.2.1.n x43.2.2.2.1.c)]),(.agg #[(.int .i64 x44.1),(.int .i64 x44.2.1),(.slice x44.2.2.1.a x44.2.2.1.n x44.2.2.1.c),(.slice x44.2.2.2.1.a x44.2.2.2.1.n x44.2.2.2.1.c)]),(.agg #[(.slice x45.1.a x45.1.n x45.1.c),(.int .i64 x45.2.1),(.int .i64 x45.2.2.1),(.string x45.2.2.2.1)]),(.agg #[(.slice x46.1.a x46.1.n x46.1.c),(.int .i64 x46.2.1),(.int .i64 x46.2.2.1),(.string x46.2.2.2.1)]),(.int .i64 l34.2.2.2.2.2.2.2.1)] (.sc .bool) w36 (fun r47 w48=>
        J40 (l34.1,l34.2.1,l34.2.2.1,l34.2.2.2.1,l34.2.2.2.2.1,l34.2.2.2.2.2.2.2.1,l34.2.2.2.2.2.1,l34.2.2.2.2.2.2.1,l34.2.2.2.2.2.2.2.1,r47,()) w48) (fun h49 w48=>R (.panicked h49) w48))
       (J40 (l34.1,l34.2.1,l34.2.2.1,l34.2.2.2.1,l34.2.2.2.2.1,l34.2.2.2.2.2.2.2.1,l34.2.2.2.2.2.1,l34.2.2.2.2.2.2.1,l34.2.2.2.2.2.2.2.1,false,()) w36))
     (R (.returned (.tuple #[(.string (ByteArray.mk #[])),(.bool false),(.int .i64 0)])) w36)) (fun h32 w31=>R (.panicked h32) w31))
theorem cjTail_ok {w W:World}(hl:Laid w){x1 x2 y1 y2:Int}{sa sn ta tn:Sl}{a b:Aut}(ha:AutIn w (x1,x2,sa,sn,()) a)(hb:AutIn w (y1,y2,ta,tn,()) b){k:Int}(hz:examF k [a,b] []=0)(hc:a.check k=0)(hd:b.check k=0)(hk:1≤k∧k≤8)
  {b1 b3 bA bB:Nat} (hW:Chg Nil w W) (h1:W.heap[b1]? = some (.cells #[.int .i64 x1,.int .i64 x2,sa.v,sn.v] 27 (0,0))) (h3:W.heap[b3]? = some (.cells #[.int .i64 y1,.int .i64 y2,ta.v,tn.v] 27 (0,0)))
  {rA rB:Sl × Int × Int × ByteArray × Unit} {ca cb:Co} (hA:W.heap[bA]? = some (.cells #[rA.1.v,.int .i64 rA.2.1,.int .i64 rA.2.2.1,.string rA.2.2.2.1] 115 (0,0))) (hB:W.heap[bB]? = some (.cells #[rB.1.v,.int .i64 rB.2.1,.int .i64 rB.2.2.1,.string rB.2.2.2.1] 115 (0,0)))
  (ia:CoIn W rA ca) (ib:CoIn W rB cb) (ea:coreF a.next.length a.next (core0 a.next)=some ca) (eb:coreF b.next.length b.next (core0 b.next)=some cb)
  {R:Ending→World→Prop} (hR:∀ (y:ByteArray × Bool × Int × Unit) (W':World),ConjrIs k a b y→Chg Nil w W'→R (.returned (.tuple #[.string y.1,.bool y.2.1,.int .i64 y.2.2.1])) W'):cjTail b1 b3 bA bB R W:=by
 obtain⟨_,ea',la1,la2,la3,la4⟩:=core_of hc hk;rw[ea]at ea';cases ea';obtain⟨_,eb',lb1,lb2,lb3,lb4⟩:=core_of hd hk;rw[eb]at eb';cases eb';obtain⟨_,_,n1,n2,_⟩:=check_spec hc;obtain⟨_,_,m1,m2,_⟩:=check_spec hd;have bA':ca.base<a.next.length:=by have:=(List.getElem?_eq_some_iff.1 la2).1;omega
 unfold cjTail;have sA:rA.2.1=ca.size:=ia.size;have sB:rB.2.1=cb.size:=ib.size;have no:∀ W',Chg Nil W W'→(ca.size=cb.size→∀ s,cb.inn[s]? = some true→alB a b ca cb s=false)→R (.returned (.tuple #[.string ⟨#[]⟩,.bool false,.int .i64 0])) W':=fun W' h h2=>
  hR (⟨#[]⟩,false,0,()) W' (.inr ⟨hz,ca,cb,ea,eb,.inl ⟨rfl,h2⟩⟩) (hW.then h)
 refine LoadT.sc (s:=.int .i64) (x:=ca.size) (by rw[cellOf hA,← sA];rfl) ?_
 refine LoadT.sc (s:=.int .i64) (x:=cb.size) (by rw[cellOf hB,← sB];rfl) ?_
 refine Br.mk (fun hne=>?_) (fun heq=>?_)
 ·have hne:ca.size≠cb.size:=by simpa using hne
  exact no _ (Chg.refl _) fun h=>absurd h hne
 have heq:ca.size=cb.size:=by simpa using heq
 refine LoadT.mk tA (x:=(y1,y2,ta,tn,())) (fun j v hv=>by rw[show Addr.mk b3 0 none=at0 b3 from rfl,show at0 b3=Addr.mk b3 0 none from rfl,cellOf h3];simpa[Ty.cells] using hv) ?_
 refine Ret.call (grown_ret (hl.nil hW) (x:=(y1,y2,ta,tn,())) (hb.nil hW) hd hk) ?_
 rintro⟨sp,om,sb,_⟩ W5 ⟨gg,mb,e1,e2,hc5,hpaths,_,_,_,hok,_,_,_⟩
 dsimp only at e1 e2 hpaths;refine LoadT.sc (s:=.sl) (x:=rB.1) (by rw[cellOf (hc5.heap hB fun h=>h)];rfl) ?_
 have hrn:rB.1.n=b.next.length:=by rw[ib.inn.len,lb1]
 refine LoopT.mk (fun z V=>∃ i:Nat,i≤b.next.length∧z=(at0 b1,at0 b3,at0 bA,at0 bB,sp,rB.1,((rB.1.n:Nat):Int),(i:Int),())∧Chg Nil W5 V∧∀ s,s<i→cb.inn[s]? = some true→alB a b ca cb s=false) (fun z _=>b.next.length-z.2.2.2.2.2.2.2.1.toNat)
  ⟨0,Nat.zero_le _,rfl,Chg.refl _,fun s hs=>by omega⟩ ?_
 rintro z g V ⟨i,hi,rfl,hV,hno⟩
 dsimp only;have hWV:=hc5.then hV
 have hwV:=hW.then hWV
 refine Br.dec (fun hlt=>?_) (fun hge=>?_)
 rotate_left
 ·have hge:¬ (i:Int)<((rB.1.n:Nat):Int):=hge;exact no _ hWV fun _ s hs=>hno s (by have:=(List.getElem?_eq_some_iff.1 hs).1;omega) hs
 have hlt:(i:Int)<((rB.1.n:Nat):Int):=hlt;have hil:i<b.next.length:=by omega
 obtain⟨bv,hbv⟩:∃ e,cb.inn[i]? = some e:=⟨_,List.getElem?_eq_getElem (by omega)⟩
 refine(ib.inn.rd.chg hWV fun _ _ h=>h).get (t:=.sc .bool) i rfl hbv ?_
 have hal:=alB_spec (a:=a) (b:=b) la1 lb1 bA' hil;refine Join.by' (fun z U=>∃ r:Bool,z=(at0 b1,at0 b3,at0 bA,at0 bB,sp,(i:Int),rB.1,((rB.1.n:Nat):Int),(i:Int),r,())∧Chg Nil V U∧(r=true→bv=true∧alB a b ca cb i=true)∧(r=false→bv=true→alB a b ca cb i=false)) ?_ ?_
 rotate_left
 ·intro J hJ;refine Br.mk (fun hb1=>?_) (fun hb0=>?_)
  ·refine LoadT.mk tA (x:=(x1,x2,sa,sn,())) (fun j v hv=>by rw[show at0 b1=Addr.mk b1 0 none from rfl,cellOf (hWV.heap h1 fun h=>h)];simpa[Ty.cells] using hv) ?_
   refine LoadT.mk tA (x:=(y1,y2,ta,tn,())) (fun j v hv=>by rw[show at0 b3=Addr.mk b3 0 none from rfl,cellOf (hWV.heap h3 fun h=>h)];simpa[Ty.cells] using hv) ?_
   refine LoadT.mk tC (x:=rA) (fun j v hv=>by rw[show at0 bA=Addr.mk bA 0 none from rfl,cellOf (hWV.heap hA fun h=>h)];simpa[Ty.cells] using hv) ?_
   refine LoadT.mk tC (x:=rB) (fun j v hv=>by rw[show at0 bB=Addr.mk bB 0 none from rfl,cellOf (hWV.heap hB fun h=>h)];simpa[Ty.cells] using hv) ?_
   refine Ret.call (alike_ret (x:=(x1,x2,sa,sn,())) (y:=(y1,y2,ta,tn,())) (ha.nil hwV) (hb.nil hwV) hc hd hk (ia.nil hWV) (ib.nil hWV) la1 lb1 bA' hil hal) ?_
   rintro r U ⟨rfl,hU⟩
   exact hJ _ _ ⟨_,rfl,hU,fun h=>⟨hb1,h⟩,fun h _=>h⟩
  ·exact hJ _ _ ⟨false,rfl,Chg.refl _,(fun h=>by cases h),fun _ h=>by rw[hb0]at h;cases h⟩
 rintro z U g2 ⟨r,rfl,hU,ht,hf⟩
 dsimp only;have hwU:=hwV.then hU
 refine Br.mk (fun hr=>?_) (fun hr=>?_)
 ·obtain⟨hb1,hal1⟩:=ht hr;rw[hb1]at hbv;have hd2:Chg Nil U U.drew:=Chg.drew U;have hWU:=hWV.then hU
  refine⟨fun X=>Chg Nil U X,hd2,?_⟩
  have hpl:(treeF b.next).paths.length=b.next.length:=hok.len;obtain⟨ps,hps⟩:∃ e,(treeF b.next).paths[i]? = some e:=⟨_,List.getElem?_eq_getElem (by omega)⟩
  have hps':(treeF b.next).paths.getD i ⟨#[]⟩=ps:=by rw[List.getD_eq_getElem?_getD,hps];rfl
  have hsm:=hok.small ps (List.mem_of_getElem? hps);have hsn:=hok.seen;have hstem:rA.2.2.2.1=ca.stem:=ia.stem;refine(hpaths.rd.chg (hV.then hU) fun _ _ h=>h).idx (t:=tS) i rfl hps fun ad had=>?_
  have had0:=had 0 _ rfl;rw[add0]at had0;refine LoadS.sc (s:=.str) (x:=ps) (fun X hX=>hX.cell had0 fun h=>h) ?_
  refine LoadS.sc (s:=.str) (x:=ca.stem) (fun X hX=>by rw[show at0 bA=Addr.mk bA 0 none from rfl,cellOf ((hWU.then hX).heap hA fun h=>h),← hstem];rfl) ?_
  refine Ret.call (Inverse_ret (hl.nil (hwU.then hd2)) ca.stem) ?_
  rintro _ U1 ⟨rfl,hU1⟩
  have d1:=hd2.then hU1
  have his:=conjr_inv_size ca.stem;refine⟨d1,by omega,?_⟩
  refine Ret.call (Reduce_ret (hl.nil (hwU.then d1)) (ps ++ InverseF ca.stem)) ?_
  rintro _ U2 ⟨rfl,hU2⟩
  have d2:=d1.then hU2
  refine⟨d2,?_⟩;rw[← hps'];exact hR (ReduceF ((treeF b.next).paths.getD i ⟨#[]⟩ ++ InverseF ca.stem),true,0,()) U2 (.inr ⟨hz,ca,cb,ea,eb,.inr ⟨i,heq,hbv,hal1,rfl⟩⟩) (hwU.then d2)
 ·refine⟨⟨i+1,by omega,by rw[wrap64 (by omega) (by omega)];rfl,hV.then hU,fun s hs hin=>?_⟩,?_⟩
  ·by_cases he:s=i
   ·subst he;rw[hbv]at hin;cases hin;exact hf hr rfl
   ·exact hno s (by omega) hin
  ·show b.next.length-(IntKind.wrap .i64 ((i:Int)+1)).toNat<b.next.length-((i:Int)).toNat
   rw[wrap64 (by omega) (by omega)];omega
theorem Conjugator_ret {w:World}(hl:Laid w){k:Int}{x y:Int × Int × Sl × Sl × Unit}{a b:Aut}(ha:AutIn w x a)(hb:AutIn w y b) :
  RetN Tryd.prog 39 #[.int .i64 k,.agg #[.int .i64 x.1,.int .i64 x.2.1,x.2.2.1.v,x.2.2.2.1.v],.agg #[.int .i64 y.1,.int .i64 y.2.1,y.2.2.1.v,y.2.2.2.1.v]] [.sc .str,.sc .bool,.sc (.int .i64)] w fun z w'=>ConjrIs k a b z∧Chg Nil w w':=by
 obtain⟨x1,x2,sa,sn,_⟩:=x;obtain⟨y1,y2,ta,tn,_⟩:=y;refine fold_Conjugator.calls k x1 x2 sa sn y1 y2 ta tn ?_;unfold fold_Conjugator.sh;refine New.mk fun b1 w1 hb1 hh1 hs1 hc1=>?_
 refine New.mk fun b3 w2 hb3 hh3 hs3 hc3=>?_
 have h1:w2.heap[b1]? = some _:=hc3.heap hh1 fun h=>h
 have hc02:=hc1.then hc3
 refine LoadT.mk tA (x:=(x1,x2,sa,sn,())) (fun j v hv=>by rw[cellOf h1];simpa[Ty.cells] using hv) ?_
 refine LoadT.mk tA (x:=(y1,y2,ta,tn,())) (fun j v hv=>by rw[cellOf hh3];simpa[Ty.cells] using hv) ?_
 refine New.mk fun b7 w4 hb7 hh7 hs7 hc7=>?_
 have hc04:=hc02.then hc7
 refine Ret.call (exam_ret (sl:=⟨some ⟨b7,0,none⟩,2,2⟩) (sw:=⟨none,0,0⟩) (xs:=[(x1,x2,sa,sn,()),(y1,y2,ta,tn,())]) (ats:=[a,b]) (ws:=[]) (hl.nil hc04) (rd_lit hh7 rfl rfl) rfl (fun i z c hz hc=>by
  match i,hz,hc with
  | 0,hz,hc=>simp at hz hc;subst hz;subst hc;exact ha.nil hc04
  | 1,hz,hc=>simp at hz hc;subst hz;subst hc;exact hb.nil hc04
  | i+2,hz,hc=>simp at hz) (RdT.nil _ _ _ _) (by simp) (by simp)) ?_
 rintro _ w10 ⟨rfl,hc10⟩
 have hc010:=hc04.then hc10
 have d210:=hc7.then hc10
 refine Br.mk (fun hne=>?_) (fun heq=>?_)
 ·have hne:examF k [a,b] []≠0:=by simpa using hne
  exact⟨(⟨#[]⟩,false,examF k [a,b] [],()),rfl,.inl ⟨hne,rfl⟩,hc010⟩
 ·have hz:examF k [a,b] []=0:=by simpa using heq
  have hk:=exam_rank hz;obtain⟨hca,hcb⟩:=(exam_two hk).1 hz;obtain⟨ca,ea,la1,la2,la3,la4⟩:=core_of hca hk;obtain⟨cb,eb,lb1,lb2,lb3,lb4⟩:=core_of hcb hk;obtain⟨_,_,n1,n2,_⟩:=check_spec hca;obtain⟨_,_,m1,m2,_⟩:=check_spec hcb;have q1:∀ {W:World},Chg Nil w10 W→W.heap[b1]? = some _:=fun hW=>(d210.then hW).heap h1 fun h=>h
  have q3:∀ {W:World},Chg Nil w10 W→W.heap[b3]? = some _:=fun hW=>(d210.then hW).heap hh3 fun h=>h
  have cA:∀ {W:World},Chg Nil w10 W→∀ {K:tC.den→World→Prop} {Kp:List PanicEntry→World→Prop},(∀ r W',CoIn W' r ca→Chg Nil W W'→K r W')→CallT Tryd.prog 73 #[.agg #[.int .i64 x1,.int .i64 x2,sa.v,sn.v]] tC W K Kp:=fun hW K Kp kk=>
   Ret.call (cored_ret (x:=(x1,x2,sa,sn,())) (hl.nil (hc010.then hW)) (ha.nil (hc010.then hW)) hca hk (by omega) ea) fun r W' ⟨e1,e2⟩=>kk r W' e1 e2
  have cB:∀ {W:World},Chg Nil w10 W→∀ {K:tC.den→World→Prop} {Kp:List PanicEntry→World→Prop},(∀ r W',CoIn W' r cb→Chg Nil W W'→K r W')→CallT Tryd.prog 73 #[.agg #[.int .i64 y1,.int .i64 y2,ta.v,tn.v]] tC W K Kp:=fun hW K Kp kk=>
   Ret.call (cored_ret (x:=(y1,y2,ta,tn,())) (hl.nil (hc010.then hW)) (hb.nil (hc010.then hW)) hcb hk (by omega) eb) fun r W' ⟨e1,e2⟩=>kk r W' e1 e2
  have keep:∀ {W W':World} {b:Nat} {r:Sl × Int × Int × ByteArray × Unit} {c:Co} {cs:Array Value},CoIn W r c→W.heap[b]? = some (.cells cs 115 (0,0))→Chg (· = b) W W'→CoIn W' r c:=fun {W W' b r c cs} h hb hc=>
   ⟨h.inn.chg hc fun ad had hq=>by
    obtain⟨cur,hcur⟩:=h.inn.elem ⟨ad,had,rfl⟩;exact ne_of_elem hcur hb (by decide) hq,h.size,h.base,h.stem⟩
  have ch:∀ {W W':World} {b:Nat},Chg Nil w10 W→Chg (· = b) W W'→w10.heap.size≤b→Chg Nil w10 W':=fun hW hc hb=>hW.trans hc (fun _ _ h=>h) fun q hq hk=>by have hk:q=_:=hk;omega
  have fin:∀ {W:World} {bA bB:Nat} {rA rB:Sl × Int × Int × ByteArray × Unit},Chg Nil w10 W→W.heap[bA]? = some (.cells #[.slice none 0 0,.int .i64 0,.int .i64 0,.string ⟨#[]⟩] 115 (0,0))→W.heap[bB]? = some (.cells #[.slice none 0 0,.int .i64 0,.int .i64 0,.string ⟨#[]⟩] 115 (0,0)) →
    bA≠bB→w10.heap.size≤bA→w10.heap.size≤bB→CoIn W rA ca→CoIn W rB cb →
    StoreN W (Addr.mk bA 0 none) [.slice rA.1.a rA.1.n rA.1.c,.int .i64 rA.2.1,.int .i64 rA.2.2.1,.string rA.2.2.2.1] fun W2=>Chg Nil w10 W2∧StoreN W2 (Addr.mk bB 0 none) [.slice rB.1.a rB.1.n rB.1.c,.int .i64 rB.2.1,.int .i64 rB.2.2.1,.string rB.2.2.2.1] fun W3=>
     cjTail b1 b3 bA bB (fun e w'=>∃ z,e = .returned (.tuple (tvals [.sc .str,.sc .bool,.sc (.int .i64)] z).toArray)∧ConjrIs k a b z∧Chg Nil w w') W3:=fun {W bA bB rA rB} dW hA hB hne gA gB rA' rB'=>by
   refine StoreN.whole (vs:=[.slice rA.1.a rA.1.n rA.1.c,.int .i64 rA.2.1,.int .i64 rA.2.2.1,.string rA.2.2.2.1]) hA rfl fun W2 f2 c2 _=>?_
   have d2:=ch dW c2 gA;refine⟨d2,?_⟩;have hB2:=c2.heap hB fun h=>hne h.symm
   refine StoreN.whole (vs:=[.slice rB.1.a rB.1.n rB.1.c,.int .i64 rB.2.1,.int .i64 rB.2.2.1,.string rB.2.2.2.1]) hB2 rfl fun W3 f3 c3 _=>?_
   have d3:=ch d2 c3 gB;exact cjTail_ok (rA:=rA) (rB:=rB) hl ha hb hz hca hcb hk (hc010.then d3) (q1 d3) (q3 d3) (c3.heap f2 fun h=>hne h) f3 (keep (keep rA' hA c2) hB2 c3) (keep (keep rB' hA c2) hB2 c3) ea eb fun z W' e1 e2=>⟨z,rfl,e1,e2⟩
  have d0:Chg Nil w10 w10.drew:=Chg.drew w10;have s0:w10.drew.heap.size=w10.heap.size:=rfl;refine⟨fun X=>Chg Nil w10 X,d0,?_⟩
  refine LoadS.mk tA (x:=(x1,x2,sa,sn,())) (fun X hX j v hv=>by rw[cellOf (q1 hX)];simpa[Ty.cells] using hv) ?_
  refine LoadS.mk tA (x:=(y1,y2,ta,tn,())) (fun X hX j v hv=>by rw[cellOf (q3 hX)];simpa[Ty.cells] using hv) ?_
  refine⟨?_,?_,?_⟩
  ·refine cA d0 fun rA W1 rA_1 c1=>?_
   have d1:=Chg.then d0 c1
   have s1:=c1.size;refine⟨d1,?_⟩;refine⟨?_,?_,?_⟩
   ·refine cB d1 fun rB W2 rB_2 c2=>?_
    have d2:=Chg.then d1 c2
    have s2:=c2.size;have rA_2:=rA_1.nil c2;refine⟨d2,?_⟩;refine⟨?_,?_⟩
    ·refine New.mk fun b3 W3 e3 hb3_3 z3 c3=>?_
     have d3:=Chg.then d2 c3
     have s3:=c3.size;have rA_3:=rA_2.nil c3;have rB_3:=rB_2.nil c3;refine⟨d3,?_⟩;refine New.mk fun b4 W4 e4 hb4_4 z4 c4=>?_
     have d4:=Chg.then d3 c4
     have s4:=c4.size;have hb3_4:=c4.heap hb3_3 fun h=>h
     have rA_4:=rA_3.nil c4;have rB_4:=rB_3.nil c4;refine⟨d4,?_⟩;exact fin d4 hb3_4 hb4_4 (by omega) (by omega) (by omega) rA_4 rB_4
    ·refine New.mk fun b5 W5 e5 hb5_5 z5 c5=>?_
     have d5:=Chg.then d2 c5
     have s5:=c5.size;have rA_5:=rA_2.nil c5;have rB_5:=rB_2.nil c5;refine⟨d5,?_⟩;refine New.mk fun b6 W6 e6 hb6_6 z6 c6=>?_
     have d6:=Chg.then d5 c6
     have s6:=c6.size;have hb5_6:=c6.heap hb5_5 fun h=>h
     have rA_6:=rA_5.nil c6;have rB_6:=rB_5.nil c6;refine⟨d6,?_⟩;exact fin d6 hb6_6 hb5_6 (by omega) (by omega) (by omega) rA_6 rB_6
   ·refine New.mk fun b7 W7 e7 hb7_7 z7 c7=>?_
    have d7:=Chg.then d1 c7
    have s7:=c7.size;have rA_7:=rA_1.nil c7;refine⟨d7,?_⟩;refine⟨?_,?_⟩
    ·refine cB d7 fun rB W8 rB_8 c8=>?_
     have d8:=Chg.then d7 c8
     have s8:=c8.size;have hb7_8:=c8.heap hb7_7 fun h=>h
     have rA_8:=rA_7.nil c8;refine⟨d8,?_⟩;refine New.mk fun b9 W9 e9 hb9_9 z9 c9=>?_
     have d9:=Chg.then d8 c9
     have s9:=c9.size;have hb7_9:=c9.heap hb7_8 fun h=>h
     have rA_9:=rA_8.nil c9;have rB_9:=rB_8.nil c9;refine⟨d9,?_⟩;exact fin d9 hb7_9 hb9_9 (by omega) (by omega) (by omega) rA_9 rB_9
    ·refine New.mk fun b10 W10 e10 hb10_10 z10 c10=>?_
     have d10:=Chg.then d7 c10
     have s10:=c10.size;have hb7_10:=c10.heap hb7_7 fun h=>h
     have rA_10:=rA_7.nil c10;refine⟨d10,?_⟩;refine cB d10 fun rB W11 rB_11 c11=>?_
     have d11:=Chg.then d10 c11
     have s11:=c11.size;have hb7_11:=c11.heap hb7_10 fun h=>h
     have hb10_11:=c11.heap hb10_10 fun h=>h
     have rA_11:=rA_10.nil c11;refine⟨d11,?_⟩;exact fin d11 hb7_11 hb10_11 (by omega) (by omega) (by omega) rA_11 rB_11
   ·refine New.mk fun b12 W12 e12 hb12_12 z12 c12=>?_
    have d12:=Chg.then d1 c12
    have s12:=c12.size;have rA_12:=rA_1.nil c12;refine⟨d12,?_⟩;refine⟨?_,?_⟩
    ·refine cB d12 fun rB W13 rB_13 c13=>?_
     have d13:=Chg.then d12 c13
     have s13:=c13.size;have hb12_13:=c13.heap hb12_12 fun h=>h
     have rA_13:=rA_12.nil c13;refine⟨d13,?_⟩;refine New.mk fun b14 W14 e14 hb14_14 z14 c14=>?_
     have d14:=Chg.then d13 c14
     have s14:=c14.size;have hb12_14:=c14.heap hb12_13 fun h=>h
     have rA_14:=rA_13.nil c14;have rB_14:=rB_13.nil c14;refine⟨d14,?_⟩;exact fin d14 hb14_14 hb12_14 (by omega) (by omega) (by omega) rA_14 rB_14
    ·refine New.mk fun b15 W15 e15 hb15_15 z15 c15=>?_
     have d15:=Chg.then d12 c15
     have s15:=c15.size;have hb12_15:=c15.heap hb12_12 fun h=>h
     have rA_15:=rA_12.nil c15;refine⟨d15,?_⟩;refine cB d15 fun rB W16 rB_16 c16=>?_
     have d16:=Chg.then d15 c16
     have s16:=c16.size;have hb12_16:=c16.heap hb12_15 fun h=>h
     have hb15_16:=c16.heap hb15_15 fun h=>h
     have rA_16:=rA_15.nil c16;refine⟨d16,?_⟩;exact fin d16 hb15_16 hb12_16 (by omega) (by omega) (by omega) rA_16 rB_16
  ·refine New.mk fun b17 W17 e17 hb17_17 z17 c17=>?_
   have d17:=Chg.then d0 c17
   have s17:=c17.size;refine⟨d17,?_⟩;refine⟨?_,?_⟩
   ·refine cA d17 fun rA W18 rA_18 c18=>?_
    have d18:=Chg.then d17 c18
    have s18:=c18.size;have hb17_18:=c18.heap hb17_17 fun h=>h
    refine⟨d18,?_⟩;refine⟨?_,?_⟩
    ·refine cB d18 fun rB W19 rB_19 c19=>?_
     have d19:=Chg.then d18 c19
     have s19:=c19.size;have hb17_19:=c19.heap hb17_18 fun h=>h
     have rA_19:=rA_18.nil c19;refine⟨d19,?_⟩;refine New.mk fun b20 W20 e20 hb20_20 z20 c20=>?_
     have d20:=Chg.then d19 c20
     have s20:=c20.size;have hb17_20:=c20.heap hb17_19 fun h=>h
     have rA_20:=rA_19.nil c20;have rB_20:=rB_19.nil c20;refine⟨d20,?_⟩;exact fin d20 hb17_20 hb20_20 (by omega) (by omega) (by omega) rA_20 rB_20
    ·refine New.mk fun b21 W21 e21 hb21_21 z21 c21=>?_
     have d21:=Chg.then d18 c21
     have s21:=c21.size;have hb17_21:=c21.heap hb17_18 fun h=>h
     have rA_21:=rA_18.nil c21;refine⟨d21,?_⟩;refine cB d21 fun rB W22 rB_22 c22=>?_
     have d22:=Chg.then d21 c22
     have s22:=c22.size;have hb17_22:=c22.heap hb17_21 fun h=>h
     have hb21_22:=c22.heap hb21_21 fun h=>h
     have rA_22:=rA_21.nil c22;refine⟨d22,?_⟩;exact fin d22 hb17_22 hb21_22 (by omega) (by omega) (by omega) rA_22 rB_22
   ·refine New.mk fun b23 W23 e23 hb23_23 z23 c23=>?_
    have d23:=Chg.then d17 c23
    have s23:=c23.size;have hb17_23:=c23.heap hb17_17 fun h=>h
    refine⟨d23,?_⟩;refine cA d23 fun rA W24 rA_24 c24=>?_
    have d24:=Chg.then d23 c24
    have s24:=c24.size;have hb17_24:=c24.heap hb17_23 fun h=>h
    have hb23_24:=c24.heap hb23_23 fun h=>h
    refine⟨d24,?_⟩;refine cB d24 fun rB W25 rB_25 c25=>?_
    have d25:=Chg.then d24 c25
    have s25:=c25.size;have hb17_25:=c25.heap hb17_24 fun h=>h
    have hb23_25:=c25.heap hb23_24 fun h=>h
    have rA_25:=rA_24.nil c25;refine⟨d25,?_⟩;exact fin d25 hb17_25 hb23_25 (by omega) (by omega) (by omega) rA_25 rB_25
  ·refine New.mk fun b26 W26 e26 hb26_26 z26 c26=>?_
   have d26:=Chg.then d0 c26
   have s26:=c26.size;refine⟨d26,?_⟩;refine⟨?_,?_⟩
   ·refine cA d26 fun rA W27 rA_27 c27=>?_
    have d27:=Chg.then d26 c27
    have s27:=c27.size;have hb26_27:=c27.heap hb26_26 fun h=>h
    refine⟨d27,?_⟩;refine⟨?_,?_⟩
    ·refine cB d27 fun rB W28 rB_28 c28=>?_
     have d28:=Chg.then d27 c28
     have s28:=c28.size;have hb26_28:=c28.heap hb26_27 fun h=>h
     have rA_28:=rA_27.nil c28;refine⟨d28,?_⟩;refine New.mk fun b29 W29 e29 hb29_29 z29 c29=>?_
     have d29:=Chg.then d28 c29
     have s29:=c29.size;have hb26_29:=c29.heap hb26_28 fun h=>h
     have rA_29:=rA_28.nil c29;have rB_29:=rB_28.nil c29;refine⟨d29,?_⟩;exact fin d29 hb29_29 hb26_29 (by omega) (by omega) (by omega) rA_29 rB_29
    ·refine New.mk fun b30 W30 e30 hb30_30 z30 c30=>?_
     have d30:=Chg.then d27 c30
     have s30:=c30.size;have hb26_30:=c30.heap hb26_27 fun h=>h
     have rA_30:=rA_27.nil c30;refine⟨d30,?_⟩;refine cB d30 fun rB W31 rB_31 c31=>?_
     have d31:=Chg.then d30 c31
     have s31:=c31.size;have hb26_31:=c31.heap hb26_30 fun h=>h
     have hb30_31:=c31.heap hb30_30 fun h=>h
     have rA_31:=rA_30.nil c31;refine⟨d31,?_⟩;exact fin d31 hb30_31 hb26_31 (by omega) (by omega) (by omega) rA_31 rB_31
   ·refine New.mk fun b32 W32 e32 hb32_32 z32 c32=>?_
    have d32:=Chg.then d26 c32
    have s32:=c32.size;have hb26_32:=c32.heap hb26_26 fun h=>h
    refine⟨d32,?_⟩;refine cA d32 fun rA W33 rA_33 c33=>?_
    have d33:=Chg.then d32 c33
    have s33:=c33.size;have hb26_33:=c33.heap hb26_32 fun h=>h
    have hb32_33:=c33.heap hb32_32 fun h=>h
    refine⟨d33,?_⟩;refine cB d33 fun rB W34 rB_34 c34=>?_
    have d34:=Chg.then d33 c34
    have s34:=c34.size;have hb26_34:=c34.heap hb26_33 fun h=>h
    have hb32_34:=c34.heap hb32_33 fun h=>h
    have rA_34:=rA_33.nil c34;refine⟨d34,?_⟩;exact fin d34 hb32_34 hb26_34 (by omega) (by omega) (by omega) rA_34 rB_34
def badC (k:Int)(a:Aut):Int:=if ¬ (1≤k∧k≤8) then 1 else if isM k a then 0 else 210
theorem check_badC (k:Int)(a:Aut):a.check k=badC k a:=by
 unfold badC
 by_cases hk:1≤k∧k≤8
 ·rw[if_neg (by simpa using hk),isM_check hk]
  by_cases h0:a.check k=0
  ·simp[h0]
  ·rw[decide_eq_false h0];unfold Aut.check checkG at h0 ⊢;rw[if_neg (by simpa using hk)]at h0 ⊢
   split
   ·rfl
   ·rename_i hc
    rw[if_neg hc]at h0;split
    ·rename_i seen hs
     rw[hs]at h0;split
     ·rename_i he
      simp[he]at h0
     ·rfl
    ·rfl
 ·rw[if_pos hk];unfold Aut.check checkG;rw[if_pos hk]
end Go.Proofs.YtffdjfkekdoeaaaDoor.Fo
end
section
namespace Go.Proofs.YtffdjfkekdoeaaaDoor.Fo
open Fw Wd Rf Pl
open Classical in
theorem exam_two_bad (k:Int)(a b:Aut):examF k [a,b] []=if badC k a≠0 then badC k a else badC k b:=by
 by_cases hk:1≤k∧k≤8
 ·have h2:∀ x:Aut,badC k x=0∨badC k x=210:=fun x=>by
   unfold badC;rw[if_neg (by simpa using hk)];split
   ·exact .inl rfl
   ·exact .inr rfl
  unfold examF;rw[if_neg (by simpa using hk)]
  have e1:=check_badC k a;have e2:=check_badC k b;rcases h2 a with h|h <;> rcases h2 b with h'|h' <;> simp[e1,e2,h,h']
 ·have h2:∀ x:Aut,badC k x=1:=fun x=>by unfold badC;rw[if_pos hk]
  unfold examF;rw[if_pos hk,h2 a];simp
end Go.Proofs.YtffdjfkekdoeaaaDoor.Fo
end
section
namespace Go.Proofs.YtffdjfkekdoeaaaDoor.Fo
open Fw Wd Rf Pl
theorem exam_one_bad (k:Int)(a:Aut)(s:ByteArray):examF k [a] [s]=if badC k a≠0 then badC k a else if checkF k s≠0 then 4 else 0:=by
 by_cases hk:1≤k∧k≤8
 ·have h2:badC k a=0∨badC k a=210:=by
   unfold badC;rw[if_neg (by simpa using hk)];split
   ·exact .inl rfl
   ·exact .inr rfl
  unfold examF;rw[if_neg (by simpa using hk)]
  have e1:=check_badC k a;rcases h2 with h|h <;> by_cases hs:checkF k s=0 <;> simp[e1,h,hs]
 ·unfold examF badC;rw[if_pos hk,if_pos hk];simp
theorem conj_self {k:Nat}(hk:1≤k∧k≤8){a:Aut}(hc:a.check (k:Int)=0):∃ R,a=autE k R∧FoldL k (conjL (k:Int) a []) (some R):=by
 obtain⟨R,h1,h2⟩:=auto_self hk hc;refine⟨R,h1,⟨_,0,h2,fun l _=>?_⟩⟩
 unfold conjL Lg;constructor
 ·rintro⟨h,g1,g2⟩;exact⟨h,g1,by simpa[Pl.inv] using g2⟩
 ·rintro⟨h,g1,g2⟩;exact⟨h,g1,by simpa[Pl.inv] using g2⟩
theorem conj_ref {k:Nat}(hk:1≤k∧k≤8){a:Aut}(hc:a.check (k:Int)=0){u:List Nat}(hx:∀ x∈u,x<2*k)(hl:u.length≤50000) :
  ∃ K R,(u≠[]→stallF k K (conjE k a u)=some R)∧(∀ Rc,FoldL k (conjL (k:Int) a u) (some Rc)→(if u=[] then a else autE k R)=autE k Rc)∧∀ o,FoldL k (conjL (k:Int) a u) o→a.next.length+u.length+2≤2000→∃ Rc,o=some Rc:=by
 by_cases hu:u=[]
 ·subst hu;obtain⟨R,h1,h2⟩:=conj_self hk hc;refine⟨0,[],fun h=>absurd rfl h,fun Rc h=>?_,fun o h _=>⟨R,foldL_same h h2 fun _ _=>Iff.rfl⟩⟩
  rw[if_pos rfl,h1];rw[Option.some.inj (foldL_same h2 (h1 ▸ h) fun _ _=>by rw[← h1])]
 ·obtain⟨K,R,o,h1,h2,h3,h4⟩:=conj_stall hk hc hu hx hl;refine⟨K,R,fun _=>h1,fun Rc h=>?_,fun o' h hb=>?_⟩
  ·rw[if_neg hu];have:=foldL_same h3 h fun _ _=>Iff.rfl
   rcases h4 with ⟨h5,_⟩|⟨h5,_⟩
   ·rw[h5]at this;rw[Option.some.inj this]
   ·rw[h5]at this;cases this
  ·have:=foldL_same h h3 fun _ _=>Iff.rfl
   rcases h4 with ⟨h5,_⟩|⟨_,h5⟩
   ·exact⟨R,by rw[this,h5]⟩
   ·omega
theorem foldL_of {k:Nat}(hk:1≤k∧k≤8){a b:Aut}(hd:b.check (k:Int)=0){u:List Nat}(h:∀ l,Rd l→(conjL (k:Int) a u l↔Run (Dl (k:Int) b) 0 l 0)):∃ Rb,b=autE k Rb∧FoldL k (conjL (k:Int) a u) (some Rb):=by
 obtain⟨R,h1,h2⟩:=auto_self hk hd;exact⟨R,h1,⟨_,0,h2,fun l hl=>(lg_det (dl_aut (k:=(k:Int)) (by omega) hd) hl).trans (h l hl).symm⟩⟩
theorem conjr_spec {k:Nat}(hk:1≤k∧k≤8){a b:Aut}(hc:a.check (k:Int)=0)(hd:b.check (k:Int)=0){ca cb:Co}(ka:CoreK (k:Int) a ca)(kb:CoreK (k:Int) b cb){y:ByteArray × Bool × Int × Unit}(h:ConjrIs (k:Int) a b y) :
  y.2.2.1=0∧(y.2.1=true↔isB a b ca cb)∧(y.2.1=false→y.1=⟨#[]⟩)∧(y.2.1=true→checkF (k:Int) y.1=0∧y.1.size≤b.next.length+a.next.length∧∃ Rb,b=autE k Rb∧FoldL k (conjL (k:Int) a (wordF y.1)) (some Rb)):=by
 have hz:examF (k:Int) [a,b] []=0:=(exam_two (k:=(k:Int)) (by omega)).2 ⟨hc,hd⟩
 rcases h with ⟨h,_⟩|⟨_,ca',cb',ea,eb,h⟩
 ·exact absurd hz h
 ·have e1:=ka.run;have e2:=kb.run;rw[ea]at e1;cases e1;rw[eb]at e2;cases e2;rcases h with ⟨rfl,h⟩|⟨s,h1,h2,h3,rfl⟩
  ·refine⟨rfl,⟨(fun h=>by cases h),fun⟨g1,s,g2,g3⟩=>?_⟩,fun _=>rfl,fun h=>by cases h⟩
   rw[h g1 s g2]at g3;cases g3
  ·have hI:=(alB_iso hc hd ka.len kb.len ka.of.base h2).1 h3;obtain⟨g1,g2,g3⟩:=conj_found hk hc hd ka kb h2 hI;exact⟨rfl,⟨fun _=>⟨h1,s,h2,h3⟩,fun _=>rfl⟩,(fun h=>by cases h),fun _=>⟨g1,g2,foldL_of hk hd g3⟩⟩
theorem conj_is {k:Nat}(hk:1≤k∧k≤8){a c:Aut}(hc:a.check (k:Int)=0)(hd:c.check (k:Int)=0){ca cc:Co}(ka:CoreK (k:Int) a ca)(kc:CoreK (k:Int) c cc){u:List Nat}
  (hconj:∀ l,Rd l→(conjL (k:Int) a u l↔Run (Dl (k:Int) c) 0 l 0)):isB a c ca cc:=by
 have hB:=dl_aut (k:=(k:Int)) (by omega) hd
 obtain⟨s,h1,h2⟩:=conj_core hk hc hd ka kc hconj;have g1:=size_le ka h1 h2 kc.len;obtain⟨l,_,hr⟩:=kc.conn s h1;obtain⟨v,g2,g3⟩:=h2.symm.move (cD_rev hB hr);have g4:=size_le kc (run_in ka.of.base g2) g3 ka.len;refine⟨by rw[ka.size,kc.size];omega,s,h1,(alB_iso hc hd ka.len kc.len ka.of.base h1).2 h2⟩
theorem conjB_ready {k:Nat}(hk:1≤k∧k≤8){a b:Aut}(hc:a.check (k:Int)=0)(hd:b.check (k:Int)=0){ca cb:Co}(ka:CoreK (k:Int) a ca)(kb:CoreK (k:Int) b cb) :
  ∃ K K' ea eb Rv Rw,prunedE true K (graphL k 0 a.next)=some ea∧prunedE true K' (graphL k 0 b.next)=some eb∧(∀ v∈coreV a.next.length ea,∃ K,numE k ea K 0 [v] []=some (Rv v))∧(∀ v,(coreV b.next.length eb)[0]? = some v→∃ K,numE k eb K 0 [v] []=some Rw) ∧
   (isB a b ca cb↔conjB k (coreV a.next.length ea) (coreV b.next.length eb) Rv Rw=true):=by
 classical
 obtain⟨K,ea,h1,da,va,sa⟩:=ref_core hk hc ka;obtain⟨K',eb,h2,db,vb,sb⟩:=ref_core hk hd kb;have lt:∀ {a:Aut} {ca:Co} {ea:List Ed},CoreK (k:Int) a ca→(∀ s x t,Dir ea s x t↔cD (Dl (k:Int) a) (inC ca) s x t)→Evn ea→∀ e∈ea,e.1<a.next.length∧e.2.2<a.next.length:=fun {a ca ea} ka da va e he=>by
  have:=(da e.1 e.2.1 e.2.2).1 (.inl ⟨va e he,he⟩);exact⟨ka.lt _ this.2.1,ka.lt _ this.2.2⟩
 have num:∀ {a:Aut} {ea:List Ed},(∀ e∈ea,e.1<a.next.length∧e.2.2<a.next.length)→∀ v,v<a.next.length→∃ R,numE k ea (a.next.length+1) 0 [v] []=some R:=fun {a ea} h v hv=>
  numE_some h (a.next.length+1) 0 [v] [] (by simp) (by simpa using hv) (Nat.zero_le _) (by omega)
 have lA:=lt ka da va;have lB:=lt kb db vb;have inA:∀ v∈coreV a.next.length ea,v<a.next.length:=fun v hv=>List.mem_range.1 (List.mem_filter.1 hv).1
 have inB:∀ v∈coreV b.next.length eb,v<b.next.length:=fun v hv=>List.mem_range.1 (List.mem_filter.1 hv).1
 let Rv:Nat→List Row:=fun v=>if h:v<a.next.length then Classical.choose (num lA v h) else []
 have hRv:∀ v∈coreV a.next.length ea,∃ K,numE k ea K 0 [v] []=some (Rv v):=fun v hv=>by
  have h:=inA v hv;refine⟨a.next.length+1,?_⟩
  show _=some (if h:v<a.next.length then Classical.choose (num lA v h) else [])
  rw[dif_pos h];exact Classical.choose_spec (num lA v h)
 obtain⟨Rw,hRw⟩:∃ Rw,∀ v,(coreV b.next.length eb)[0]? = some v→∃ K,numE k eb K 0 [v] []=some Rw:=by
  cases hm:(coreV b.next.length eb)[0]? with
  | none=>exact⟨[],fun v h=>by cases h⟩
  | some m0=>
   obtain⟨R,hR⟩:=num lB m0 (inB m0 (List.mem_of_getElem? hm));exact⟨R,fun v h=>by cases h;exact⟨_,hR⟩⟩
 exact⟨K,K',ea,eb,Rv,Rw,h1,h2,hRv,hRw,conj_iff hk hc hd ka kb da db va vb hRv hRw⟩
end Go.Proofs.YtffdjfkekdoeaaaDoor.Fo
end
section
namespace Go.Proofs.YtffdjfkekdoeaaaDoor
open Fw
noncomputable def cayleylaw21_FoldConjugates.ann:Ann where
 loops:=fun | _=>[]
 joins:=fun | 3=>some [(0,.sc (.int .i64)),(3,.sc .str),(5,.sc .adr),(6,.sc .adr)] | 9=>some [(0,.sc (.int .i64)),(3,.sc .str),(5,.sc .adr),(6,.sc .adr),(9,.sc .adr),(10,.sc (.int .i64)),(11,.sc .str),(12,.sc .bool),(13,.sc (.int .i64)),(14,.sc (.int .i64)),(15,.sc (.int .i64))] | 11=>some [(0,.sc (.int .i64)),(3,.sc .str),(5,.sc .adr),(6,.sc .adr),(9,.sc .adr),(10,.sc (.int .i64)),(11,.sc .str),(12,.sc .bool),(13,.sc (.int .i64)),(14,.sc (.int .i64)),(15,.sc (.int .i64))] | 13=>some [(0,.sc (.int .i64)),(3,.sc .str),(5,.sc .adr),(6,.sc .adr),(9,.sc .adr),(11,.sc .str),(12,.sc .bool),(14,.sc (.int .i64)),(15,.sc (.int .i64))] | 16=>some [(0,.sc (.int .i64)),(3,.sc .str),(5,.sc .adr),(9,.sc .adr),(14,.sc (.int .i64))] | _=>none
noncomputable def cayleylaw21_FoldConjugates.body:Code:=match Tryd.f9.body with | some c=>c | none=>.skip
def cayleylaw21_FoldConjugates.part (r:Nat):Code→Code
 | .seq a b=>match firstReg b with
  | some i=>bif Nat.beq i r then b else cayleylaw21_FoldConjugates.part r b
  | none=>cayleylaw21_FoldConjugates.part r b
 | c=>c
def cayleylaw21_FoldConjugates.j16 (R:Ending→World→Prop)(j51:Int × ByteArray × Addr × Addr × Int × Unit)(w80:World):Prop:=
  Br ((j51.2.2.2.2.1:Int) != 0)
          (CallT Tryd.prog 14 #[] (.sc .bool) w80 (fun r81 w82=>
           R (.returned (.bool r81)) w82) (fun h83 w82=>R (.panicked h83) w82))
          (LoadT (.agg [.int .i64,.int .i64,.sl,.sl]) w80 j51.2.2.1 fun x84=>
          LoadT (.agg [.int .i64,.int .i64,.sl,.sl]) w80 j51.2.2.2.1 fun x85=>
          CallN Tryd.prog 39 #[(.int .i64 j51.1),(.agg #[(.int .i64 x84.1),(.int .i64 x84.2.1),(.slice x84.2.2.1.a x84.2.2.1.n x84.2.2.1.c),(.slice x84.2.2.2.1.a x84.2.2.2.1.n x84.2.2.2.1.c)]),(.agg #[(.int .i64 x85.1),(.int .i64 x85.2.1),(.slice x85.2.2.1.a x85.2.2.1.n x85.2.2.1.c),(.slice x85.2.2.2.1.a x85.2.2.2.1.n x85.2.2.2.1.c)])] [.sc .str,.sc .bool,.sc (.int .i64)] w80 (fun r86 w87=>
           ∃ S89:World→Prop,S89 w87.drew ∧
           (CallT Tryd.prog 14 #[] (.sc .bool) w87.drew (fun r90 w91=>
             S89 w91 ∧
             (Br r90
              (LoadS S89 (.agg [.int .i64,.int .i64,.sl,.sl]) j51.2.2.2.1 fun x93=>
              LoadS S89 (.agg [.int .i64,.int .i64,.sl,.sl]) j51.2.2.1 fun x94=>
              CallT Tryd.prog 41 #[(.int .i64 j51.1),(.agg #[(.int .i64 x94.1),(.int .i64 x94.2.1),(.slice x94.2.2.1.a x94.2.2.1.n x94.2.2.1.c),(.slice x94.2.2.2.1.a x94.2.2.2.1.n x94.2.2.2.1.c)]),(.string j51.2.1)] (.agg [.int .i64,.int .i64,.sl,.sl]) w91 (fun r95 w96=>
                S89 w96 ∧
                (CallT Tryd.prog 15 #[(.agg #[(.int .i64 x93.1),(.int .i64 x93.2.1),(.slice x93.2.2.1.a x93.2.2.1.n x93.2.2.1.c),(.slice x93.2.2.2.1.a x93.2.2.2.1.n x93.2.2.2.1.c)]),(.agg #[(.int .i64 r95.1),(.int .i64 r95.2.1),(.slice r95.2.2.1.a r95.2.2.1.n r95.2.2.1.c),(.slice r95.2.2.2.1.a r95.2.2.2.1.n r95.2.2.2.1.c)])] (.sc .bool) w96 (fun r98 w99=>
                  S89 w99 ∧
                  (Br r98
                   (Br ((r86.2.2.1:Int) == 0)
                    (Br r86.2.1
                     (LoadS S89 (.agg [.int .i64,.int .i64,.sl,.sl]) j51.2.2.1 fun x101=>
                     LoadS S89 (.agg [.int .i64,.int .i64,.sl,.sl]) j51.2.2.2.1 fun x102=>
                     CallT Tryd.prog 41 #[(.int .i64 j51.1),(.agg #[(.int .i64 x101.1),(.int .i64 x101.2.1),(.slice x101.2.2.1.a x101.2.2.1.n x101.2.2.1.c),(.slice x101.2.2.2.1.a x101.2.2.2.1.n x101.2.2.2.1.c)]),(.string r86.1)] (.agg [.int .i64,.int .i64,.sl,.sl]) w99 (fun r103 w104=>
                       S89 w104 ∧
                       (CallT Tryd.prog 15 #[(.agg #[(.int .i64 r103.1),(.int .i64 r103.2.1),(.slice r103.2.2.1.a r103.2.2.1.n r103.2.2.1.c),(.slice r103.2.2.2.1.a r103.2.2.2.1.n r103.2.2.2.1.c)]),(.agg #[(.int .i64 x102.1),(.int .i64 x102.2.1),(.slice x102.2.2.1.a x102.2.2.1.n x102.2.2.1.c),(.slice x102.2.2.2.1.a x102.2.2.2.1.n x102.2.2.2.1.c)])] (.sc .bool) w104 (fun r106 w107=>
                         S89 w107 ∧
                         (R (.returned (.bool r106)) w107)) (fun h108 w107=>R (.panicked h108) w107))) (fun h105 w104=>R (.panicked h105) w104))
                     (R (.returned (.bool false)) w99))
                    (R (.returned (.bool false)) w99))
                   (R (.returned (.bool false)) w99))) (fun h100 w99=>R (.panicked h100) w99))) (fun h97 w96=>R (.panicked h97) w96))
              (R (.returned (.bool false)) w91))) (fun h92 w91=>R (.panicked h92) w91))) (fun h88 w87=>R (.panicked h88) w87))
theorem cayleylaw21_FoldConjugates.j16.eq (R:Ending→World→Prop)(j51:Int × ByteArray × Addr × Addr × Int × Unit)(g:Env)(w80:World):cayleylaw21_FoldConjugates.j16 R j51 w80=wpc Tryd.prog cayleylaw21_FoldConjugates.ann (cayleylaw21_FoldConjugates.part 16 cayleylaw21_FoldConjugates.body) (fnKs Tryd.prog Tryd.f9 R) [] (putTs [(0,.sc (.int .i64)),(3,.sc .str),(5,.sc .adr),(9,.sc .adr),(14,.sc (.int .i64))] j51 g) w80:=by kernel_rfl
def cayleylaw21_FoldConjugates.t13 (R:Ending→World→Prop)(j46:Int × ByteArray × Addr × Addr × Addr × ByteArray × Bool × Int × Int × Unit)(w48:World)(Y16:Int × ByteArray × Addr × Addr × Int × Unit→Env→World→Prop):Prop:=
  Join (σ:=Int × ByteArray × Addr × Addr × Int × Unit) Y16 fun J49=>
         Br ((j46.2.2.2.2.2.2.2.2.1:Int) == 0)
          (∃ S52:World→Prop,S52 w48.drew ∧
          (LoadS S52 (.agg [.int .i64,.int .i64,.sl,.sl]) j46.2.2.1 fun x53=>
          LoadS S52 (.agg [.int .i64,.int .i64,.sl,.sl]) j46.2.2.2.1 fun x54=>
          CallT Tryd.prog 40 #[(.int .i64 j46.1),(.agg #[(.int .i64 x53.1),(.int .i64 x53.2.1),(.slice x53.2.2.1.a x53.2.2.1.n x53.2.2.1.c),(.slice x53.2.2.2.1.a x53.2.2.2.1.n x53.2.2.2.1.c)]),(.agg #[(.int .i64 x54.1),(.int .i64 x54.2.1),(.slice x54.2.2.1.a x54.2.2.1.n x54.2.2.1.c),(.slice x54.2.2.2.1.a x54.2.2.2.1.n x54.2.2.2.1.c)])] (.sc .bool) w48.drew (fun r55 w56=>
            S52 w56 ∧
            (Br (!(j46.2.2.2.2.2.2.1 == r55))
             (Br true
                 (R (.returned (.bool false)) w56)
                 (J49 (j46.1,j46.2.1,j46.2.2.1,j46.2.2.2.2.1,j46.2.2.2.2.2.2.2.1,()) w56))
             (Br (!j46.2.2.2.2.2.2.1)
              (Br (!(j46.2.2.2.2.2.1.toList == (ByteArray.mk #[]).toList))
               (Br true
                   (R (.returned (.bool false)) w56)
                   (J49 (j46.1,j46.2.1,j46.2.2.1,j46.2.2.2.2.1,j46.2.2.2.2.2.2.2.1,()) w56))
               (Br j46.2.2.2.2.2.2.1
                (CallT Tryd.prog 22 #[(.int .i64 j46.1),(.string j46.2.2.2.2.2.1)] (.sc .bool) w56 (fun r58 w59=>
                  S52 w59 ∧
                  (Br (!r58)
                   (Br true
                      (R (.returned (.bool false)) w59)
                      (J49 (j46.1,j46.2.1,j46.2.2.1,j46.2.2.2.2.1,j46.2.2.2.2.2.2.2.1,()) w59))
                   (Br (decide ((((j46.2.2.2.2.2.1.size:Nat):Int):Int)>4000))
                    (Br true
                       (R (.returned (.bool false)) w59)
                       (J49 (j46.1,j46.2.1,j46.2.2.1,j46.2.2.2.2.1,j46.2.2.2.2.2.2.2.1,()) w59))
                    (LoadS S52 (.agg [.int .i64,.int .i64,.sl,.sl]) j46.2.2.1 fun x61=>
                    LoadS S52 (.agg [.int .i64,.int .i64,.sl,.sl]) j46.2.2.2.1 fun x62=>
                    CallT Tryd.prog 41 #[(.int .i64 j46.1),(.agg #[(.int .i64 x61.1),(.int .i64 x61.2.1),(.slice x61.2.2.1.a x61.2.2.1.n x61.2.2.1.c),(.slice x61.2.2.2.1.a x61.2.2.2.1.n x61.2.2.2.1.c)]),(.string j46.2.2.2.2.2.1)] (.agg [.int .i64,.int .i64,.sl,.sl]) w59 (fun r63 w64=>
                      S52 w64 ∧
                      (CallT Tryd.prog 15 #[(.agg #[(.int .i64 r63.1),(.int .i64 r63.2.1),(.slice r63.2.2.1.a r63.2.2.1.n r63.2.2.1.c),(.slice r63.2.2.2.1.a r63.2.2.2.1.n r63.2.2.2.1.c)]),(.agg #[(.int .i64 x62.1),(.int .i64 x62.2.1),(.slice x62.2.2.1.a x62.2.2.1.n x62.2.2.1.c),(.slice x62.2.2.2.1.a x62.2.2.2.1.n x62.2.2.2.1.c)])] (.sc .bool) w64 (fun r66 w67=>
                        S52 w67 ∧
                        (Br (!r66)
                         (R (.returned (.bool false)) w67)
                         (J49 (j46.1,j46.2.1,j46.2.2.1,j46.2.2.2.2.1,j46.2.2.2.2.2.2.2.1,()) w67))) (fun h68 w67=>R (.panicked h68) w67))) (fun h65 w64=>R (.panicked h65) w64))))) (fun h60 w59=>R (.panicked h60) w59))
                (Br false
                    (R (.returned (.bool false)) w56)
                    (J49 (j46.1,j46.2.1,j46.2.2.1,j46.2.2.2.2.1,j46.2.2.2.2.2.2.2.1,()) w56))))
              (Br j46.2.2.2.2.2.2.1
               (CallT Tryd.prog 22 #[(.int .i64 j46.1),(.string j46.2.2.2.2.2.1)] (.sc .bool) w56 (fun r69 w70=>
                 S52 w70 ∧
                 (Br (!r69)
                  (Br true
                     (R (.returned (.bool false)) w70)
                     (J49 (j46.1,j46.2.1,j46.2.2.1,j46.2.2.2.2.1,j46.2.2.2.2.2.2.2.1,()) w70))
                  (Br (decide ((((j46.2.2.2.2.2.1.size:Nat):Int):Int)>4000))
                   (Br true
                      (R (.returned (.bool false)) w70)
                      (J49 (j46.1,j46.2.1,j46.2.2.1,j46.2.2.2.2.1,j46.2.2.2.2.2.2.2.1,()) w70))
                   (LoadS S52 (.agg [.int .i64,.int .i64,.sl,.sl]) j46.2.2.1 fun x72=>
                   LoadS S52 (.agg [.int .i64,.int .i64,.sl,.sl]) j46.2.2.2.1 fun x73=>
                   CallT Tryd.prog 41 #[(.int .i64 j46.1),(.agg #[(.int .i64 x72.1),(.int .i64 x72.2.1),(.slice x72.2.2.1.a x72.2.2.1.n x72.2.2.1.c),(.slice x72.2.2.2.1.a x72.2.2.2.1.n x72.2.2.2.1.c)]),(.string j46.2.2.2.2.2.1)] (.agg [.int .i64,.int .i64,.sl,.sl]) w70 (fun r74 w75=>
                     S52 w75 ∧
                     (CallT Tryd.prog 15 #[(.agg #[(.int .i64 r74.1),(.int .i64 r74.2.1),(.slice r74.2.2.1.a r74.2.2.1.n r74.2.2.1.c),(.slice r74.2.2.2.1.a r74.2.2.2.1.n r74.2.2.2.1.c)]),(.agg #[(.int .i64 x73.1),(.int .i64 x73.2.1),(.slice x73.2.2.1.a x73.2.2.1.n x73.2.2.1.c),(.slice x73.2.2.2.1.a x73.2.2.2.1.n x73.2.2.2.1.c)])] (.sc .bool) w75 (fun r77 w78=>
                       S52 w78 ∧
                       (Br (!r77)
                        (R (.returned (.bool false)) w78)
                        (J49 (j46.1,j46.2.1,j46.2.2.1,j46.2.2.2.2.1,j46.2.2.2.2.2.2.2.1,()) w78))) (fun h79 w78=>R (.panicked h79) w78))) (fun h76 w75=>R (.panicked h76) w75))))) (fun h71 w70=>R (.panicked h71) w70))
               (Br false
                   (R (.returned (.bool false)) w56)
                   (J49 (j46.1,j46.2.1,j46.2.2.1,j46.2.2.2.2.1,j46.2.2.2.2.2.2.2.1,()) w56)))))) (fun h57 w56=>R (.panicked h57) w56)))
          (J49 (j46.1,j46.2.1,j46.2.2.1,j46.2.2.2.2.1,j46.2.2.2.2.2.2.2.1,()) w48)
def cayleylaw21_FoldConjugates.j13 (R:Ending→World→Prop)(j46:Int × ByteArray × Addr × Addr × Addr × ByteArray × Bool × Int × Int × Unit)(w48:World):Prop:=cayleylaw21_FoldConjugates.t13 R j46 w48 fun y _ w=>cayleylaw21_FoldConjugates.j16 R y w
theorem cayleylaw21_FoldConjugates.t13.eq (R:Ending→World→Prop)(j46:Int × ByteArray × Addr × Addr × Addr × ByteArray × Bool × Int × Int × Unit)(g:Env)(w48:World):cayleylaw21_FoldConjugates.t13 R j46 w48 (fun y g w=>wpc Tryd.prog cayleylaw21_FoldConjugates.ann (cayleylaw21_FoldConjugates.part 16 cayleylaw21_FoldConjugates.body) (fnKs Tryd.prog Tryd.f9 R) [] (putTs [(0,.sc (.int .i64)),(3,.sc .str),(5,.sc .adr),(9,.sc .adr),(14,.sc (.int .i64))] y g) w)=wpc Tryd.prog cayleylaw21_FoldConjugates.ann (cayleylaw21_FoldConjugates.part 13 cayleylaw21_FoldConjugates.body) (fnKs Tryd.prog Tryd.f9 R) [] (putTs [(0,.sc (.int .i64)),(3,.sc .str),(5,.sc .adr),(6,.sc .adr),(9,.sc .adr),(11,.sc .str),(12,.sc .bool),(14,.sc (.int .i64)),(15,.sc (.int .i64))] j46 g) w48:=by kernel_rfl
theorem cayleylaw21_FoldConjugates.j13.eq (R:Ending→World→Prop)(j46:Int × ByteArray × Addr × Addr × Addr × ByteArray × Bool × Int × Int × Unit)(g:Env)(w48:World):cayleylaw21_FoldConjugates.j13 R j46 w48=wpc Tryd.prog cayleylaw21_FoldConjugates.ann (cayleylaw21_FoldConjugates.part 13 cayleylaw21_FoldConjugates.body) (fnKs Tryd.prog Tryd.f9 R) [] (putTs [(0,.sc (.int .i64)),(3,.sc .str),(5,.sc .adr),(6,.sc .adr),(9,.sc .adr),(11,.sc .str),(12,.sc .bool),(14,.sc (.int .i64)),(15,.sc (.int .i64))] j46 g) w48:=
 (congrArg (cayleylaw21_FoldConjugates.t13 R j46 w48) (funext fun y=>funext fun g=>funext fun w=>cayleylaw21_FoldConjugates.j16.eq R y g w)).trans (cayleylaw21_FoldConjugates.t13.eq R j46 g w48)
def cayleylaw21_FoldConjugates.t11 (R:Ending→World→Prop)(j39:Int × ByteArray × Addr × Addr × Addr × Int × ByteArray × Bool × Int × Int × Int × Unit)(w43:World)(Y13:Int × ByteArray × Addr × Addr × Addr × ByteArray × Bool × Int × Int × Unit→Env→World→Prop):Prop:=
  Join (σ:=Int × ByteArray × Addr × Addr × Addr × ByteArray × Bool × Int × Int × Unit) Y13 fun J44=>
        Br ((j39.2.2.2.2.2.1:Int) != j39.2.2.2.2.2.2.2.2.2.1)
         (Br true
          (R (.returned (.bool false)) w43)
          (J44 (j39.1,j39.2.1,j39.2.2.1,j39.2.2.2.1,j39.2.2.2.2.1,j39.2.2.2.2.2.2.1,j39.2.2.2.2.2.2.2.1,j39.2.2.2.2.2.2.2.2.2.1,j39.2.2.2.2.2.2.2.2.2.2.1,()) w43))
         (Br ((j39.2.2.2.2.2.2.2.2.1:Int) != j39.2.2.2.2.2.2.2.2.2.2.1)
          (Br true
           (R (.returned (.bool false)) w43)
           (J44 (j39.1,j39.2.1,j39.2.2.1,j39.2.2.2.1,j39.2.2.2.2.1,j39.2.2.2.2.2.2.1,j39.2.2.2.2.2.2.2.1,j39.2.2.2.2.2.2.2.2.2.1,j39.2.2.2.2.2.2.2.2.2.2.1,()) w43))
          (Br ((j39.2.2.2.2.2.2.2.2.2.1:Int) != 0)
           (LoadT (.sc .sl) w43 (j39.2.2.2.2.1.add 2) fun x47=>
           Br ((((x47.n:Nat):Int):Int) != 0)
            (Br true
             (R (.returned (.bool false)) w43)
             (J44 (j39.1,j39.2.1,j39.2.2.1,j39.2.2.2.1,j39.2.2.2.2.1,j39.2.2.2.2.2.2.1,j39.2.2.2.2.2.2.2.1,j39.2.2.2.2.2.2.2.2.2.1,j39.2.2.2.2.2.2.2.2.2.2.1,()) w43))
            (Br ((j39.2.2.2.2.2.2.2.2.2.2.1:Int) != 0)
             (Br j39.2.2.2.2.2.2.2.1
              (Br true
               (R (.returned (.bool false)) w43)
               (J44 (j39.1,j39.2.1,j39.2.2.1,j39.2.2.2.1,j39.2.2.2.2.1,j39.2.2.2.2.2.2.1,j39.2.2.2.2.2.2.2.1,j39.2.2.2.2.2.2.2.2.2.1,j39.2.2.2.2.2.2.2.2.2.2.1,()) w43))
              (Br (!(j39.2.2.2.2.2.2.1.toList == (ByteArray.mk #[]).toList))
               (R (.returned (.bool false)) w43)
               (J44 (j39.1,j39.2.1,j39.2.2.1,j39.2.2.2.1,j39.2.2.2.2.1,j39.2.2.2.2.2.2.1,j39.2.2.2.2.2.2.2.1,j39.2.2.2.2.2.2.2.2.2.1,j39.2.2.2.2.2.2.2.2.2.2.1,()) w43)))
             (Br false
              (R (.returned (.bool false)) w43)
              (J44 (j39.1,j39.2.1,j39.2.2.1,j39.2.2.2.1,j39.2.2.2.2.1,j39.2.2.2.2.2.2.1,j39.2.2.2.2.2.2.2.1,j39.2.2.2.2.2.2.2.2.2.1,j39.2.2.2.2.2.2.2.2.2.2.1,()) w43))))
           (Br ((j39.2.2.2.2.2.2.2.2.2.2.1:Int) != 0)
            (Br j39.2.2.2.2.2.2.2.1
             (Br true
              (R (.returned (.bool false)) w43)
              (J44 (j39.1,j39.2.1,j39.2.2.1,j39.2.2.2.1,j39.2.2.2.2.1,j39.2.2.2.2.2.2.1,j39.2.2.2.2.2.2.2.1,j39.2.2.2.2.2.2.2.2.2.1,j39.2.2.2.2.2.2.2.2.2.2.1,()) w43))
             (Br (!(j39.2.2.2.2.2.2.1.toList == (ByteArray.mk #[]).toList))
              (R (.returned (.bool false)) w43)
              (J44 (j39.1,j39.2.1,j39.2.2.1,j39.2.2.2.1,j39.2.2.2.2.1,j39.2.2.2.2.2.2.1,j39.2.2.2.2.2.2.2.1,j39.2.2.2.2.2.2.2.2.2.1,j39.2.2.2.2.2.2.2.2.2.2.1,()) w43)))
            (Br false
             (R (.returned (.bool false)) w43)
             (J44 (j39.1,j39.2.1,j39.2.2.1,j39.2.2.2.1,j39.2.2.2.2.1,j39.2.2.2.2.2.2.1,j39.2.2.2.2.2.2.2.1,j39.2.2.2.2.2.2.2.2.2.1,j39.2.2.2.2.2.2.2.2.2.2.1,()) w43)))))
def cayleylaw21_FoldConjugates.j11 (R:Ending→World→Prop)(j39:Int × ByteArray × Addr × Addr × Addr × Int × ByteArray × Bool × Int × Int × Int × Unit)(w43:World):Prop:=cayleylaw21_FoldConjugates.t11 R j39 w43 fun y _ w=>cayleylaw21_FoldConjugates.j13 R y w
theorem cayleylaw21_FoldConjugates.t11.eq (R:Ending→World→Prop)(j39:Int × ByteArray × Addr × Addr × Addr × Int × ByteArray × Bool × Int × Int × Int × Unit)(g:Env)(w43:World):cayleylaw21_FoldConjugates.t11 R j39 w43 (fun y g w=>wpc Tryd.prog cayleylaw21_FoldConjugates.ann (cayleylaw21_FoldConjugates.part 13 cayleylaw21_FoldConjugates.body) (fnKs Tryd.prog Tryd.f9 R) [] (putTs [(0,.sc (.int .i64)),(3,.sc .str),(5,.sc .adr),(6,.sc .adr),(9,.sc .adr),(11,.sc .str),(12,.sc .bool),(14,.sc (.int .i64)),(15,.sc (.int .i64))] y g) w)=wpc Tryd.prog cayleylaw21_FoldConjugates.ann (cayleylaw21_FoldConjugates.part 11 cayleylaw21_FoldConjugates.body) (fnKs Tryd.prog Tryd.f9 R) [] (putTs [(0,.sc (.int .i64)),(3,.sc .str),(5,.sc .adr),(6,.sc .adr),(9,.sc .adr),(10,.sc (.int .i64)),(11,.sc .str),(12,.sc .bool),(13,.sc (.int .i64)),(14,.sc (.int .i64)),(15,.sc (.int .i64))] j39 g) w43:=by kernel_rfl
theorem cayleylaw21_FoldConjugates.j11.eq (R:Ending→World→Prop)(j39:Int × ByteArray × Addr × Addr × Addr × Int × ByteArray × Bool × Int × Int × Int × Unit)(g:Env)(w43:World):cayleylaw21_FoldConjugates.j11 R j39 w43=wpc Tryd.prog cayleylaw21_FoldConjugates.ann (cayleylaw21_FoldConjugates.part 11 cayleylaw21_FoldConjugates.body) (fnKs Tryd.prog Tryd.f9 R) [] (putTs [(0,.sc (.int .i64)),(3,.sc .str),(5,.sc .adr),(6,.sc .adr),(9,.sc .adr),(10,.sc (.int .i64)),(11,.sc .str),(12,.sc .bool),(13,.sc (.int .i64)),(14,.sc (.int .i64)),(15,.sc (.int .i64))] j39 g) w43:=
 (congrArg (cayleylaw21_FoldConjugates.t11 R j39 w43) (funext fun y=>funext fun g=>funext fun w=>cayleylaw21_FoldConjugates.j13.eq R y g w)).trans (cayleylaw21_FoldConjugates.t11.eq R j39 g w43)
def cayleylaw21_FoldConjugates.t9 (R:Ending→World→Prop)(j31:Int × ByteArray × Addr × Addr × Addr × Int × ByteArray × Bool × Int × Int × Int × Unit)(w36:World)(Y11:Int × ByteArray × Addr × Addr × Addr × Int × ByteArray × Bool × Int × Int × Int × Unit→Env→World→Prop):Prop:=
  Join (σ:=Int × ByteArray × Addr × Addr × Addr × Int × ByteArray × Bool × Int × Int × Int × Unit) Y11 fun J37=>
       Br ((j31.2.2.2.2.2.2.2.2.2.1:Int) == 0)
        (CallT Tryd.prog 22 #[(.int .i64 j31.1),(.string j31.2.1)] (.sc .bool) w36 (fun r40 w41=>
         Br (!r40)
          (J37 (j31.1,j31.2.1,j31.2.2.1,j31.2.2.2.1,j31.2.2.2.2.1,j31.2.2.2.2.2.1,j31.2.2.2.2.2.2.1,j31.2.2.2.2.2.2.2.1,j31.2.2.2.2.2.2.2.2.1,4,j31.2.2.2.2.2.2.2.2.2.2.1,()) w41)
          (J37 (j31.1,j31.2.1,j31.2.2.1,j31.2.2.2.1,j31.2.2.2.2.1,j31.2.2.2.2.2.1,j31.2.2.2.2.2.2.1,j31.2.2.2.2.2.2.2.1,j31.2.2.2.2.2.2.2.2.1,j31.2.2.2.2.2.2.2.2.2.1,j31.2.2.2.2.2.2.2.2.2.2.1,()) w41)) (fun h42 w41=>R (.panicked h42) w41))
        (Br false
         (J37 (j31.1,j31.2.1,j31.2.2.1,j31.2.2.2.1,j31.2.2.2.2.1,j31.2.2.2.2.2.1,j31.2.2.2.2.2.2.1,j31.2.2.2.2.2.2.2.1,j31.2.2.2.2.2.2.2.2.1,4,j31.2.2.2.2.2.2.2.2.2.2.1,()) w36)
         (J37 (j31.1,j31.2.1,j31.2.2.1,j31.2.2.2.1,j31.2.2.2.2.1,j31.2.2.2.2.2.1,j31.2.2.2.2.2.2.1,j31.2.2.2.2.2.2.2.1,j31.2.2.2.2.2.2.2.2.1,j31.2.2.2.2.2.2.2.2.2.1,j31.2.2.2.2.2.2.2.2.2.2.1,()) w36))
def cayleylaw21_FoldConjugates.j9 (R:Ending→World→Prop)(j31:Int × ByteArray × Addr × Addr × Addr × Int × ByteArray × Bool × Int × Int × Int × Unit)(w36:World):Prop:=cayleylaw21_FoldConjugates.t9 R j31 w36 fun y _ w=>cayleylaw21_FoldConjugates.j11 R y w
theorem cayleylaw21_FoldConjugates.t9.eq (R:Ending→World→Prop)(j31:Int × ByteArray × Addr × Addr × Addr × Int × ByteArray × Bool × Int × Int × Int × Unit)(g:Env)(w36:World):cayleylaw21_FoldConjugates.t9 R j31 w36 (fun y g w=>wpc Tryd.prog cayleylaw21_FoldConjugates.ann (cayleylaw21_FoldConjugates.part 11 cayleylaw21_FoldConjugates.body) (fnKs Tryd.prog Tryd.f9 R) [] (putTs [(0,.sc (.int .i64)),(3,.sc .str),(5,.sc .adr),(6,.sc .adr),(9,.sc .adr),(10,.sc (.int .i64)),(11,.sc .str),(12,.sc .bool),(13,.sc (.int .i64)),(14,.sc (.int .i64)),(15,.sc (.int .i64))] y g) w)=wpc Tryd.prog cayleylaw21_FoldConjugates.ann (cayleylaw21_FoldConjugates.part 9 cayleylaw21_FoldConjugates.body) (fnKs Tryd.prog Tryd.f9 R) [] (putTs [(0,.sc (.int .i64)),(3,.sc .str),(5,.sc .adr),(6,.sc .adr),(9,.sc .adr),(10,.sc (.int .i64)),(11,.sc .str),(12,.sc .bool),(13,.sc (.int .i64)),(14,.sc (.int .i64)),(15,.sc (.int .i64))] j31 g) w36:=by kernel_rfl
theorem cayleylaw21_FoldConjugates.j9.eq (R:Ending→World→Prop)(j31:Int × ByteArray × Addr × Addr × Addr × Int × ByteArray × Bool × Int × Int × Int × Unit)(g:Env)(w36:World):cayleylaw21_FoldConjugates.j9 R j31 w36=wpc Tryd.prog cayleylaw21_FoldConjugates.ann (cayleylaw21_FoldConjugates.part 9 cayleylaw21_FoldConjugates.body) (fnKs Tryd.prog Tryd.f9 R) [] (putTs [(0,.sc (.int .i64)),(3,.sc .str),(5,.sc .adr),(6,.sc .adr),(9,.sc .adr),(10,.sc (.int .i64)),(11,.sc .str),(12,.sc .bool),(13,.sc (.int .i64)),(14,.sc (.int .i64)),(15,.sc (.int .i64))] j31 g) w36:=
 (congrArg (cayleylaw21_FoldConjugates.t9 R j31 w36) (funext fun y=>funext fun g=>funext fun w=>cayleylaw21_FoldConjugates.j11.eq R y g w)).trans (cayleylaw21_FoldConjugates.t9.eq R j31 g w36)
def cayleylaw21_FoldConjugates.t3 (R:Ending→World→Prop)(j7:Int × ByteArray × Addr × Addr × Unit)(w12:World)(Y9:Int × ByteArray × Addr × Addr × Addr × Int × ByteArray × Bool × Int × Int × Int × Unit→Env→World→Prop):Prop:=
  LoadT (.agg [.int .i64,.int .i64,.sl,.sl]) w12 j7.2.2.1 fun x13=>
  CallN Tryd.prog 38 #[(.int .i64 j7.1),(.agg #[(.int .i64 x13.1),(.int .i64 x13.2.1),(.slice x13.2.2.1.a x13.2.2.1.n x13.2.2.1.c),(.slice x13.2.2.2.1.a x13.2.2.2.1.n x13.2.2.2.1.c)]),(.string j7.2.1)] [.agg [.int .i64,.int .i64,.sl,.sl],.sc (.int .i64)] w12 (fun r14 w15=>
   New w15 (.cells #[(.int .i64 0),(.int .i64 0),(.slice none 0 0),(.slice none 0 0)] 27) fun b17 w18=>
   StoreN w18 (Addr.mk b17 0 none) [(.int .i64 r14.1.1),(.int .i64 r14.1.2.1),(.slice r14.1.2.2.1.a r14.1.2.2.1.n r14.1.2.2.1.c),(.slice r14.1.2.2.2.1.a r14.1.2.2.2.1.n r14.1.2.2.2.1.c)] fun w19=>
   LoadT (.agg [.int .i64,.int .i64,.sl,.sl]) w19 j7.2.2.1 fun x20=>
   LoadT (.agg [.int .i64,.int .i64,.sl,.sl]) w19 j7.2.2.2.1 fun x21=>
   CallN Tryd.prog 39 #[(.int .i64 j7.1),(.agg #[(.int .i64 x20.1),(.int .i64 x20.2.1),(.slice x20.2.2.1.a x20.2.2.1.n x20.2.2.1.c),(.slice x20.2.2.2.1.a x20.2.2.2.1.n x20.2.2.2.1.c)]),(.agg #[(.int .i64 x21.1),(.int .i64 x21.2.1),(.slice x21.2.2.1.a x21.2.2.1.n x21.2.2.1.c),(.slice x21.2.2.2.1.a x21.2.2.2.1.n x21.2.2.2.1.c)])] [.sc .str,.sc .bool,.sc (.int .i64)] w19 (fun r22 w23=>
    LoadT (.agg [.int .i64,.int .i64,.sl,.sl]) w23 j7.2.2.1 fun x25=>
    CallT Tryd.prog 18 #[(.int .i64 j7.1),(.agg #[(.int .i64 x25.1),(.int .i64 x25.2.1),(.slice x25.2.2.1.a x25.2.2.1.n x25.2.2.1.c),(.slice x25.2.2.2.1.a x25.2.2.2.1.n x25.2.2.2.1.c)])] (.sc (.int .i64)) w23 (fun r26 w27=>
     Join (σ:=Int × ByteArray × Addr × Addr × Addr × Int × ByteArray × Bool × Int × Int × Int × Unit) Y9 fun J29=>
      Br ((r26:Int) == 0)
       (LoadT (.agg [.int .i64,.int .i64,.sl,.sl]) w27 j7.2.2.2.1 fun x32=>
       CallT Tryd.prog 18 #[(.int .i64 j7.1),(.agg #[(.int .i64 x32.1),(.int .i64 x32.2.1),(.slice x32.2.2.1.a x32.2.2.1.n x32.2.2.1.c),(.slice x32.2.2.2.1.a x32.2.2.2.1.n x32.2.2.2.1.c)])] (.sc (.int .i64)) w27 (fun r33 w34=>
        J29 (j7.1,j7.2.1,j7.2.2.1,j7.2.2.2.1,(Addr.mk b17 0 none),r14.2.1,r22.1,r22.2.1,r22.2.2.1,r26,r33,()) w34) (fun h35 w34=>R (.panicked h35) w34))
       (J29 (j7.1,j7.2.1,j7.2.2.1,j7.2.2.2.1,(Addr.mk b17 0 none),r14.2.1,r22.1,r22.2.1,r22.2.2.1,r26,r26,()) w27)) (fun h28 w27=>R (.panicked h28) w27)) (fun h24 w23=>R (.panicked h24) w23)) (fun h16 w15=>R (.panicked h16) w15)
def cayleylaw21_FoldConjugates.j3 (R:Ending→World→Prop)(j7:Int × ByteArray × Addr × Addr × Unit)(w12:World):Prop:=cayleylaw21_FoldConjugates.t3 R j7 w12 fun y _ w=>cayleylaw21_FoldConjugates.j9 R y w
theorem cayleylaw21_FoldConjugates.t3.eq (R:Ending→World→Prop)(j7:Int × ByteArray × Addr × Addr × Unit)(g:Env)(w12:World):cayleylaw21_FoldConjugates.t3 R j7 w12 (fun y g w=>wpc Tryd.prog cayleylaw21_FoldConjugates.ann (cayleylaw21_FoldConjugates.part 9 cayleylaw21_FoldConjugates.body) (fnKs Tryd.prog Tryd.f9 R) [] (putTs [(0,.sc (.int .i64)),(3,.sc .str),(5,.sc .adr),(6,.sc .adr),(9,.sc .adr),(10,.sc (.int .i64)),(11,.sc .str),(12,.sc .bool),(13,.sc (.int .i64)),(14,.sc (.int .i64)),(15,.sc (.int .i64))] y g) w)=wpc Tryd.prog cayleylaw21_FoldConjugates.ann (cayleylaw21_FoldConjugates.part 3 cayleylaw21_FoldConjugates.body) (fnKs Tryd.prog Tryd.f9 R) [] (putTs [(0,.sc (.int .i64)),(3,.sc .str),(5,.sc .adr),(6,.sc .adr)] j7 g) w12:=by kernel_rfl
theorem cayleylaw21_FoldConjugates.j3.eq (R:Ending→World→Prop)(j7:Int × ByteArray × Addr × Addr × Unit)(g:Env)(w12:World):cayleylaw21_FoldConjugates.j3 R j7 w12=wpc Tryd.prog cayleylaw21_FoldConjugates.ann (cayleylaw21_FoldConjugates.part 3 cayleylaw21_FoldConjugates.body) (fnKs Tryd.prog Tryd.f9 R) [] (putTs [(0,.sc (.int .i64)),(3,.sc .str),(5,.sc .adr),(6,.sc .adr)] j7 g) w12:=
 (congrArg (cayleylaw21_FoldConjugates.t3 R j7 w12) (funext fun y=>funext fun g=>funext fun w=>cayleylaw21_FoldConjugates.j9.eq R y g w)).trans (cayleylaw21_FoldConjugates.t3.eq R j7 g w12)
def cayleylaw21_FoldConjugates.top (p0:Int)(p1_0:Int)(p1_1:Int)(p1_2:Sl)(p1_3:Sl)(p2_0:Int)(p2_1:Int)(p2_2:Sl)(p2_3:Sl)(p3:ByteArray)(R:Ending→World→Prop)(w:World)(Y3:Int × ByteArray × Addr × Addr × Unit→Env→World→Prop):Prop:=
 New w (.cells #[(.int .i64 p1_0),(.int .i64 p1_1),(.slice p1_2.a p1_2.n p1_2.c),(.slice p1_3.a p1_3.n p1_3.c)] 27) fun b1 w2=>
 New w2 (.cells #[(.int .i64 p2_0),(.int .i64 p2_1),(.slice p2_2.a p2_2.n p2_2.c),(.slice p2_3.a p2_3.n p2_3.c)] 27) fun b3 w4=>
 Join (σ:=Int × ByteArray × Addr × Addr × Unit) Y3 fun J5=>
  LoadT (.sc .sl) w4 ((Addr.mk b1 0 none).add 2) fun x8=>
  Br (decide ((((x8.n:Nat):Int):Int)>20))
   (Br true
    (R (.returned (.bool true)) w4)
    (J5 (p0,p3,(Addr.mk b1 0 none),(Addr.mk b3 0 none),()) w4))
   (LoadT (.sc .sl) w4 ((Addr.mk b3 0 none).add 2) fun x9=>
   Br (decide ((((x9.n:Nat):Int):Int)>20))
    (Br true
     (R (.returned (.bool true)) w4)
     (J5 (p0,p3,(Addr.mk b1 0 none),(Addr.mk b3 0 none),()) w4))
    (LoadT (.sc .sl) w4 ((Addr.mk b1 0 none).add 3) fun x10=>
    Br (decide ((((x10.n:Nat):Int):Int)>20))
     (Br true
      (R (.returned (.bool true)) w4)
      (J5 (p0,p3,(Addr.mk b1 0 none),(Addr.mk b3 0 none),()) w4))
     (LoadT (.sc .sl) w4 ((Addr.mk b3 0 none).add 3) fun x11=>
     Br (decide ((((x11.n:Nat):Int):Int)>20))
      (Br true
       (R (.returned (.bool true)) w4)
       (J5 (p0,p3,(Addr.mk b1 0 none),(Addr.mk b3 0 none),()) w4))
      (Br (decide ((((p3.size:Nat):Int):Int)>40))
       (R (.returned (.bool true)) w4)
       (J5 (p0,p3,(Addr.mk b1 0 none),(Addr.mk b3 0 none),()) w4)))))
def cayleylaw21_FoldConjugates.sh (p0:Int)(p1_0:Int)(p1_1:Int)(p1_2:Sl)(p1_3:Sl)(p2_0:Int)(p2_1:Int)(p2_2:Sl)(p2_3:Sl)(p3:ByteArray)(R:Ending→World→Prop)(w:World):Prop:=cayleylaw21_FoldConjugates.top p0 p1_0 p1_1 p1_2 p1_3 p2_0 p2_1 p2_2 p2_3 p3 R w fun y _ w=>cayleylaw21_FoldConjugates.j3 R y w
theorem cayleylaw21_FoldConjugates.top.eq (p0:Int)(p1_0:Int)(p1_1:Int)(p1_2:Sl)(p1_3:Sl)(p2_0:Int)(p2_1:Int)(p2_2:Sl)(p2_3:Sl)(p3:ByteArray)(R:Ending→World→Prop)(w:World):cayleylaw21_FoldConjugates.top p0 p1_0 p1_1 p1_2 p1_3 p2_0 p2_1 p2_2 p2_3 p3 R w (fun y g w=>wpc Tryd.prog cayleylaw21_FoldConjugates.ann (cayleylaw21_FoldConjugates.part 3 cayleylaw21_FoldConjugates.body) (fnKs Tryd.prog Tryd.f9 R) [] (putTs [(0,.sc (.int .i64)),(3,.sc .str),(5,.sc .adr),(6,.sc .adr)] y g) w)=wpc Tryd.prog cayleylaw21_FoldConjugates.ann cayleylaw21_FoldConjugates.body (fnKs Tryd.prog Tryd.f9 R) [] (env0 #[(.int .i64 p0),(.agg #[(.int .i64 p1_0),(.int .i64 p1_1),(.slice p1_2.a p1_2.n p1_2.c),(.slice p1_3.a p1_3.n p1_3.c)]),(.agg #[(.int .i64 p2_0),(.int .i64 p2_1),(.slice p2_2.a p2_2.n p2_2.c),(.slice p2_3.a p2_3.n p2_3.c)]),(.string p3)]) w:=by kernel_rfl
theorem cayleylaw21_FoldConjugates.eq (p0:Int)(p1_0:Int)(p1_1:Int)(p1_2:Sl)(p1_3:Sl)(p2_0:Int)(p2_1:Int)(p2_2:Sl)(p2_3:Sl)(p3:ByteArray)(R:Ending→World→Prop)(w:World):cayleylaw21_FoldConjugates.sh p0 p1_0 p1_1 p1_2 p1_3 p2_0 p2_1 p2_2 p2_3 p3 R w=wpc Tryd.prog cayleylaw21_FoldConjugates.ann cayleylaw21_FoldConjugates.body (fnKs Tryd.prog Tryd.f9 R) [] (env0 #[(.int .i64 p0),(.agg #[(.int .i64 p1_0),(.int .i64 p1_1),(.slice p1_2.a p1_2.n p1_2.c),(.slice p1_3.a p1_3.n p1_3.c)]),(.agg #[(.int .i64 p2_0),(.int .i64 p2_1),(.slice p2_2.a p2_2.n p2_2.c),(.slice p2_3.a p2_3.n p2_3.c)]),(.string p3)]) w:=
 (congrArg (cayleylaw21_FoldConjugates.top p0 p1_0 p1_1 p1_2 p1_3 p2_0 p2_1 p2_2 p2_3 p3 R w) (funext fun y=>funext fun g=>funext fun w=>cayleylaw21_FoldConjugates.j3.eq R y g w)).trans (cayleylaw21_FoldConjugates.top.eq p0 p1_0 p1_1 p1_2 p1_3 p2_0 p2_1 p2_2 p2_3 p3 R w)
theorem cayleylaw21_FoldConjugates.calls (p0:Int)(p1_0:Int)(p1_1:Int)(p1_2:Sl)(p1_3:Sl)(p2_0:Int)(p2_1:Int)(p2_2:Sl)(p2_3:Sl)(p3:ByteArray){R:Ending→World→Prop}{w:World}(h:cayleylaw21_FoldConjugates.sh p0 p1_0 p1_1 p1_2 p1_3 p2_0 p2_1 p2_2 p2_3 p3 R w):Calls Tryd.prog 9 #[(.int .i64 p0),(.agg #[(.int .i64 p1_0),(.int .i64 p1_1),(.slice p1_2.a p1_2.n p1_2.c),(.slice p1_3.a p1_3.n p1_3.c)]),(.agg #[(.int .i64 p2_0),(.int .i64 p2_1),(.slice p2_2.a p2_2.n p2_2.c),(.slice p2_3.a p2_3.n p2_3.c)]),(.string p3)] w R:=
 calls_of_wpc mixed Tryd.func9 (by kernel_rfl) (by kernel_rfl) ((cayleylaw21_FoldConjugates.eq p0 p1_0 p1_1 p1_2 p1_3 p2_0 p2_1 p2_2 p2_3 p3 R w).mp h)
end Go.Proofs.YtffdjfkekdoeaaaDoor
end
section
namespace Go.Proofs.YtffdjfkekdoeaaaDoor.Fo
open Fw Wd Rf Pl
abbrev AX:=Int × Int × Sl × Sl × Unit
structure Mc (w W:World)(b1 b3 b17:Nat)(x y z:AX):Prop where
 chg:Chg Nil w W
 c1:W.heap[b1]? = some (.cells #[.int .i64 x.1,.int .i64 x.2.1,x.2.2.1.v,x.2.2.2.1.v] 27 (0,0))
 c3:W.heap[b3]? = some (.cells #[.int .i64 y.1,.int .i64 y.2.1,y.2.2.1.v,y.2.2.2.1.v] 27 (0,0))
 c17:W.heap[b17]? = some (.cells #[.int .i64 z.1,.int .i64 z.2.1,z.2.2.1.v,z.2.2.2.1.v] 27 (0,0))
theorem Mc.nil {w W W':World}{b1 b3 b17:Nat}{x y z:AX}(h:Mc w W b1 b3 b17 x y z)(hc:Chg Nil W W'):Mc w W' b1 b3 b17 x y z:=⟨h.chg.then hc,hc.heap h.c1 fun h=>h,hc.heap h.c3 fun h=>h,hc.heap h.c17 fun h=>h⟩
theorem ldT {W:World}{b:Nat}{x:AX}(h:W.heap[b]? = some (.cells #[.int .i64 x.1,.int .i64 x.2.1,x.2.2.1.v,x.2.2.2.1.v] 27 (0,0))){K:tA.den→Prop}(k:K x):LoadT tA W (at0 b) K:=
 LoadT.mk tA (x:=x) (fun j v hv=>by rw[show at0 b=Addr.mk b 0 none from rfl,cellOf h];simpa[Ty.cells] using hv) k
theorem ldS {W:World}{b:Nat}{x:AX}(h:W.heap[b]? = some (.cells #[.int .i64 x.1,.int .i64 x.2.1,x.2.2.1.v,x.2.2.2.1.v] 27 (0,0))){K:tA.den→Prop}(k:K x):LoadS (fun X=>Chg Nil W X) tA (at0 b) K:=
 LoadS.mk tA (x:=x) (fun X hX j v hv=>by rw[show at0 b=Addr.mk b 0 none from rfl,cellOf (hX.heap h fun h=>h)];simpa[Ty.cells] using hv) k
theorem conj_call {w:World}{k:Nat}(hk:1≤k∧k≤8){x:AX}{a:Aut}(ha:AutIn w x a)(hc:a.check (k:Int)=0){s:ByteArray}(hs:checkF (k:Int) s=0)(hl:s.size≤50000){Rc:List Row}(hF:FoldL k (conjL (k:Int) a (wordF s)) (some Rc)) :
  Ret Tryd.prog 41 #[.int .i64 (k:Int),.agg #[.int .i64 x.1,.int .i64 x.2.1,x.2.2.1.v,x.2.2.2.1.v],.string s] tA w fun z w'=>AutIn w' z (autE k Rc)∧Chg Nil w w':=by
 obtain⟨hidx,_⟩:=idxs_word hs;have hlen:(wordF s).length=(ReduceF s).size:=by have:=congrArg List.length hidx;simpa using this.symm
 have hsz:=(word_reduce (k:=(k:Int)) (by omega) hs).2.2
 obtain⟨K,R,h1,h2,_⟩:=conj_ref hk hc (u:=wordF s) (fun x hx=>by have:=word_all hs x hx;omega) (by omega)
 have:=Conjugate_ret21 hk ha hc hs (by omega) h1
 rw[h2 Rc hF]at this;exact this
theorem j16_ok {w W:World}(hl:Laid w){k:Int}{x y z:AX}{a b:Aut}(ha:AutIn w x a){c:Aut}{s:ByteArray}{b1 b3 b17:Nat}(hM:Mc w W b1 b3 b17 x y z)(hz:AutIn W z c){bad:Int}(hsz:s.size≤40)
  (hbad:bad=0→∃ nk Rc,k=((nk:Nat):Int)∧(1≤nk∧nk≤8)∧a.check k=0∧checkF k s=0∧c=autE nk Rc∧FoldL nk (conjL k a (wordF s)) (some Rc))
  {R:Ending→World→Prop} (hR:∀ W',Chg Nil w W'→R (.returned (.bool true)) W'):cayleylaw21_FoldConjugates.j16 R (k,s,at0 b1,at0 b17,bad,()) W:=by
 unfold cayleylaw21_FoldConjugates.j16;dsimp only;refine Br.mk (fun hne=>?_) (fun heq=>?_)
 ·refine Ret.call (sane_ret (hl.nil hM.chg)) ?_
  rintro _ W1 ⟨rfl,h1⟩
  exact hR W1 (hM.chg.then h1)
 have heq:bad=0:=by simpa using heq
 obtain⟨nk,Rc,rfl,hkn,hca,hcs,rfl,hF⟩:=hbad heq;obtain⟨hcc,hlang⟩:=foldL_auto hkn hF;obtain⟨ca,ka⟩:=coreK hca (by omega)
 obtain⟨cc,kc⟩:=coreK hcc (by omega)
 have hisB:=conj_is hkn hca hcc ka kc fun l hl=>(hlang l hl).symm
 refine ldT hM.c1 (ldT hM.c17 ?_);refine RetN.call (Conjugator_ret (k:=(nk:Int)) (x:=x) (y:=z) (hl.nil hM.chg) (ha.nil hM.chg) hz) ?_
 rintro⟨y1,same,g1,_⟩ W1 ⟨hcj,hc1⟩
 obtain⟨q1,q2,_,q4⟩:=conjr_spec hkn hca hcc ka kc hcj;have t1:g1=0:=q1;have t2:same=true:=q2.2 hisB;subst t1;subst t2;obtain⟨q5,q6,Rb,q7,q8⟩:=q4 rfl;have q5:checkF (nk:Int) y1=0:=q5;have q8:FoldL nk (conjL (nk:Int) a (wordF y1)) (some Rb):=q8;have q6:y1.size≤(autE nk Rc).next.length+a.next.length:=q6;obtain⟨_,_,m1,m2,_⟩:=check_spec hcc;obtain⟨_,_,n1,n2,_⟩:=check_spec hca;have hM1:=hM.nil hc1;have hz1:=hz.nil hc1
 have hd:Chg Nil W1 W1.drew:=Chg.drew W1;refine⟨fun X=>Chg Nil W1 X,hd,?_⟩
 refine Ret.call (sane_ret (hl.nil (hM1.chg.then hd))) ?_
 rintro _ W2 ⟨rfl,hc2⟩
 have d2:=hd.then hc2
 refine⟨d2,Br.t rfl ?_⟩;refine ldS hM1.c17 (ldS hM1.c1 ?_);refine Ret.call (conj_call hkn (ha.nil (hM1.chg.then d2)) hca hcs (by omega) hF) ?_
 rintro r3 W3 ⟨h3,hc3⟩
 have d3:=d2.then hc3
 refine⟨d3,?_⟩;refine Ret.call (Same_ret (hz1.nil d3) h3) ?_
 rintro _ W4 ⟨rfl,hc4⟩
 have d4:=d3.then hc4
 refine⟨d4,?_⟩;refine Br.t (same_refl _) (Br.t (beq_self_eq_true _) (Br.t rfl ?_));refine ldS hM1.c1 (ldS hM1.c17 ?_);refine Ret.call (conj_call hkn (ha.nil (hM1.chg.then d4)) hca q5 (by omega) q8) ?_
 rintro r5 W5 ⟨h5,hc5⟩
 have d5:=d4.then hc5
 refine⟨d5,?_⟩;refine Ret.call (Same_ret h5 (hz1.nil d5)) ?_
 rintro _ W6 ⟨rfl,hc6⟩
 have d6:=d5.then hc6
 refine⟨d6,?_⟩;have:sameF (autE nk Rb) (autE nk Rc)=true:=by rw[← q7];exact same_refl _
 rw[this];exact hR W6 (hM1.chg.then d6)
theorem j13_ok {w W:World}(hl:Laid w){k:Int}{x y z:AX}{a b:Aut}(ha:AutIn w x a)(hb:AutIn w y b){c:Aut}{s:ByteArray}{b1 b3 b17:Nat}(hM:Mc w W b1 b3 b17 x y z)(hz:AutIn W z c){bad:Int}(hsz:s.size≤40)(ha20:a.next.length≤20)(hb20:b.next.length≤20)
  (hbad:bad=0→∃ nk Rc,k=((nk:Nat):Int)∧(1≤nk∧nk≤8)∧a.check k=0∧checkF k s=0∧c=autE nk Rc∧FoldL nk (conjL k a (wordF s)) (some Rc))
  {xw:ByteArray} {is:Bool} {f other:Int} (hcj:ConjrIs k a b (xw,is,f,())) (hoth:other=0→∃ nk:Nat,k=(nk:Int)∧(1≤nk∧nk≤8)∧a.check k=0∧b.check k=0)
  {R:Ending→World→Prop} (hR:∀ W',Chg Nil w W'→R (.returned (.bool true)) W'):cayleylaw21_FoldConjugates.j13 R (k,s,at0 b1,at0 b3,at0 b17,xw,is,bad,other,()) W:=by
 unfold cayleylaw21_FoldConjugates.j13 cayleylaw21_FoldConjugates.t13;dsimp only;refine Join.by' (fun v U=>v=(k,s,at0 b1,at0 b17,bad,())∧Chg Nil W U) ?_ ?_
 ·rintro v U g ⟨rfl,hU⟩
  exact j16_ok (y:=y) (b:=b) hl ha (hM.nil hU) (hz.nil hU) hsz hbad hR
 intro J hJ;refine Br.mk (fun h0=>?_) (fun h0=>hJ _ _ ⟨rfl,Chg.refl W⟩)
 have h0:other=0:=by simpa using h0
 obtain⟨nk,rfl,hkn,hca,hcb⟩:=hoth h0;obtain⟨ca,ka⟩:=coreK hca (by omega)
 obtain⟨cb,kb⟩:=coreK hcb (by omega)
 obtain⟨_,q2,q3,q4⟩:=conjr_spec hkn hca hcb ka kb hcj;obtain⟨K,K',ea,eb,Rv,Rw,g1,g2,g3,g4,g5⟩:=conjB_ready hkn hca hcb ka kb;have hd:Chg Nil W W.drew:=Chg.drew W;refine⟨fun X=>Chg Nil W X,hd,?_⟩
 refine ldS hM.c1 (ldS hM.c3 ?_);refine Ret.call (Conjugates_ret (k:=nk) hkn (x:=x) (y:=y) (ha.nil (hM.chg.then hd)) (hb.nil (hM.chg.then hd)) hca hcb g1 g2 g3 g4) ?_
 rintro _ W1 ⟨rfl,hc1⟩
 have d1:=hd.then hc1
 refine⟨d1,?_⟩;have his:conjB nk (coreV a.next.length ea) (coreV b.next.length eb) Rv Rw=is:=by
  have h1:is=true↔conjB nk (coreV a.next.length ea) (coreV b.next.length eb) Rv Rw=true:=q2.trans g5;cases is <;> cases hh:conjB nk (coreV a.next.length ea) (coreV b.next.length eb) Rv Rw <;> simp_all
 rw[his];refine Br.f (by simp) ?_
 cases is with
 | false=>
  have q3:xw=⟨#[]⟩:=q3 rfl;subst q3;refine Br.t rfl ?_;refine Br.f (by simp) (Br.f rfl (Br.f rfl (hJ _ _ ⟨rfl,d1⟩)))
 | true=>
  obtain⟨q5,q6,Rb,q7,q8⟩:=q4 rfl;have q5:checkF (nk:Int) xw=0:=q5;have q6:xw.size≤b.next.length+a.next.length:=q6;have q8:FoldL nk (conjL (nk:Int) a (wordF xw)) (some Rb):=q8;refine Br.f rfl (Br.t rfl ?_);refine Ret.call (IsWord_ret W1 (nk:Int) xw) ?_
  rintro _ W2 ⟨rfl,hW2⟩
  rw[hW2];clear hW2;refine⟨d1,?_⟩;refine Br.f (by rw[q5];rfl) ?_
  refine Br.no (by show ¬ ((xw.size:Nat):Int)>4000;omega) ?_
  refine ldS hM.c1 (ldS hM.c3 ?_);refine Ret.call (conj_call hkn (ha.nil (hM.chg.then d1)) hca q5 (by omega) q8) ?_
  rintro r3 W3 ⟨h3,hc3⟩
  have d3:=d1.then hc3
  refine⟨d3,?_⟩;refine Ret.call (Same_ret h3 (hb.nil (hM.chg.then d3))) ?_
  rintro _ W4 ⟨rfl,hc4⟩
  have d4:=d3.then hc4
  refine⟨d4,?_⟩;have:sameF (autE nk Rb) b=true:=by rw[← q7];exact same_refl _
  rw[this];exact Br.f rfl (hJ _ _ ⟨rfl,d4⟩)
theorem j11_ok {w W:World}(hl:Laid w){k:Int}{x y z:AX}{a b:Aut}(ha:AutIn w x a)(hb:AutIn w y b){c:Aut}{s:ByteArray}{b1 b3 b17:Nat}(hM:Mc w W b1 b3 b17 x y z)(hz:AutIn W z c){bad e:Int}(hsz:s.size≤40)(ha20:a.next.length≤20)(hb20:b.next.length≤20)
  (hbad:bad=0→∃ nk Rc,k=((nk:Nat):Int)∧(1≤nk∧nk≤8)∧a.check k=0∧checkF k s=0∧c=autE nk Rc∧FoldL nk (conjL k a (wordF s)) (some Rc)) (hnon:bad≠0→z.2.2.1.n=0) (he:e=bad)
  {xw:ByteArray} {is:Bool} {f other:Int} (hcj:ConjrIs k a b (xw,is,f,())) (hf:f=other) (hoth:other=0→∃ nk:Nat,k=(nk:Int)∧(1≤nk∧nk≤8)∧a.check k=0∧b.check k=0) (hno:other≠0→is=false∧xw=⟨#[]⟩)
  {R:Ending→World→Prop} (hR:∀ W',Chg Nil w W'→R (.returned (.bool true)) W'):cayleylaw21_FoldConjugates.j11 R (k,s,at0 b1,at0 b3,at0 b17,e,xw,is,f,bad,other,()) W:=by
 unfold cayleylaw21_FoldConjugates.j11 cayleylaw21_FoldConjugates.t11;dsimp only;refine Join.by' (fun v U=>v=(k,s,at0 b1,at0 b3,at0 b17,xw,is,bad,other,())∧U=W) ?_ ?_
 ·rintro v U g ⟨rfl,hU⟩
  rw[hU];exact j13_ok hl ha hb hM hz hsz ha20 hb20 hbad hcj hoth hR
 intro J hJ;have out:=hJ _ _ ⟨rfl,rfl⟩;refine Br.f (by rw[he];simp) (Br.f (by rw[hf];simp) ?_)
 have tl:∀ (L:Prop),L→Br (other != 0) (Br is (Br true (R (.returned (.bool false)) W) L) (Br (!(xw.toList == (ByteArray.mk #[]).toList)) (R (.returned (.bool false)) W) L)) (Br false (R (.returned (.bool false)) W) L):=fun L hL=>by
  refine Br.mk (fun h=>?_) (fun _=>Br.f rfl hL)
  obtain⟨e1,e2⟩:=hno (by simpa using h)
  subst e1;subst e2;exact Br.f rfl (Br.f (by simp) hL)
 refine Br.mk (fun h=>?_) (fun _=>tl _ out)
 have h:bad≠0:=by simpa using h
 refine LoadT.sc (s:=.sl) (x:=z.2.2.1) (by rw[show at0 b17=Addr.mk b17 0 none from rfl,cellOf hM.c17];rfl) ?_
 refine Br.f (by rw[hnon h];rfl) (tl _ out)
theorem FoldConjugates_ret {w:World}(hl:Laid w){k:Int}{x y:AX}{a b:Aut}(ha:AutIn w x a)(hb:AutIn w y b)(s:ByteArray) :
  Ret Tryd.prog 9 #[.int .i64 k,.agg #[.int .i64 x.1,.int .i64 x.2.1,x.2.2.1.v,x.2.2.2.1.v],.agg #[.int .i64 y.1,.int .i64 y.2.1,y.2.2.1.v,y.2.2.2.1.v],.string s] (.sc .bool) w fun z w'=>z=true∧Chg Nil w w':=by
 obtain⟨x1,x2,sa,sn,_⟩:=x;obtain⟨y1,y2,ta,tn,_⟩:=y;refine cayleylaw21_FoldConjugates.calls k x1 x2 sa sn y1 y2 ta tn s ?_;unfold cayleylaw21_FoldConjugates.sh cayleylaw21_FoldConjugates.top;refine New.mk fun b1 w1 hb1 hh1 hs1 hc1=>?_
 refine New.mk fun b3 w2 hb3 hh3 hs3 hc3=>?_
 have h12:w2.heap[b1]? = some _:=hc3.heap hh1 fun h=>h
 have hc02:=hc1.then hc3
 have ea1:sa.n=a.acc.length:=ha.rd.acc.len;have ea2:sn.n=a.next.length:=by obtain⟨_,_,_,sls,h4,h5,_⟩:=ha.rd;rw[h4.len,h5]
 have eb2:tn.n=b.next.length:=by obtain⟨_,_,_,sls,h4,h5,_⟩:=hb.rd;rw[h4.len,h5]
 refine Join.by' (fun z W=>z=(k,s,at0 b1,at0 b3,())∧W=w2∧a.next.length≤20∧b.next.length≤20∧s.size≤40) ?_ ?_
 rotate_left
 ·intro J hJ;have out:∃ z:Bool,Ending.returned (.bool true) = .returned ((Ty.sc .bool).val z)∧z=true∧Chg Nil w w2:=⟨true,rfl,rfl,hc02⟩;refine LoadT.sc (s:=.sl) (x:=sa) (by rw[cellOf h12];rfl) ?_
  refine Br.dec (fun _=>Br.t rfl out) (fun h1=>?_)
  refine LoadT.sc (s:=.sl) (x:=ta) (by rw[cellOf hh3];rfl) ?_
  refine Br.dec (fun _=>Br.t rfl out) (fun h2=>?_)
  refine LoadT.sc (s:=.sl) (x:=sn) (by rw[cellOf h12];rfl) ?_
  refine Br.dec (fun _=>Br.t rfl out) (fun h3=>?_)
  refine LoadT.sc (s:=.sl) (x:=tn) (by rw[cellOf hh3];rfl) ?_
  refine Br.dec (fun _=>Br.t rfl out) (fun h4=>?_)
  refine Br.dec (fun _=>out) (fun h5=>?_)
  have h3:¬ ((sn.n:Nat):Int)>20:=h3;have h4:¬ ((tn.n:Nat):Int)>20:=h4;have h5:¬ ((s.size:Nat):Int)>40:=h5;exact hJ _ _ ⟨rfl,rfl,by omega,by omega,by omega⟩
 rintro z W g ⟨rfl,hW,ha20,hb20,hs40⟩
 rw[hW];clear hW;unfold cayleylaw21_FoldConjugates.j3 cayleylaw21_FoldConjugates.t3;dsimp only;have lay:∀ {W:World},Chg Nil w2 W→Laid W:=fun hW=>hl.nil (hc02.then hW)
 have i1:∀ {W:World},Chg Nil w2 W→W.heap[b1]? = some (.cells #[.int .i64 (x1,x2,sa,sn,()).1,.int .i64 (x1,x2,sa,sn,()).2.1,(x1,x2,sa,sn,()).2.2.1.v,(x1,x2,sa,sn,()).2.2.2.1.v] 27 (0,0)):=fun hW=>hW.heap h12 fun h=>h
 have i3:∀ {W:World},Chg Nil w2 W→W.heap[b3]? = some (.cells #[.int .i64 (y1,y2,ta,tn,()).1,.int .i64 (y1,y2,ta,tn,()).2.1,(y1,y2,ta,tn,()).2.2.1.v,(y1,y2,ta,tn,()).2.2.2.1.v] 27 (0,0)):=fun hW=>hW.heap hh3 fun h=>h
 refine ldT (x:=(x1,x2,sa,sn,())) (i1 (Chg.refl _)) ?_;refine RetN.call (Conjugate_ret (k:=k) (x:=(x1,x2,sa,sn,())) (lay (Chg.refl _)) (ha.nil hc02) s) ?_
 rintro⟨⟨c1,c2,ca,cn,_⟩,c3,_⟩ w3 ⟨res,hCC,hc3',hC,ec⟩
 have ec:c3=(autR res).2:=ec;subst ec;refine New.mk fun b17 w4 hb17 hn17 _ hc17=>?_
 refine StoreN.whole (vs:=[.int .i64 c1,.int .i64 c2,ca.v,cn.v]) hn17 rfl fun w5 h17 hc17' _=>?_
 have hN5:Chg Nil w3 w5:=hc17.trans hc17' (fun _ _ h=>h) fun i hi he=>by have he:i=b17:=he;omega
 have d5:=hc3'.then hN5
 have hC5:AutIn w5 (c1,c2,ca,cn,()) (autR res).1:=hC.nil hN5;refine ldT (x:=(x1,x2,sa,sn,())) (i1 d5) (ldT (x:=(y1,y2,ta,tn,())) (i3 d5) ?_);refine RetN.call (Conjugator_ret (k:=k) (x:=(x1,x2,sa,sn,())) (y:=(y1,y2,ta,tn,())) (lay d5) (ha.nil (hc02.then d5)) (hb.nil (hc02.then d5))) ?_
 rintro⟨xw,is,f,_⟩ w6 ⟨hcj,hc6⟩
 have d6:=d5.then hc6
 refine ldT (x:=(x1,x2,sa,sn,())) (i1 d6) ?_;refine Ret.call (Check_ret21 (k:=k) (x:=(x1,x2,sa,sn,())) (ha.nil (hc02.then d6))) ?_
 rintro _ w7 ⟨rfl,hc7⟩
 have d7:=d6.then hc7
 have hbA:(if ¬ (1≤k∧k≤8) then (1:Int) else if isM k a=true then 0 else 210)=badC k a:=rfl
 have hbB:(if ¬ (1≤k∧k≤8) then (1:Int) else if isM k b=true then 0 else 210)=badC k b:=rfl
 rw[hbA];have hex:=exam_two_bad k a b;refine Join.by' (fun z W=>z=(k,s,at0 b1,at0 b3,at0 b17,(autR res).2,xw,is,f,badC k a,examF k [a,b] [],())∧Chg Nil w7 W) ?_ ?_
 rotate_left
 ·intro J hJ;refine Br.mk (fun h=>?_) (fun h=>?_)
  ·have h:badC k a=0:=by simpa using h
   refine ldT (x:=(y1,y2,ta,tn,())) (i3 d7) ?_;refine Ret.call (Check_ret21 (k:=k) (x:=(y1,y2,ta,tn,())) (hb.nil (hc02.then d7))) ?_
   rintro _ w8 ⟨rfl,hc8⟩
   have e:examF k [a,b] []=badC k b:=by rw[hex];exact if_neg (by simp[h])
   refine hJ _ _ ⟨?_,hc8⟩;rw[e];rfl
  ·have h:badC k a≠0:=by simpa using h
   have e:examF k [a,b] []=badC k a:=by rw[hex];exact if_pos h
   refine hJ _ _ ⟨?_,Chg.refl _⟩;rw[e]
 rintro z W g ⟨rfl,hW⟩
 have dW:=d7.then hW
 have hM:Mc w W b1 b3 b17 (x1,x2,sa,sn,()) (y1,y2,ta,tn,()) (c1,c2,ca,cn,()):=⟨hc02.then dW,i1 dW,i3 dW,(((hc6.then hc7).then hW)).heap h17 fun h=>h⟩
 have hCW:=hC5.nil ((hc6.then hc7).then hW)
 have h1bad:=exam_one_bad k a s;unfold cayleylaw21_FoldConjugates.j9 cayleylaw21_FoldConjugates.t9;dsimp only
 -- what is known of the conjugate
 have hf:f=examF k [a,b] []:=by
  rcases hcj with ⟨_,h⟩|⟨hz,_,_,_,_,(⟨h,_⟩|⟨_,_,_,_,h⟩)⟩
  ·exact congrArg (·.2.2.1) h
  ·rw[hz];exact congrArg (·.2.2.1) h
  ·rw[hz];exact congrArg (·.2.2.1) h
 have hno:examF k [a,b] []≠0→is=false∧xw=⟨#[]⟩:=fun hne=>by
  rcases hcj with ⟨_,h⟩|⟨hz,_⟩
  ·exact⟨congrArg (·.2.1) h,congrArg (·.1) h⟩
  ·exact absurd hz hne
 have hoth:examF k [a,b] []=0→∃ nk:Nat,k=(nk:Int)∧(1≤nk∧nk≤8)∧a.check k=0∧b.check k=0:=fun hz=>by
  have hk:=exam_rank hz;obtain⟨h1,h2⟩:=(exam_two hk).1 hz;obtain⟨nk,rfl⟩:=Int.eq_ofNat_of_zero_le (show 0≤k by omega)
  exact⟨nk,rfl,by omega,h1,h2⟩
 have hbad:examF k [a] [s]=0→(autR res).2=0∧∃ nk Rc,k=((nk:Nat):Int)∧(1≤nk∧nk≤8)∧a.check k=0∧checkF k s=0∧(autR res).1=autE nk Rc∧FoldL nk (conjL k a (wordF s)) (some Rc):=fun hz=>by
  obtain⟨hk,hca,hcs⟩:=exam_one hz;obtain⟨nk,rfl⟩:=Int.eq_ofNat_of_zero_le (show 0≤k by omega)
  have hkn:1≤nk∧nk≤8:=by omega
  cases hCC with
  | err h=>exact absurd hz h
  | @ok o _ hF=>
   obtain⟨hidx,_⟩:=idxs_word hcs;have hlen:(wordF s).length=(ReduceF s).size:=by have:=congrArg List.length hidx;simpa using this.symm
   have hsz:=(word_reduce (k:=(nk:Int)) (by omega) hcs).2.2
   obtain⟨_,_,_,_,h3⟩:=conj_ref hkn hca (u:=wordF s) (fun x hx=>by have:=word_all hcs x hx;omega) (by omega)
   obtain⟨Rc,rfl⟩:=h3 o hF (by omega)
   exact⟨rfl,nk,Rc,rfl,hkn,hca,hcs,rfl,hF⟩
 have herr:examF k [a] [s]≠0→(autR res).2=examF k [a] [s]∧ca.n=0:=fun hne=>by
  cases hCC with
  | ok hz _=>exact absurd hz hne
  | err _=>exact⟨rfl,by have:=hC.rd.acc.len;simpa[autR] using this⟩
 have fin:∀ (U:World),Chg Nil W U→cayleylaw21_FoldConjugates.j11 (fun e w'=>∃ z:Bool,e = .returned ((Ty.sc .bool).val z)∧z=true∧Chg Nil w w') (k,s,at0 b1,at0 b3,at0 b17,(autR res).2,xw,is,f,examF k [a] [s],examF k [a,b] [],()) U:=fun U hU=>
  j11_ok hl ha hb (hM.nil hU) (hCW.nil hU) hs40 ha20 hb20 (fun h=>(hbad h).2) (fun h=>(herr h).2) (by
   by_cases h:examF k [a] [s]=0
   ·rw[(hbad h).1,h]
   ·exact(herr h).1) hcj hf hoth hno fun W' h=>⟨true,rfl,rfl,h⟩
 refine Join.by' (fun z U=>z=(k,s,at0 b1,at0 b3,at0 b17,(autR res).2,xw,is,f,examF k [a] [s],examF k [a,b] [],())∧Chg Nil W U) ?_ ?_
 ·rintro z U g ⟨rfl,hU⟩
  exact fin U hU
 intro J hJ;refine Br.mk (fun h=>?_) (fun h=>?_)
 ·have h:badC k a=0:=by simpa using h
  refine Ret.call (IsWord_ret W k s) ?_
  rintro _ W1 ⟨rfl,hW1⟩
  rw[hW1];clear hW1;rw[if_neg (by simp[h])]at h1bad
  refine Br.mk (fun h2=>?_) (fun h2=>?_)
  ·have h2:checkF k s≠0:=by simpa using h2
   rw[if_pos h2]at h1bad;refine hJ _ _ ⟨?_,Chg.refl _⟩;rw[h1bad]
  ·have h2:checkF k s=0:=by simpa using h2
   rw[if_neg (by simp[h2])]at h1bad
   refine hJ _ _ ⟨?_,Chg.refl _⟩;rw[h1bad,h]
 ·have h:badC k a≠0:=by simpa using h
  rw[if_pos h]at h1bad;refine Br.f rfl (hJ _ _ ⟨?_,Chg.refl _⟩);rw[h1bad]
end Go.Proofs.YtffdjfkekdoeaaaDoor.Fo
end
