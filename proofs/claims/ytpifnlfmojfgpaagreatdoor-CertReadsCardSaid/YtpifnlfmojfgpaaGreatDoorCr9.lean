/- Parts of a proof, laid one behind the other by our own merge.py: TryzShelf PkShelf PkSpl Sh1 Sh4 PkIter. -/
import Derived.Shelf.Strings.Builder1
import Derived.Shelf.Small.Bits
import Derived.Shelf.Small.Strs
import Derived.Shelf.Strings.BuilderF
import Derived.Shelf.Strings.BuilderK
import Derived.Shelf.Strconv.Atoi
import Derived.Shelf.Strconv.Itoa0
import Derived.Shelf.Strconv.Itoa1
import Derived.Shelf.LaysM
import Derived.Shelf.Strconv.Itoa2
import Derived.Shelf.Strconv.Itoa3
import Derived.Shelf.Strconv.AtoiErrFast
import Derived.Shelf.Strconv.ParseIntEmpty
import Derived.Shelf.Strconv.AtoiFail
import Derived.Shelf.Strconv.Clone
import Derived.Shelf.Strconv.SyntaxError
import Derived.Shelf.LaysC
import Derived.Shelf.Strconv.ToError
import Derived.Shelf.Strconv.Lower
import Derived.Shelf.Strconv.ParseUint10
import Derived.Shelf.Strconv.ParseUint10Empty
import Derived.Shelf.Strconv.ParseUint10Any
import Derived.Shelf.Strconv.ParseInt10
import Derived.Shelf.Strconv.AtoiLong
import Derived.Shelf.Strconv.AtoiInnerAll
import Derived.Shelf.Strconv.RangeError
import Derived.Shelf.Strconv.ToErrorRange
import Derived.Shelf.Strconv.AtoiAll
import Derived.Shelf.Strconv.ErrVarAll
import Derived.Shelf.Strings.Search1
import Derived.Shelf.Strings.Search2
import Derived.Shelf.Strings.Search3
import Derived.Shelf.Strings.Count
import Derived.Shelf.Strings.Shaped
import Derived.Shelf.GgClosure.StringsIndexFunc
import Derived.Ground.GgwProg
import Derived.Shelf.GgClosure.StringsIndexFuncTop
import Derived.Shelf.Strings.Prefix
import Derived.Shelf.Strings.Split
import Derived.Shelf.Bits.Mul64
import Derived.Shelf.Unicode.DecodeSlow
import Derived.Shelf.Unicode.DecodeAny
import Derived.Shelf.Slices.Reverse
import Derived.Ground.Names2Prog
import Derived.Shelf.Slices.Clone
import Derived.Shelf.Slices.CompactI
import Derived.Shelf.Slices.SearchI
import Derived.Shelf.Slices.Cells
import Derived.Ground.SlgnProg
import Derived.Shelf.SlicesE.Clone
import Derived.Test.YtpifnlfmojfgpaaGreatDoorProg
import Derived.Test.YtpifnlfmojfgpaaGreatDoorCr7
import Derived.Test.YtpifnlfmojfgpaaGreatDoorCr6
import Derived.Test.YtpifnlfmojfgpaaGreatDoorCr8
import Derived.WideLaws
import Derived.Laws.Entries
import Derived.Lib.SplitLaws
import Derived.Lib.IndexBytes
import Derived.Laws.Slices
import Derived.KernelRfl
set_option linter.unusedVariables false
set_option linter.unusedSimpArgs false
section
namespace Go.Proofs
open Go.Shelf
def Tryz.lays170_ren:Go.Shelf.Ren:=⟨fun | 170=>17 | n=>n,fun | 70=>60 | 3=>3 | 0=>0 | 72=>63 | 37=>61 | 5=>5 | n=>n,fun | n=>n⟩
theorem Tryz.lays170:Go.Proofs.Lays.n170 Tryz.prog Tryz.lays170_ren:={
 mixed:=by kernel_rfl
 f170:=Tryz.func17.trans (congrArg some (by kernel_rfl))
 t0:=Tryz.underlying0
 a0:=Tryz.isAgg0
 z0:=Tryz.sizeOf0
 v0:=Tryz.zeroValue0
 t3:=Tryz.underlying3
 a3:=Tryz.isAgg3
 z3:=Tryz.sizeOf3
 v3:=Tryz.zeroValue3
 t37:=Tryz.underlying61
 a37:=Tryz.isAgg61
 z37:=Tryz.sizeOf61
 v37:=Tryz.zeroValue61
 t70:=Tryz.underlying60
 a70:=Tryz.isAgg60
 z70:=Tryz.sizeOf60
 v70:=Tryz.zeroValue60
 t72:=Tryz.underlying63
 a72:=Tryz.isAgg63
 z72:=Tryz.sizeOf63
 v72:=Tryz.zeroValue63 }
open Go.RowKit in
theorem Tryz.Builder_Len (B b:Nat) (bs:List Value) (w:World) (h:Lib.IsBuilder 63 5 B b bs w) :
  Calls Tryz.prog 17 #[.pointer (some ⟨b,0,none⟩)] w fun e w'=>e = .returned (.int .i64 bs.length) ∧ w' = w:=Any.Builder_Len Tryz.lays170 B b bs w h
def Tryz.lays169_ren:Go.Shelf.Ren:=⟨fun | 169=>20 | n=>n,fun | 70=>60 | 9=>9 | 0=>0 | 72=>63 | 37=>61 | 127=>106 | 3=>3 | 5=>5 | n=>n,fun | n=>n⟩
theorem Tryz.lays169:Go.Proofs.Lays.n169 Tryz.prog Tryz.lays169_ren:={
 mixed:=by kernel_rfl
 f169:=Tryz.func20.trans (congrArg some (by kernel_rfl))
 t0:=Tryz.underlying0
 a0:=Tryz.isAgg0
 z0:=Tryz.sizeOf0
 v0:=Tryz.zeroValue0
 t3:=Tryz.underlying3
 a3:=Tryz.isAgg3
 z3:=Tryz.sizeOf3
 v3:=Tryz.zeroValue3
 t9:=Tryz.underlying9
 a9:=Tryz.isAgg9
 z9:=Tryz.sizeOf9
 v9:=Tryz.zeroValue9
 t37:=Tryz.underlying61
 a37:=Tryz.isAgg61
 z37:=Tryz.sizeOf61
 v37:=Tryz.zeroValue61
 t70:=Tryz.underlying60
 a70:=Tryz.isAgg60
 z70:=Tryz.sizeOf60
 v70:=Tryz.zeroValue60
 t72:=Tryz.underlying63
 a72:=Tryz.isAgg63
 z72:=Tryz.sizeOf63
 v72:=Tryz.zeroValue63
 t127:=Tryz.underlying106
 a127:=Tryz.isAgg106
 z127:=Tryz.sizeOf106
 v127:=Tryz.zeroValue106 }
theorem Tryz.Builder_Extra_169:Builder.Extra Tryz.prog Tryz.lays169_ren:={
 sizeBuilder:=by kernel_rfl
 liesBuilder:=by kernel_rfl
 t5:=Tryz.underlying5
 a5:=Tryz.isAgg5
 z5:=Tryz.sizeOf5
 v5:=Tryz.zeroValue5
 infoByte:=by kernel_rfl
 cellsByte:=by kernel_rfl
 sizeByte:=by kernel_rfl
 neB5:=by decide }
open Go.RowKit in
theorem Tryz.Builder_String_any_k (B b:Nat) (l:List UInt8) (w:World) (h:Lib.IsBuilderF 63 5 B b (Lib.byteCells l) w) (hBw:B ≤ w.heap.size) :
  Calls Tryz.prog 20 #[.pointer (some ⟨b,0,none⟩)] w fun e w'=>e = .returned (.string ⟨l.toArray⟩) ∧ (Lib.IsBuilderF 63 5 B b (Lib.byteCells l) w' ∧ Below B w w' ∧ Lib.OthersKept 5 (some b) w w'):=Any.Builder_String_any_k Tryz.lays169 Tryz.Builder_Extra_169 B b l w h hBw
def Tryz.lays172_ren:Go.Shelf.Ren:=⟨fun | 172=>201 | 244=>269 | 245=>270 | 247=>315 | 279=>316 | 280=>317 | 281=>318 | 282=>319 | 287=>348 | 316=>349 | 171=>96 | 205=>350 | 321=>365 | 322=>366 | 243=>142 | 246=>165 | 283=>202 | 284=>203 | 285=>204 | 286=>205 | 129=>272 | 317=>271 | 318=>273 | 319=>274 | 320=>275 | 337=>320 | 338=>321 | n=>n,fun | 9=>9 | 3=>3 | 75=>69 | 76=>70 | 4=>4 | 5=>5 | 167=>371 | 37=>61 | 0=>0 | 85=>372 | 2=>2 | 168=>374 | 53=>259 | 175=>403 | 46=>322 | 210=>406 | 127=>106 | 145=>422 | 143=>420 | 21=>21 | 171=>258 | 173=>262 | 212=>329 | 51=>330 | 20=>20 | 213=>331 | 232=>408 | 233=>409 | 80=>73 | n=>n,fun | 15=>5 | 16=>6 | 17=>4 | 18=>7 | 19=>8 | n=>n⟩
def Tryz.laysM246_ren:Go.Shelf.Ren:=⟨fun | 246=>165 | 283=>202 | 284=>203 | 285=>204 | 286=>205 | 129=>272 | 317=>271 | 318=>273 | 319=>274 | 320=>275 | 337=>320 | 338=>321 | n=>n,fun | 2=>2 | 3=>3 | 9=>9 | 4=>4 | 171=>258 | 0=>0 | 53=>259 | 37=>61 | 5=>5 | 173=>262 | 212=>329 | 51=>330 | 20=>20 | 213=>331 | 46=>322 | 232=>408 | 233=>409 | n=>n,fun | 17=>4 | 18=>7 | 19=>8 | n=>n⟩
def Tryz.laysM243_ren:Go.Shelf.Ren:=⟨fun | 243=>142 | 246=>165 | 283=>202 | 284=>203 | 285=>204 | 286=>205 | 129=>272 | 317=>271 | 318=>273 | 319=>274 | 320=>275 | 337=>320 | 338=>321 | n=>n,fun | 3=>3 | 9=>9 | 2=>2 | 4=>4 | 171=>258 | 0=>0 | 53=>259 | 37=>61 | 5=>5 | 173=>262 | 212=>329 | 51=>330 | 20=>20 | 213=>331 | 46=>322 | 232=>408 | 233=>409 | n=>n,fun | 17=>4 | 18=>7 | 19=>8 | n=>n⟩
def Tryz.laysM171_ren:Go.Shelf.Ren:=⟨fun | 171=>96 | 243=>142 | 246=>165 | 283=>202 | 284=>203 | 285=>204 | 286=>205 | 129=>272 | 317=>271 | 318=>273 | 319=>274 | 320=>275 | 337=>320 | 338=>321 | n=>n,fun | 3=>3 | 9=>9 | 2=>2 | 4=>4 | 171=>258 | 0=>0 | 53=>259 | 37=>61 | 5=>5 | 173=>262 | 212=>329 | 51=>330 | 20=>20 | 213=>331 | 46=>322 | 232=>408 | 233=>409 | n=>n,fun | 17=>4 | 18=>7 | 19=>8 | n=>n⟩
theorem Tryz.laysM171:Go.Proofs.LaysM.n171 Tryz.prog Tryz.laysM171_ren:={
 mixed:=by kernel_rfl
 f129:=Tryz.func272.trans (congrArg some (by kernel_rfl))
 f171:=Tryz.func96.trans (congrArg some (by kernel_rfl))
 f243:=Tryz.func142.trans (congrArg some (by kernel_rfl))
 f246:=Tryz.func165.trans (congrArg some (by kernel_rfl))
 f283:=Tryz.func202.trans (congrArg some (by kernel_rfl))
 f284:=Tryz.func203.trans (congrArg some (by kernel_rfl))
 f285:=Tryz.func204.trans (congrArg some (by kernel_rfl))
 f286:=Tryz.func205.trans (congrArg some (by kernel_rfl))
 f317:=Tryz.func271.trans (congrArg some (by kernel_rfl))
 f318:=Tryz.func273.trans (congrArg some (by kernel_rfl))
 f319:=Tryz.func274.trans (congrArg some (by kernel_rfl))
 f320:=Tryz.func275.trans (congrArg some (by kernel_rfl))
 f337:=Tryz.func320.trans (congrArg some (by kernel_rfl))
 f338:=Tryz.func321.trans (congrArg some (by kernel_rfl))
 t0:=Tryz.underlying0
 a0:=Tryz.isAgg0
 z0:=Tryz.sizeOf0
 v0:=Tryz.zeroValue0
 t2:=Tryz.underlying2
 a2:=Tryz.isAgg2
 z2:=Tryz.sizeOf2
 v2:=Tryz.zeroValue2
 t3:=Tryz.underlying3
 a3:=Tryz.isAgg3
 z3:=Tryz.sizeOf3
 v3:=Tryz.zeroValue3
 t4:=Tryz.underlying4
 a4:=Tryz.isAgg4
 z4:=Tryz.sizeOf4
 v4:=Tryz.zeroValue4
 t5:=Tryz.underlying5
 a5:=Tryz.isAgg5
 z5:=Tryz.sizeOf5
 v5:=Tryz.zeroValue5
 t9:=Tryz.underlying9
 a9:=Tryz.isAgg9
 z9:=Tryz.sizeOf9
 v9:=Tryz.zeroValue9
 t20:=Tryz.underlying20
 a20:=Tryz.isAgg20
 z20:=Tryz.sizeOf20
 v20:=Tryz.zeroValue20
 t37:=Tryz.underlying61
 a37:=Tryz.isAgg61
 z37:=Tryz.sizeOf61
 v37:=Tryz.zeroValue61
 t46:=Tryz.underlying322
 a46:=Tryz.isAgg322
 z46:=Tryz.sizeOf322
 v46:=Tryz.zeroValue322
 t51:=Tryz.underlying330
 a51:=Tryz.isAgg330
 z51:=Tryz.sizeOf330
 v51:=Tryz.zeroValue330
 t53:=Tryz.underlying259
 a53:=Tryz.isAgg259
 z53:=Tryz.sizeOf259
 v53:=Tryz.zeroValue259
 t171:=Tryz.underlying258
 a171:=Tryz.isAgg258
 z171:=Tryz.sizeOf258
 v171:=Tryz.zeroValue258
 t173:=Tryz.underlying262
 a173:=Tryz.isAgg262
 z173:=Tryz.sizeOf262
 v173:=Tryz.zeroValue262
 t212:=Tryz.underlying329
 a212:=Tryz.isAgg329
 z212:=Tryz.sizeOf329
 v212:=Tryz.zeroValue329
 t213:=Tryz.underlying331
 a213:=Tryz.isAgg331
 z213:=Tryz.sizeOf331
 t232:=Tryz.underlying408
 a232:=Tryz.isAgg408
 z232:=Tryz.sizeOf408
 v232:=Tryz.zeroValue408
 t233:=Tryz.underlying409
 a233:=Tryz.isAgg409
 z233:=Tryz.sizeOf409
 v233:=Tryz.zeroValue409
 g17:=by kernel_rfl
 g18:=by kernel_rfl
 g19:=by kernel_rfl
 i0:=by kernel_rfl
 i2:=by kernel_rfl
 i3:=by kernel_rfl
 i4:=by kernel_rfl
 i5:=by kernel_rfl
 i9:=by kernel_rfl
 i20:=by kernel_rfl
 i37:=by kernel_rfl
 i46:=by kernel_rfl
 i51:=by kernel_rfl
 i53:=by kernel_rfl
 i171:=by kernel_rfl
 i173:=by kernel_rfl
 i212:=by kernel_rfl
 i232:=by kernel_rfl
 i233:=by kernel_rfl
 m17:=by kernel_rfl
 m18:=by kernel_rfl
 m19:=by kernel_rfl }
open Go.RowKit Go.Sort Go.Lib in
theorem Tryz.strconv_Itoa (n : Int) (h0 : -9223372036854775808 ≤ n) (h1 : n ≤ 9223372036854775807) (w : World) (htab : Lib.TabIs Tryz.prog w "internal/strconv.uint64pow10" .u64 Lib.pow10Tab) :
  Calls Tryz.prog 96 #[.int .i64 n] w fun e w'=>e = .returned (.string ⟨(Lib.itoa n).toArray⟩) ∧ ∃ k os,w' = grow (w.drewN k) os:=Any.strconv_Itoa Tryz.laysM171 n h0 h1 w htab
def Tryz.laysC172_ren:Go.Shelf.Ren:=⟨fun | 172=>201 | 244=>269 | 245=>270 | 247=>315 | 279=>316 | 280=>317 | 281=>318 | 282=>319 | 287=>348 | 316=>349 | 171=>96 | 205=>350 | 321=>365 | 322=>366 | 243=>142 | 246=>165 | 283=>202 | 284=>203 | 285=>204 | 286=>205 | 129=>272 | 317=>271 | 318=>273 | 319=>274 | 320=>275 | 337=>320 | 338=>321 | n=>n,fun | 9=>9 | 3=>3 | 75=>69 | 76=>70 | 4=>4 | 5=>5 | 167=>371 | 37=>61 | 0=>0 | 85=>372 | 2=>2 | 168=>374 | 53=>259 | 175=>403 | 46=>322 | 210=>406 | 127=>106 | 145=>422 | 143=>420 | 21=>21 | 171=>258 | 173=>262 | 212=>329 | 51=>330 | 20=>20 | 213=>331 | 232=>408 | 233=>409 | 80=>73 | n=>n,fun | 15=>5 | 16=>6 | 17=>4 | 18=>7 | 19=>8 | n=>n⟩
theorem Tryz.laysC172:Go.Proofs.LaysC.n172 Tryz.prog Tryz.laysC172_ren:={
 mixed:=by kernel_rfl
 f129:=Tryz.func272.trans (congrArg some (by kernel_rfl))
 f171:=Tryz.func96.trans (congrArg some (by kernel_rfl))
 f172:=Tryz.func201.trans (congrArg some (by kernel_rfl))
 f205:=Tryz.func350.trans (congrArg some (by kernel_rfl))
 f243:=Tryz.func142.trans (congrArg some (by kernel_rfl))
 f244:=Tryz.func269.trans (congrArg some (by kernel_rfl))
 f245:=Tryz.func270.trans (congrArg some (by kernel_rfl))
 f246:=Tryz.func165.trans (congrArg some (by kernel_rfl))
 f247:=Tryz.func315.trans (congrArg some (by kernel_rfl))
 f279:=Tryz.func316.trans (congrArg some (by kernel_rfl))
 f280:=Tryz.func317.trans (congrArg some (by kernel_rfl))
 f281:=Tryz.func318.trans (congrArg some (by kernel_rfl))
 f282:=Tryz.func319.trans (congrArg some (by kernel_rfl))
 f283:=Tryz.func202.trans (congrArg some (by kernel_rfl))
 f284:=Tryz.func203.trans (congrArg some (by kernel_rfl))
 f285:=Tryz.func204.trans (congrArg some (by kernel_rfl))
 f286:=Tryz.func205.trans (congrArg some (by kernel_rfl))
 f287:=Tryz.func348.trans (congrArg some (by kernel_rfl))
 f316:=Tryz.func349.trans (congrArg some (by kernel_rfl))
 f317:=Tryz.func271.trans (congrArg some (by kernel_rfl))
 f318:=Tryz.func273.trans (congrArg some (by kernel_rfl))
 f319:=Tryz.func274.trans (congrArg some (by kernel_rfl))
 f320:=Tryz.func275.trans (congrArg some (by kernel_rfl))
 f321:=Tryz.func365.trans (congrArg some (by kernel_rfl))
 f322:=Tryz.func366.trans (congrArg some (by kernel_rfl))
 f337:=Tryz.func320.trans (congrArg some (by kernel_rfl))
 f338:=Tryz.func321.trans (congrArg some (by kernel_rfl))
 t0:=Tryz.underlying0
 a0:=Tryz.isAgg0
 z0:=Tryz.sizeOf0
 v0:=Tryz.zeroValue0
 t2:=Tryz.underlying2
 a2:=Tryz.isAgg2
 z2:=Tryz.sizeOf2
 v2:=Tryz.zeroValue2
 t3:=Tryz.underlying3
 a3:=Tryz.isAgg3
 z3:=Tryz.sizeOf3
 v3:=Tryz.zeroValue3
 t4:=Tryz.underlying4
 a4:=Tryz.isAgg4
 z4:=Tryz.sizeOf4
 v4:=Tryz.zeroValue4
 t5:=Tryz.underlying5
 a5:=Tryz.isAgg5
 z5:=Tryz.sizeOf5
 v5:=Tryz.zeroValue5
 t9:=Tryz.underlying9
 a9:=Tryz.isAgg9
 z9:=Tryz.sizeOf9
 v9:=Tryz.zeroValue9
 t20:=Tryz.underlying20
 a20:=Tryz.isAgg20
 z20:=Tryz.sizeOf20
 v20:=Tryz.zeroValue20
 t21:=Tryz.underlying21
 a21:=Tryz.isAgg21
 z21:=Tryz.sizeOf21
 v21:=Tryz.zeroValue21
 t37:=Tryz.underlying61
 a37:=Tryz.isAgg61
 z37:=Tryz.sizeOf61
 v37:=Tryz.zeroValue61
 t46:=Tryz.underlying322
 a46:=Tryz.isAgg322
 z46:=Tryz.sizeOf322
 v46:=Tryz.zeroValue322
 t51:=Tryz.underlying330
 a51:=Tryz.isAgg330
 z51:=Tryz.sizeOf330
 v51:=Tryz.zeroValue330
 t53:=Tryz.underlying259
 a53:=Tryz.isAgg259
 z53:=Tryz.sizeOf259
 v53:=Tryz.zeroValue259
 t75:=Tryz.underlying69
 a75:=Tryz.isAgg69
 z75:=Tryz.sizeOf69
 v75:=Tryz.zeroValue69
 t76:=Tryz.underlying70
 a76:=Tryz.isAgg70
 z76:=Tryz.sizeOf70
 v76:=Tryz.zeroValue70
 t85:=Tryz.underlying372
 a85:=Tryz.isAgg372
 z85:=Tryz.sizeOf372
 v85:=Tryz.zeroValue372
 t127:=Tryz.underlying106
 a127:=Tryz.isAgg106
 z127:=Tryz.sizeOf106
 v127:=Tryz.zeroValue106
 t143:=Tryz.underlying420
 a143:=Tryz.isAgg420
 z143:=Tryz.sizeOf420
 v143:=Tryz.zeroValue420
 t145:=Tryz.underlying422
 a145:=Tryz.isAgg422
 z145:=Tryz.sizeOf422
 v145:=Tryz.zeroValue422
 t167:=Tryz.underlying371
 a167:=Tryz.isAgg371
 z167:=Tryz.sizeOf371
 v167:=Tryz.zeroValue371
 t168:=Tryz.underlying374
 a168:=Tryz.isAgg374
 z168:=Tryz.sizeOf374
 v168:=Tryz.zeroValue374
 t171:=Tryz.underlying258
 a171:=Tryz.isAgg258
 z171:=Tryz.sizeOf258
 v171:=Tryz.zeroValue258
 t173:=Tryz.underlying262
 a173:=Tryz.isAgg262
 z173:=Tryz.sizeOf262
 v173:=Tryz.zeroValue262
 t175:=Tryz.underlying403
 a175:=Tryz.isAgg403
 z175:=Tryz.sizeOf403
 v175:=Tryz.zeroValue403
 t210:=Tryz.underlying406
 a210:=Tryz.isAgg406
 z210:=Tryz.sizeOf406
 v210:=Tryz.zeroValue406
 t212:=Tryz.underlying329
 a212:=Tryz.isAgg329
 z212:=Tryz.sizeOf329
 v212:=Tryz.zeroValue329
 t213:=Tryz.underlying331
 a213:=Tryz.isAgg331
 z213:=Tryz.sizeOf331
 t232:=Tryz.underlying408
 a232:=Tryz.isAgg408
 z232:=Tryz.sizeOf408
 v232:=Tryz.zeroValue408
 t233:=Tryz.underlying409
 a233:=Tryz.isAgg409
 z233:=Tryz.sizeOf409
 v233:=Tryz.zeroValue409
 g15:=by kernel_rfl
 g16:=by kernel_rfl
 g17:=by kernel_rfl
 g18:=by kernel_rfl
 g19:=by kernel_rfl
 t80:=Tryz.underlying73
 a80:=Tryz.isAgg73
 z80:=Tryz.sizeOf73
 v80:=Tryz.zeroValue73
 i0:=by kernel_rfl
 i2:=by kernel_rfl
 i3:=by kernel_rfl
 i4:=by kernel_rfl
 i5:=by kernel_rfl
 i9:=by kernel_rfl
 i20:=by kernel_rfl
 i21:=by kernel_rfl
 i37:=by kernel_rfl
 i46:=by kernel_rfl
 i51:=by kernel_rfl
 i53:=by kernel_rfl
 i75:=by kernel_rfl
 i76:=by kernel_rfl
 i80:=by kernel_rfl
 i85:=by kernel_rfl
 i127:=by kernel_rfl
 i143:=by kernel_rfl
 i145:=by kernel_rfl
 i167:=by kernel_rfl
 i168:=by kernel_rfl
 i171:=by kernel_rfl
 i173:=by kernel_rfl
 i175:=by kernel_rfl
 i210:=by kernel_rfl
 i212:=by kernel_rfl
 i232:=by kernel_rfl
 i233:=by kernel_rfl
 m15:=by kernel_rfl
 m16:=by kernel_rfl
 m17:=by kernel_rfl
 m18:=by kernel_rfl
 m19:=by kernel_rfl
 c0:=by kernel_rfl
 c2:=by kernel_rfl
 c3:=by kernel_rfl
 c4:=by kernel_rfl
 c5:=by kernel_rfl
 c9:=by kernel_rfl
 c20:=by kernel_rfl
 c21:=by kernel_rfl
 c37:=by kernel_rfl
 c46:=by kernel_rfl
 c51:=by kernel_rfl
 c53:=by kernel_rfl
 c75:=by kernel_rfl
 c76:=by kernel_rfl
 c80:=by kernel_rfl
 c85:=by kernel_rfl
 c127:=by kernel_rfl
 c143:=by kernel_rfl
 c145:=by kernel_rfl
 c167:=by kernel_rfl
 c168:=by kernel_rfl
 c171:=by kernel_rfl
 c173:=by kernel_rfl
 c175:=by kernel_rfl
 c210:=by kernel_rfl
 c212:=by kernel_rfl
 c213:=by kernel_rfl
 c232:=by kernel_rfl
 c233:=by kernel_rfl }
open Go.RowKit in
theorem Tryz.strconv_Atoi_ok (s:ByteArray) (hmax:s.size ≤ 9223372036854775806) (v:Int) (h:Lib.atoiAll s.data.toList = .ok v) (w:World) :
  Calls Tryz.prog 201 #[.string s] w fun e w'=>e = .returned (.tuple #[.int .i64 v,.nilIface]) ∧ (w' = w ∨ ∃ t,w' = Lib.bytesWorld w 5 t):=Any.strconv_Atoi_ok Tryz.laysC172 s hmax v h w
open Go.RowKit in
theorem Tryz.strconv_Atoi_range (s:ByteArray) (hlim:s.size ≤ 281474976710656) (h:Lib.atoiAll s.data.toList = .range) (ev:Value) (w:World) (hv:w.cell? ⟨6,0,none⟩ = some ev) (hev:ev = .nilIface ∨ ∃ te pe,ev = .iface te pe) :
  Calls Tryz.prog 201 #[.string s] w fun e w'=>∃ N,e = .returned (.tuple #[.int .i64 (Lib.atoiSat s.data.toList),.iface 374 (.pointer (some ⟨N,0,none⟩))]) ∧ w.heap.size ≤ N ∧ w'.heap[N]? = some (.cells #[.string ⟨#[65,116,111,105]⟩,.string s,ev] 406 (0,0)) ∧ Below w.heap.size w w':=Any.strconv_Atoi_range Tryz.laysC172 s hlim h ev w hv hev
def Tryz.lays219_ren:Go.Shelf.Ren:=⟨fun | 219=>198 | 217=>265 | 225=>266 | 224=>267 | 267=>268 | 266=>313 | 314=>314 | n=>n,fun | 9=>9 | 3=>3 | 4=>4 | 5=>5 | 46=>322 | 146=>369 | 51=>330 | n=>n,fun | 1=>3 | n=>n⟩
def Tryz.lays143_ren:Go.Shelf.Ren:=⟨fun | 143=>160 | 219=>198 | 217=>265 | 225=>266 | 224=>267 | 267=>268 | 266=>313 | 314=>314 | n=>n,fun | 9=>9 | 3=>3 | 4=>4 | 5=>5 | 46=>322 | 146=>369 | 51=>330 | n=>n,fun | 1=>3 | n=>n⟩
theorem Tryz.lays143:Go.Proofs.Lays.n143 Tryz.prog Tryz.lays143_ren:={
 mixed:=by kernel_rfl
 f143:=Tryz.func160.trans (congrArg some (by kernel_rfl))
 f217:=Tryz.func265.trans (congrArg some (by kernel_rfl))
 f219:=Tryz.func198.trans (congrArg some (by kernel_rfl))
 f224:=Tryz.func267.trans (congrArg some (by kernel_rfl))
 f225:=Tryz.func266.trans (congrArg some (by kernel_rfl))
 f266:=Tryz.func313.trans (congrArg some (by kernel_rfl))
 f267:=Tryz.func268.trans (congrArg some (by kernel_rfl))
 f314:=Tryz.func314.trans (congrArg some (by kernel_rfl))
 t3:=Tryz.underlying3
 a3:=Tryz.isAgg3
 z3:=Tryz.sizeOf3
 v3:=Tryz.zeroValue3
 t4:=Tryz.underlying4
 a4:=Tryz.isAgg4
 z4:=Tryz.sizeOf4
 v4:=Tryz.zeroValue4
 t5:=Tryz.underlying5
 a5:=Tryz.isAgg5
 z5:=Tryz.sizeOf5
 v5:=Tryz.zeroValue5
 t9:=Tryz.underlying9
 a9:=Tryz.isAgg9
 z9:=Tryz.sizeOf9
 v9:=Tryz.zeroValue9
 t46:=Tryz.underlying322
 a46:=Tryz.isAgg322
 z46:=Tryz.sizeOf322
 v46:=Tryz.zeroValue322
 t51:=Tryz.underlying330
 a51:=Tryz.isAgg330
 z51:=Tryz.sizeOf330
 v51:=Tryz.zeroValue330
 t146:=Tryz.underlying369
 a146:=Tryz.isAgg369
 z146:=Tryz.sizeOf369
 v146:=Tryz.zeroValue369
 g1:=by kernel_rfl }
open Go.RowKit Go.Lib in
theorem Tryz.strings_Index_one (s:ByteArray) (c:UInt8) (w:World) :
  Calls Tryz.prog 160 #[.string s,.string ⟨#[c]⟩] w fun e w'=>e = .returned (.int .i64 (Lib.indexByte s.data.toList c)) ∧ w' = w:=Any.strings_Index_one Tryz.lays143 s c w
def Tryz.lays206_ren:Go.Shelf.Ren:=⟨fun | 206=>339 | n=>n,fun | 9=>9 | 4=>4 | 3=>3 | n=>n,fun | n=>n⟩
def Tryz.lays100_ren:Go.Shelf.Ren:=⟨fun | 100=>81 | 207=>126 | n=>n,fun | 9=>9 | 4=>4 | 3=>3 | n=>n,fun | n=>n⟩
theorem Tryz.lays100:Go.Proofs.Lays.n100 Tryz.prog Tryz.lays100_ren:={
 mixed:=by kernel_rfl
 f100:=Tryz.func81.trans (congrArg some (by kernel_rfl))
 f207:=Tryz.func126.trans (congrArg some (by kernel_rfl))
 t3:=Tryz.underlying3
 a3:=Tryz.isAgg3
 z3:=Tryz.sizeOf3
 v3:=Tryz.zeroValue3
 t4:=Tryz.underlying4
 a4:=Tryz.isAgg4
 z4:=Tryz.sizeOf4
 v4:=Tryz.zeroValue4
 t9:=Tryz.underlying9
 a9:=Tryz.isAgg9
 z9:=Tryz.sizeOf9
 v9:=Tryz.zeroValue9 }
open Go.RowKit Go.Lib in
theorem Tryz.strings_HasSuffix (s p:ByteArray) (w:World) (hs:s.size ≤ 9223372036854775807) :
  Calls Tryz.prog 81 #[.string s,.string p] w fun e w'=>e = .returned (.bool (Lib.hasSuffix s.data.toList p.data.toList)) ∧ w' = w:=Any.strings_HasSuffix Tryz.lays100 s p w hs
def Tryz.lays221_ren:Go.Shelf.Ren:=⟨fun | 221=>128 | 268=>161 | 138=>162 | 143=>160 | 195=>199 | 197=>159 | 218=>200 | 219=>198 | 260=>197 | 217=>265 | 225=>266 | 224=>267 | 267=>268 | 266=>313 | 314=>314 | n=>n,fun | 9=>9 | 3=>3 | 31=>22 | 4=>4 | 0=>0 | 105=>205 | 21=>21 | 5=>5 | 46=>322 | 119=>321 | 139=>325 | 138=>324 | 146=>369 | 51=>330 | n=>n,fun | 1=>3 | 3=>1 | 4=>2 | n=>n⟩
def Tryz.lays146_ren:Go.Shelf.Ren:=⟨fun | 146=>83 | 221=>128 | 268=>161 | 138=>162 | 143=>160 | 195=>199 | 197=>159 | 218=>200 | 219=>198 | 260=>197 | 217=>265 | 225=>266 | 224=>267 | 267=>268 | 266=>313 | 314=>314 | n=>n,fun | 9=>9 | 31=>22 | 3=>3 | 4=>4 | 0=>0 | 105=>205 | 21=>21 | 5=>5 | 46=>322 | 119=>321 | 139=>325 | 138=>324 | 146=>369 | 51=>330 | n=>n,fun | 1=>3 | 3=>1 | 4=>2 | n=>n⟩
theorem Tryz.lays146:Go.Proofs.Lays.n146 Tryz.prog Tryz.lays146_ren:={
 mixed:=by kernel_rfl
 f138:=Tryz.func162.trans (congrArg some (by kernel_rfl))
 f143:=Tryz.func160.trans (congrArg some (by kernel_rfl))
 f146:=Tryz.func83.trans (congrArg some (by kernel_rfl))
 f195:=Tryz.func199.trans (congrArg some (by kernel_rfl))
 f197:=Tryz.func159.trans (congrArg some (by kernel_rfl))
 f217:=Tryz.func265.trans (congrArg some (by kernel_rfl))
 f218:=Tryz.func200.trans (congrArg some (by kernel_rfl))
 f219:=Tryz.func198.trans (congrArg some (by kernel_rfl))
 f221:=Tryz.func128.trans (congrArg some (by kernel_rfl))
 f224:=Tryz.func267.trans (congrArg some (by kernel_rfl))
 f225:=Tryz.func266.trans (congrArg some (by kernel_rfl))
 f260:=Tryz.func197.trans (congrArg some (by kernel_rfl))
 f266:=Tryz.func313.trans (congrArg some (by kernel_rfl))
 f267:=Tryz.func268.trans (congrArg some (by kernel_rfl))
 f268:=Tryz.func161.trans (congrArg some (by kernel_rfl))
 f314:=Tryz.func314.trans (congrArg some (by kernel_rfl))
 t0:=Tryz.underlying0
 a0:=Tryz.isAgg0
 z0:=Tryz.sizeOf0
 v0:=Tryz.zeroValue0
 t3:=Tryz.underlying3
 a3:=Tryz.isAgg3
 z3:=Tryz.sizeOf3
 v3:=Tryz.zeroValue3
 t4:=Tryz.underlying4
 a4:=Tryz.isAgg4
 z4:=Tryz.sizeOf4
 v4:=Tryz.zeroValue4
 t5:=Tryz.underlying5
 a5:=Tryz.isAgg5
 z5:=Tryz.sizeOf5
 v5:=Tryz.zeroValue5
 t9:=Tryz.underlying9
 a9:=Tryz.isAgg9
 z9:=Tryz.sizeOf9
 v9:=Tryz.zeroValue9
 t21:=Tryz.underlying21
 a21:=Tryz.isAgg21
 z21:=Tryz.sizeOf21
 v21:=Tryz.zeroValue21
 t31:=Tryz.underlying22
 a31:=Tryz.isAgg22
 z31:=Tryz.sizeOf22
 v31:=Tryz.zeroValue22
 t46:=Tryz.underlying322
 a46:=Tryz.isAgg322
 z46:=Tryz.sizeOf322
 v46:=Tryz.zeroValue322
 t51:=Tryz.underlying330
 a51:=Tryz.isAgg330
 z51:=Tryz.sizeOf330
 v51:=Tryz.zeroValue330
 t105:=Tryz.underlying205
 a105:=Tryz.isAgg205
 z105:=Tryz.sizeOf205
 v105:=Tryz.zeroValue205
 t119:=Tryz.underlying321
 a119:=Tryz.isAgg321
 z119:=Tryz.sizeOf321
 t138:=Tryz.underlying324
 a138:=Tryz.isAgg324
 z138:=Tryz.sizeOf324
 v138:=Tryz.zeroValue324
 t139:=Tryz.underlying325
 a139:=Tryz.isAgg325
 z139:=Tryz.sizeOf325
 v139:=Tryz.zeroValue325
 t146:=Tryz.underlying369
 a146:=Tryz.isAgg369
 z146:=Tryz.sizeOf369
 v146:=Tryz.zeroValue369
 g1:=by kernel_rfl
 g3:=by kernel_rfl
 g4:=by kernel_rfl }
open Go.RowKit Go.Lib in
theorem Tryz.strings_Split (s sep:ByteArray) (m:Int) (w:World) (hs:s.size < 4294967281) (hm:w.cell? ⟨3,0,none⟩ = some (.int .i64 m)) (h1:1 ≤ sep.size) :
  Calls Tryz.prog 83 #[.string s,.string sep] w fun e w'=>
   e = .returned (.slice (some ⟨w.heap.size,0,none⟩) (Lib.countB s sep + 1) (Lib.countB s sep + 1)) ∧ w' = w.alloc (.cells ((Lib.splitB sep 0 (Lib.countB s sep) s).map Value.string).toArray 9):=Any.strings_Split Tryz.lays146 (by kernel_rfl) s sep m w hs hm h1
end Go.Proofs
end
section
set_option maxRecDepth 10000
set_option maxHeartbeats 400000
namespace Go.Proofs.YtpifnlfmojfgpaaGreatDoor.Pk
open Fw Pw Ct
theorem glob_pow : Tryz.prog.globalNamed "internal/strconv.uint64pow10" = some 4 := by kernel_rfl
theorem tabIs {w : World} (h : GOk w) : Go.Lib.TabIs Tryz.prog w "internal/strconv.uint64pow10" .u64 Go.Lib.pow10Tab := by
 obtain ⟨cs,t,fr,h1,h2⟩:=h.tab 4 _ rfl
 show World.var? _ _ _ = _
 unfold World.var?
 rw [glob_pow]
 simp only [Option.bind_some,h1]
 exact congrArg some h2
theorem maxLen_of {w:World} (h:GOk w):∃ m,w.cell? ⟨3,0,none⟩ = some (.int .i64 m):=by
 obtain ⟨cs,t,fr,h1,m,rfl⟩:=h.tab 3 _ rfl
 exact ⟨m,by simp [World.cell?,h1]⟩
theorem errVar {w:World} (h:GOk w) {g:Nat} (hg:g = 5 ∨ g = 6):∃ t p,w.cell? ⟨g,0,none⟩ = some (.iface t (.pointer p)):=by
 rcases hg with rfl | rfl
 ·obtain ⟨cs,t,fr,h1,a,b,rfl⟩:=h.tab 5 _ rfl
  exact ⟨a,b,by simp [World.cell?,h1]⟩
 ·obtain ⟨cs,t,fr,h1,a,b,rfl⟩:=h.tab 6 _ rfl
  exact ⟨a,b,by simp [World.cell?,h1]⟩
theorem chg_below {w w':World} (h:RowKit.Below w.heap.size w w'):Chg Nil w w':=⟨h.os,h.tape,h.output,h.size,fun k hk _=>h.block k hk⟩
theorem chg_grow (w:World) (k:Nat) (os:Array Obj):Chg Nil w (Go.Sort.grow (w.drewN k) os):=
 ⟨rfl,rfl,rfl,by simp [Go.Sort.grow,World.drewN],fun i hi _=>by
  show (w.heap ++ os)[i]? = _
  rw [Array.getElem?_append_left hi]⟩
theorem size_of {b:ByteArray} {s:Str} (h:b.data.toList = s):b.size = s.length:=by rw [← h,Array.length_toList]; rfl
theorem itoa_pc (n:Int) (hn:In64 n):PC Tryz.prog 96 ⟨[iA],[.any],[sA]⟩ (n,()) (fun y _=>y.1 = Go.Lib.itoa n) (fun _=>False):=by
 refine pc_mk (ps:=[tI]) (rs:=[.str]) (by kernel_rfl) fun A w vs hp hlow hg=>?_
 obtain ⟨us,v,vs',rfl,h1,h2,h3⟩:=hp
 have h1:us = [.int .i64 n]:=h1
 have h2:us = [v]:=h2
 have h3:vs' = []:=h3
 subst h3
 rw [h1] at h2
 cases h2
 refine (Tryz.strconv_Itoa n hn.1 hn.2 w (tabIs hg)).mono fun e w' he=>?_
 obtain ⟨rfl,k,os,rfl⟩:=he
 have hlen:=Go.Lib.itoa_length_le n hn.1 hn.2
 refine ⟨A,(Go.Lib.itoa n,()),[.string ⟨(Go.Lib.itoa n).toArray⟩],rfl,rfl,⟨[.string ⟨(Go.Lib.itoa n).toArray⟩],_,[],rfl,⟨_,rfl,rfl,?_⟩,rfl,rfl⟩,chg_grow w k os,fun _ _ h=>h,fun _ _ h=>.inl h⟩
 show (Go.Lib.itoa n).length ≤ big
 unfold big; omega
theorem under69:Tryz.prog.underlying 69 = some (.interface (Tryz.prog.methodsAt 69)):=by kernel_rfl
theorem number_of {b:ByteArray} {R:Ending → World → Prop} {w:World} (h:Calls Tryz.prog 201 #[.string b] w fun e w1=>∃ (v:Int) (er:Value) (t:Bool),e = .returned (.tuple #[.int .i64 v,er]) ∧ ((er = .nilIface ∧ t = true) ∨ ((∃ ty a,er = .iface ty (.pointer (some a))) ∧ t = false)) ∧
  CallN Tryz.prog 80 #[.bool t] [] w1 (fun _ w2=>R (.returned (.int .i64 v)) w2) (fun c w2=>R (.panicked c) w2)):Calls Tryz.prog 163 #[.string b] w R:=by
 refine cert_number.calls b ?_
 unfold cert_number.sh
 refine h.mono fun e w1 he=>?_
 obtain ⟨v,er,t,rfl,ht,hc⟩:=he
 refine ⟨(v,er,()),rfl,?_⟩
 rcases ht with ⟨rfl,rfl⟩ | ⟨⟨ty,a,rfl⟩,rfl⟩
 ·exact ⟨true,w1,by rw [eqGuard_nil_constR]; exact run_eql_nil_nil w1 69 under69,hc⟩
 ·exact ⟨false,w1,by rw [eqGuard_at_iface]; exact run_eql_held_nil w1 69 ty _ under69,hc⟩
theorem must_calls (t:Bool) {A:Pos} {w:World} (hlow:∀ g o,A g o → g < w.heap.size) (hg:GOk w) {K:World → Prop} {Kp:List PanicEntry → World → Prop} (k:t = true → ∀ A' w',After A w .no A' w' .no → K w')
  (kp:t = false → ∀ A' u w',RS ⟨A',w',fun _=>(0,0),fun _=>⟨none,0,0⟩,0⟩ (.pv .nil ()) u → After A w .no A' w' .no → Kp [{ v:=.iface 132 u,recovered:=false }] w') :
  CallN Tryz.prog 80 #[.bool t] [] w (fun _ w2=>K w2) Kp:=by
 refine ((must_pc t).2 A w [.bool t] .no ⟨_,_,.no,.no,rfl,⟨[.bool t],rfl,rfl,rfl⟩,rfl,Ow.dis_no,.refl _,.refl _⟩ hlow ⟨hg,fun _ _ h=>h.elim,fun _ h=>h.elim⟩).mono fun e w' he=>?_
 cases e with
 | returned v=>
  obtain ⟨A',y,z,rs,ω1,ω2,hq,rfl,hrs,_,_,ha⟩:=he
  have hrs:rs = []:=hrs
  subst hrs
  refine ⟨(),rfl,k hq A' w' ⟨ha.fr,ha.sub,ha.an,ha.low,Ow.no_le _⟩⟩
 | panicked c=>
  obtain ⟨A',tt,p,u,⟨hq,hm⟩,rfl,hu,_,ha⟩:=he
  have hm:AV.ifc tt p = .ifc 132 (.pv .nil ()):=hm
  cases hm
  exact kp hq A' u w' hu ha
 | outgrown=>exact he.elim
theorem After.trans {A A1 A2:Pos} {w w1 w2:World} {ω:Ow} (h:After A w .no A1 w1 .no) (k:After A1 w1 .no A2 w2 .no):After A w ω A2 w2 .no:=by
 have e:∀ g o,OP (OF A1 w1 .no) A1 g o → OP (OF A w ω) A g o ∨ g < 0:=fun g o hg=>by
  rcases hg with (hg | hg) | ⟨hg | hg,_⟩
  ·exact .inl (.inl (.inl (Nat.le_trans h.fr.size hg)))
  ·exact hg.elim
  ·exact .inl (.inl (.inl (Nat.le_trans h.fr.size hg)))
  ·exact hg.elim
 have e0:∀ g o,OP (OF A w .no) A g o → OP (OF A w ω) A g o:=fun g o hg=>by
  rcases hg with (hg | hg) | ⟨hg | hg,hn⟩
  ·exact .inl (.inl hg)
  ·exact hg.elim
  ·exact .inr ⟨.inl hg,hn⟩
  ·exact hg.elim
 refine ⟨(h.fr.mono fun g o _ hg=>e0 g o hg).trans (k.fr.mono fun g o _ hg=>(e g o hg).elim id fun h=>absurd h (Nat.not_lt_zero _)),fun g o hg=>?_,fun g o hg=>?_,k.low,Ow.no_le _⟩
 ·obtain ⟨h1,h2⟩:=h.sub g o hg
  obtain ⟨k1,k2⟩:=k.sub g o h1
  exact ⟨k1,k2.trans h2⟩
 ·rcases k.an g o hg with hg | hg
  ·rcases h.an g o hg with hg | hg
   ·exact .inl hg
   ·exact .inr (e0 g o hg)
  ·exact .inr ((e g o hg).elim id fun h=>absurd h (Nat.not_lt_zero _))
theorem After.new {A:Pos} {w w':World} (h:Chg Nil w w') (hlow:∀ g o,A g o → g < w.heap.size):After A w .no A w' .no:=After.of_chg h hlow (fun _ _ h=>h) (fun _ _ h=>.inl h) (Ow.no_le _)
theorem After.noOr {A A':Pos} {w w':World} {ω:Ow} (h:After A w ω A' w' .no):After A w ω A' w' (Ow.no.or .no):=⟨h.fr,h.sub,h.an,h.low,Ow.or_no_le _⟩
theorem numS_ok {s:Str} {v:Int} (h:Go.Lib.atoiAll s = .ok v):∀ m,numS s = some m → v = m:=fun m hm=>by
 unfold numS at hm
 rw [h] at hm
 dsimp only at hm
 split at hm
 ·cases hm; rfl
 ·cases hm
theorem number_pc:NumPC:=fun s hs=>by
 have hs:s.length ≤ 20001:=hs
 refine ⟨by kernel_rfl,fun A w vs ω ht hlow htab=>?_⟩
 obtain ⟨v,vs',ω1,ω2,rfl,⟨us,⟨b,rfl,hb,_⟩,_,h2⟩,h3,_⟩:=ht
 have h2:[_] = [v]:=h2
 cases h2
 have h3:vs' = []:=h3
 subst h3
 have hb:b.data.toList = s:=hb
 have hsz:=size_of hb
 have hg:=htab.ok
 have bad:∀ (n:Int) (w1:World),numS s = none → Chg Nil w w1 → ∀ (K:World → Prop) (Kp:List PanicEntry → World → Prop),(∀ A' u w',RS ⟨A',w',fun _=>(0,0),fun _=>⟨none,0,0⟩,0⟩ (.pv .nil ()) u → After A w ω A' w' .no → Kp [{ v:=.iface 132 u,recovered:=false }] w') →
   CallN Tryz.prog 80 #[.bool false] [] w1 (fun _ w2=>K w2) Kp:=fun n w1 hn hc K Kp hR=>by
  refine must_calls false (A:=A) (fun g o h=>Nat.lt_of_lt_of_le (hlow g o h) hc.size) (hg.keep hc.size fun g hlt=>hc.block g (Nat.lt_of_lt_of_le hlt hg.size) fun h=>h) (fun h=>by cases h) fun _ A' u w' hu ha=>?_
  exact hR A' u w' hu (After.trans (After.new hc hlow) ha)
 refine number_of ?_
 cases hat:Go.Lib.atoiAll s
 case ok v=>
  have hin:=Go.Lib.atoiAll_bounds hat
  refine (Tryz.strconv_Atoi_ok b (by omega) v (by rw [hb]; exact hat) w).mono fun e w1 he=>?_
  obtain ⟨rfl,hw⟩:=he
  have hc:Chg Nil w w1:=by
   rcases hw with rfl | ⟨t,rfl⟩
   ·exact Chg.refl _
   ·exact ⟨rfl,rfl,rfl,by rw [Go.Lib.bytesWorld_size]; omega,fun k hk _=>Go.Lib.bytesWorld_at_old w 5 t k hk⟩
  refine ⟨v,.nilIface,true,rfl,.inl ⟨rfl,rfl⟩,?_⟩
  refine must_calls true (A:=A) (fun g o h=>Nat.lt_of_lt_of_le (hlow g o h) hc.size) (hg.keep hc.size fun g hlt=>hc.block g (Nat.lt_of_lt_of_le hlt hg.size) fun h=>h) (fun _ A' w' ha=>?_) (fun h=>by cases h)
  exact ⟨A',(v,()),((),()),[.int .i64 v],.no,.no,⟨hin,numS_ok hat⟩,rfl,⟨_,_,.no,.no,rfl,⟨[_],rfl,rfl,rfl⟩,rfl,Ow.dis_no,.refl _,.refl _⟩,trivial,Ow.dis_no,(After.noOr (After.trans (After.new hc hlow) ha))⟩
 case range=>
  have hn:numS s = none:=by unfold numS; rw [hat]
  obtain ⟨te,pe,hv⟩:=errVar hg (.inr rfl)
  refine (Tryz.strconv_Atoi_range b (by omega) (by rw [hb]; exact hat) _ w hv (.inr ⟨_,_,rfl⟩)).mono fun e w1 he=>?_
  obtain ⟨N,rfl,_,_,hbl⟩:=he
  exact ⟨_,_,false,rfl,.inr ⟨⟨_,_,rfl⟩,rfl⟩,bad 0 w1 hn (chg_below hbl) _ _ fun A' u w' hu ha=>⟨A',132,.pv .nil (),u,⟨hn,rfl⟩,rfl,hu,rfl,ha⟩⟩
 have hn:numS s = none:=by unfold numS; rw [hat]
 obtain ⟨te,pe,hv⟩:=errVar hg (.inl rfl)
 have hcall:Calls Tryz.prog 201 #[.string b] w fun e w'=>∃ N,e = .returned (.tuple #[.int .i64 (0),.iface 374 (.pointer (some ⟨N,0,none⟩))]) ∧ w.heap.size ≤ N ∧ w'.heap[N]? = some (.cells #[.string ⟨#[65,116,111,105]⟩,.string b,.iface te (.pointer pe)] 406 (0,0)) ∧ RowKit.Below w.heap.size w w':=
  Go.Proofs.Any.strconv_Atoi_syntax Tryz.laysC172 b (by omega) (by rw [hb]; exact hat) _ w hv (.inr ⟨_,_,rfl⟩)
 refine hcall.mono fun e w1 he=>?_
 obtain ⟨N,rfl,_,_,hbl⟩:=he
 exact ⟨0,_,false,rfl,.inr ⟨⟨_,_,rfl⟩,rfl⟩,bad 0 w1 hn (chg_below hbl) _ _ fun A' u w' hu ha=>⟨A',132,.pv .nil (),u,⟨hn,rfl⟩,rfl,hu,rfl,ha⟩⟩
end Go.Proofs.YtpifnlfmojfgpaaGreatDoor.Pk
end
section
set_option maxRecDepth 10000
set_option maxHeartbeats 400000
namespace Go.Proofs.YtpifnlfmojfgpaaGreatDoor.Pk
open Fw Pw Ct Go.Lib
theorem idx_no {s:Str} {b:UInt8} (h:indexByte s b = -1):b ∉ s:=fun hm=>by
 obtain ⟨k,hk,he⟩:=List.mem_iff_getElem.1 hm
 exact indexByte_none h k (by rw [List.getElem?_eq_getElem hk,he])
theorem idx_at {s:Str} {b:UInt8} {n:Nat} (h:indexByte s b = (n:Int)):n < s.length ∧ b ∉ s.take n ∧ s = s.take n ++ b :: s.drop (n + 1):=by
 obtain ⟨h1,h2⟩:=indexByte_some h
 have hn:n < s.length:=(List.getElem?_eq_some_iff.1 h1).1
 have hb:s[n] = b:=by rw [List.getElem?_eq_getElem hn] at h1; exact Option.some.inj h1
 refine ⟨hn,fun hm=>?_,?_⟩
 ·obtain ⟨k,hk,he⟩:=List.mem_iff_getElem.1 hm
  rw [List.length_take] at hk
  rw [List.getElem_take] at he
  exact h2 k (by omega) (by rw [List.getElem?_eq_getElem (by omega),he])
 ·conv=>lhs; rw [← List.take_append_drop n s]
  rw [List.drop_eq_getElem_cons hn,hb]
theorem spl_miss {s:Str} {b:UInt8} (h:indexByte s b = -1):spl b s = [s]:=spl_none s (idx_no h)
theorem spl_hit {s:Str} {b:UInt8} {n:Nat} (h:indexByte s b = (n:Int)):spl b s = s.take n :: spl b (s.drop (n + 1)):=by
 obtain ⟨h1,h2,h3⟩:=idx_at h
 conv=>lhs; rw [h3]
 exact spl_at _ _ h2
theorem splitK_spl (b:UInt8):∀ (k:Nat) (s:Str),s.length ≤ k → splitK [b] 0 (count s [b]) s = spl b s:=by
 intro k
 induction k with
 | zero=>
  intro s hs
  have:s = []:=List.length_eq_zero_iff.1 (by omega)
  subst this; rfl
 | succ k ih=>
  intro s hs
  rcases Int.lt_or_le (indexByte s b) 0 with hlt | hge
  ·have hm:indexByte s b = -1:=by have:=indexByte_ge s b; omega
   have hi:index s [b] = -1:=by rw [index_one]; exact hm
   rw [count_miss hi,spl_miss hm]; rfl
  ·obtain ⟨n,hn⟩:=Int.eq_ofNat_of_zero_le hge
   have hn:indexByte s b = (n:Int):=hn
   have hi:index s [b] = (n:Int):=by rw [index_one]; exact hn
   have h1:=(idx_at hn).1
   have hd:(s.drop (n + 1)).length ≤ k:=by rw [List.length_drop]; omega
   rw [count_hit (by simp) hi,spl_hit hn,Nat.add_comm 1]
   unfold splitK
   have hb:¬ (index s [b] == -1) = true:=fun e=>by have:=beq_iff_eq.1 e; omega
   rw [if_neg hb,hi]
   show s.take ((n:Int).toNat + 0) :: splitK [b] 0 (count (s.drop (n + 1)) [b]) (s.drop ((n:Int).toNat + 1)) = _
   rw [Int.toNat_natCast,Nat.add_zero,ih _ hd]
theorem splitB_spl (b:UInt8) (s:ByteArray):(splitB ⟨#[b]⟩ 0 (countB s ⟨#[b]⟩) s).map (·.data.toList) = spl b s.data.toList:=by
 rw [splitB_data]
 exact splitK_spl b _ _ (Nat.le_refl _)
theorem under9':Tryz.prog.underlying 9 = some .string:=by kernel_rfl
theorem run_str_to (s:ByteArray) (n:Nat) (h:n ≤ s.size) (w:World):(Instr.sliceAt 9 (.string s) none (some (.int .i64 (n:Int))) none).run Tryz.prog w = .ok (.string (s.extract 0 n)) w:=by
 rw [run_sliceAt_string (h:=under9')]
 simp [Instr.slice,run_underlying under9',Instr.sliceBounds,run_sliceBound,h]
theorem run_str_from (s:ByteArray) (n:Nat) (h:n ≤ s.size) (w:World):(Instr.sliceAt 9 (.string s) (some (.int .i64 (n:Int))) none none).run Tryz.prog w = .ok (.string (s.extract n s.size)) w:=by
 rw [run_sliceAt_string (h:=under9')]
 simp [Instr.slice,run_underlying under9',Instr.sliceBounds,run_sliceBound,h]
theorem extract_take (s:ByteArray) (n:Nat):(s.extract 0 n).data.toList = s.data.toList.take n:=extract_from_zero s n
theorem extract_drop (s:ByteArray) (n:Nat):(s.extract n s.size).data.toList = s.data.toList.drop n:=extract_to_end s n
theorem bytes_of {b:ByteArray} {s:Str} (h:b.data.toList = s):b = ⟨s.toArray⟩:=by
 subst h
 cases b with | mk d=>simp
theorem split_ok (s:ByteArray) (b:UInt8) {w:World} (hg:GOk w) (hs:s.size ≤ 2000000) :
  Calls Tryz.prog 83 #[.string s,.string ⟨#[b]⟩] w fun e w'=>∃ l:List ByteArray,l.map (·.data.toList) = spl b s.data.toList ∧ e = .returned (Sl.v ⟨some ⟨w.heap.size,0,none⟩,l.length,l.length⟩) ∧ w' = w.alloc (.cells (l.map Value.string).toArray 9):=by
 obtain ⟨m,hm⟩:=maxLen_of hg
 refine (Tryz.strings_Split s ⟨#[b]⟩ m w (by omega) hm (Nat.le_refl 1)).mono fun e w' he=>?_
 obtain ⟨rfl,rfl⟩:=he
 refine ⟨_,splitB_spl b s,?_,rfl⟩
 have hl:(splitB ⟨#[b]⟩ 0 (countB s ⟨#[b]⟩) s).length = countB s ⟨#[b]⟩ + 1:=splitB_all ⟨#[b]⟩ (Nat.le_refl 1) 0 _ s rfl
 rw [hl]
def SpB (o:Obj):Prop:=∃ cs t fr,o = .cells cs t fr ∧ (t = 9 ∨ t = 3)
def SpD (bs:Nat) (_:Nat) (W W':World):Prop:=(∃ cs,W.heap[bs]? = some (.cells cs 9 (0,0))) ∧ Chg (· = bs) W W' ∧ W'.heap.size = W.heap.size
def strV (s:Str):ByteArray × Unit:=(⟨s.toArray⟩,())
theorem splitseq_gives {bp bs bv:Nat} (h1:bp ≠ bs) (h2:bv ≠ bs) (b:UInt8) (t:ByteArray) (ht:t.size ≤ 2000000) :
  Gives Tryz.prog 158 #[] #[.pointer (some ⟨bp,0,none⟩),.pointer (some ⟨bs,0,none⟩),.pointer (some ⟨bv,0,none⟩)] [.sc .str] ((spl b t.data.toList).map strV) (fun _=>True) (SpD bs) SpB
   (fun W=>W.heap[bp]? = some (.cells #[.string ⟨#[b]⟩] 9 (0,0)) ∧ W.heap[bs]? = some (.cells #[.string t] 9 (0,0)) ∧ W.heap[bv]? = some (.cells #[.int .i64 0] 3 (0,0))):=by
 intro l J Jx W _ _ hD hDx hy h0 hC
 obtain ⟨hp,hs,hv⟩:=hC
 refine strings_splitSeq_c1.calls l ⟨bp,0,none⟩ ⟨bs,0,none⟩ ⟨bv,0,none⟩ ?_
 unfold strings_splitSeq_c1.sh
 refine LoadT.sc (s:=.str) (x:=⟨#[b]⟩) (by rw [cellOf0 hp]; rfl) ?_
 refine Br.mk (fun h=>by exact absurd (of_decide_eq_true h) (by show ¬ ((1:Nat):Int) = 0; decide)) (fun _=>?_)
 obtain ⟨xs,hxs⟩:∃ xs,xs = spl b t.data.toList:=⟨_,rfl⟩
 rw [← hxs] at hy ⊢
 refine LoopT.fuel (fun k x W'=>x = (l,⟨bp,0,none⟩,⟨bs,0,none⟩,⟨bv,0,none⟩,()) ∧ ∃ (i:Nat) (r:ByteArray),J i W' ∧ r.size = k ∧ r.size ≤ 2000000 ∧ xs = xs.take i ++ spl b r.data.toList ∧ i ≤ xs.length ∧
  W'.heap[bp]? = some (.cells #[.string ⟨#[b]⟩] 9 (0,0)) ∧ W'.heap[bs]? = some (.cells #[.string r] 9 (0,0)) ∧ W'.heap[bv]? = some (.cells #[.int .i64 0] 3 (0,0))) t.size ⟨rfl,0,t,h0,rfl,ht,by rw [← hxs]; rfl,Nat.zero_le _,hp,hs,hv⟩ ?_
 rintro k x g W1 C ⟨rfl,i,r,hj,hrk,hr,hx,hi,kp,ks,kv⟩ hK
 dsimp only
 refine LoadT.sc (s:=.str) (x:=r) (by rw [cellOf0 ks]; rfl) ?_
 refine LoadT.sc (s:=.str) (x:=⟨#[b]⟩) (by rw [cellOf0 kp]; rfl) ?_
 have hrl:r.data.toList.length = r.size:=by rw [Array.length_toList]; rfl
 have hdrop:xs.drop i = spl b r.data.toList:=by
  have e:(xs.take i).length = i:=by rw [List.length_take]; omega
  conv=>lhs; rw [hx]
  conv=>lhs; arg 1; rw [← e]
  rw [List.drop_left]
 refine Calls.mono (Tryz.strings_Index_one r b W1) fun e W2 he=>?_
 obtain ⟨rfl,rfl⟩:=he
 refine ⟨_,rfl,?_⟩
 have bOf:∀ {W':World},KeepO SpB W2 W' → W'.heap[bp]? = some (.cells #[.string ⟨#[b]⟩] 9 (0,0)) ∧ W'.heap[bs]? = some (.cells #[.string r] 9 (0,0)) ∧ W'.heap[bv]? = some (.cells #[.int .i64 0] 3 (0,0)):=fun hk=>
  ⟨hk _ _ ⟨_,_,_,rfl,.inl rfl⟩ kp,hk _ _ ⟨_,_,_,rfl,.inl rfl⟩ ks,hk _ _ ⟨_,_,_,rfl,.inr rfl⟩ kv⟩
 refine Br.dec (fun hlt=>?_) (fun hge=>?_)
 ·have hlt:indexByte r.data.toList b < 0:=hlt
  have hm:indexByte r.data.toList b = -1:=by have:=indexByte_ge r.data.toList b; omega
  rw [spl_miss hm] at hdrop
  have hxi:xs[i]? = some r.data.toList:=by
   have:=congrArg (·[0]?) hdrop
   simpa using this
  have hlen:xs.length = i + 1:=by
   have:=congrArg List.length hdrop
   rw [List.length_drop,List.length_cons,List.length_nil] at this
   omega
  refine LoadT.sc (s:=.str) (x:=r) (by rw [cellOf0 ks]; rfl) ?_
  have hyy:=hy i (r,()) W2 (by rw [List.getElem?_map,hxi]; rfl) hj
  obtain ⟨f,tmps,asg,body,hy1,hy2⟩:=hyy
  refine ⟨f,tmps,asg,body,hy1,hy2.mono fun e W3 he=>?_⟩
  cases e with
  | returned v=>
   obtain ⟨bb,rfl,hk,hres⟩:=he
   refine ⟨bb,rfl,rfl,?_⟩
   rw [List.length_map,hlen]
   exact hres.imp (fun h=>h.2) (fun h=>h.2)
  | panicked _=>exact he
  | outgrown=>exact he
 ·have hge:¬ indexByte r.data.toList b < 0:=hge
  obtain ⟨n,hn⟩:=Int.eq_ofNat_of_zero_le (show 0 ≤ indexByte r.data.toList b by omega)
  have hn:indexByte r.data.toList b = (n:Int):=hn
  obtain ⟨hn1,hn2,hn3⟩:=idx_at hn
  rw [spl_hit hn] at hdrop
  have hxi:xs[i]? = some (r.data.toList.take n):=by
   have:=congrArg (·[0]?) hdrop
   simpa using this
  have hlt:i < xs.length:=(List.getElem?_eq_some_iff.1 hxi).1
  have hdrop2:xs.drop (i + 1) = spl b (r.data.toList.drop (n + 1)):=by
   have:=congrArg (List.drop 1) hdrop
   rw [List.drop_drop] at this
   simpa using this
  rw [hn]
  refine LoadT.sc (s:=.str) (x:=r) (by rw [cellOf0 ks]; rfl) ?_
  refine LoadT.sc (s:=.int .i64) (x:=0) (by rw [cellOf0 kv]; rfl) ?_
  have hw1:IntKind.wrap .i64 ((n:Int) + 0) = (n:Int):=by rw [Fw.wrap64 (by omega) (by omega)]; omega
  rw [hw1]
  refine ⟨_,_,run_str_to r n (by omega) W2,?_⟩
  have hyy:=hy i (r.extract 0 n,()) W2 (by
   rw [List.getElem?_map,hxi]
   exact congrArg (fun b=>some (b,())) (bytes_of (extract_take r n)).symm) hj
  obtain ⟨f,tmps,asg,body,hy1,hy2⟩:=hyy
  refine ⟨f,tmps,asg,body,hy1,hy2.mono fun e W3 he=>?_⟩
  cases e with
  | panicked _=>exact he
  | outgrown=>exact he
  | returned v=>
   obtain ⟨bb,rfl,hk,hres⟩:=he
   refine ⟨bb,rfl,?_⟩
   obtain ⟨k1,k2,k3⟩:=bOf hk
   refine Br.mk (fun hb=>?_) (fun hb=>?_)
   ·have hb:bb = false:=by simpa using hb
    refine ⟨rfl,.inr ?_⟩
    rcases hres with h | h
    ·rw [hb] at h; cases h.1
    ·exact h.2
   ·have hb:bb = true:=by simpa using hb
    have hj1:J (i + 1) W3:=by
     rcases hres with h | h
     ·exact h.2
     ·rw [hb] at h; cases h.1
    refine LoadT.sc (s:=.str) (x:=r) (by rw [cellOf0 k2]; rfl) ?_
    refine LoadT.sc (s:=.str) (x:=⟨#[b]⟩) (by rw [cellOf0 k1]; rfl) ?_
    have hw2:IntKind.wrap .i64 ((n:Int) + (((⟨#[b]⟩:ByteArray).size:Nat):Int)) = ((n + 1:Nat):Int):=by
     have:((⟨#[b]⟩:ByteArray).size:Nat) = 1:=rfl
     rw [this,Fw.wrap64 (by omega) (by omega)]; omega
    rw [hw2]
    refine ⟨_,_,run_str_from r (n + 1) (by omega) W3,?_⟩
    refine Store1.at k2 0 (by show 0 < 1; decide) (cs':=#[.string (r.extract (n + 1) r.size)]) rfl fun W4 q2 hc hsz=>?_
    have hd:SpD bs W.heap.size W3 W4:=⟨⟨_,k2⟩,hc,hsz⟩
    have hes:(r.extract (n + 1) r.size).size = r.size - (n + 1):=by rw [ByteArray.size_extract]; omega
    refine hK _ _ (r.size - (n + 1)) (by omega) ⟨rfl,i + 1,r.extract (n + 1) r.size,hD _ _ _ hj1 hd,hes,by omega,?_,by omega,hc.heap k1 fun h=>h1 h,q2,hc.heap k3 fun h=>h2 h⟩
    rw [extract_drop,← hdrop2,List.take_append_drop]
end Go.Proofs.YtpifnlfmojfgpaaGreatDoor.Pk
end
section
set_option maxRecDepth 10000
namespace Go.Proofs.YtpifnlfmojfgpaaGreatDoor
open Fw
noncomputable def cert_putCells.ann:Ann where
 loops:=fun | 1=>[(0,.sc (.clo 45 2)),(1,.sc .str),(8,.sc .sl),(9,.sc (.int .i64)),(10,.sc (.int .i64))] | _=>[]
 joins:=fun | _=>none
noncomputable def cert_putCells.body:Code:=match Tryz.f48.body with | some c=>c | none=>.skip
def cert_putCells.sh (p0_0:Addr) (p0_1:Addr) (p1:ByteArray) (p2:Sl) (R:Ending → World → Prop) (w:World):Prop:=
 LoopT (σ:=(Addr × Addr × Unit) × ByteArray × Sl × Int × Int × Unit) ((p0_0,p0_1,()),p1,p2,((p2.n:Nat):Int),0,()) w fun l1 g2 w3 I4=>
  Br (decide ((l1.2.2.2.2.1:Int) < l1.2.2.2.1))
   (Idx l1.2.2.1.a l1.2.2.1.n 3 l1.2.2.2.2.1 fun a5=>
   LoadT (.agg [.str,.int .i64,.bool]) w3 a5 fun x6=>
   New w3 (.cells #[(.string (ByteArray.mk #[])),(.int .i64 0),(.bool false)] 96) fun b7 w8=>
   StoreN w8 (Addr.mk b7 0 none) [(.string x6.1),(.int .i64 x6.2.1),(.bool x6.2.2.1)] fun w9=>
   (((l1.2.1.size + (ByteArray.mk #[32]).size:Nat):Int) ≤ 9223372036854775807) ∧
   LoadT (.agg [.str,.int .i64,.bool]) w9 (Addr.mk b7 0 none) fun x10=>
   CallT Tryz.prog 97 #[(.agg #[(.string x10.1),(.int .i64 x10.2.1),(.bool x10.2.2.1)])] (.sc .str) w9 (fun r11 w12=>
    ((((l1.2.1 ++ (ByteArray.mk #[32])).size + r11.size:Nat):Int) ≤ 9223372036854775807) ∧
    CallN Tryz.prog 45 #[(.string ((l1.2.1 ++ (ByteArray.mk #[32])) ++ r11)),(.pointer (some l1.1.1)),(.pointer (some l1.1.2.1))] [] w12 (fun r14 w15=>
     I4 ((l1.1.1,l1.1.2.1,()),l1.2.1,l1.2.2.1,l1.2.2.2.1,(IntKind.wrap .i64 (l1.2.2.2.2.1 + 1)),()) w15) (fun h16 w15=>R (.panicked h16) w15)) (fun h13 w12=>R (.panicked h13) w12))
   (R (.returned (.tuple #[])) w3)
theorem cert_putCells.calls (p0_0:Addr) (p0_1:Addr) (p1:ByteArray) (p2:Sl) {R:Ending → World → Prop} {w:World} (h:cert_putCells.sh p0_0 p0_1 p1 p2 R w):Calls Tryz.prog 48 #[(.func (.func 45) #[] #[(.pointer (some p0_0)),(.pointer (some p0_1))]),(.string p1),(.slice p2.a p2.n p2.c)] w R:=calls_of_wpc mixed Tryz.func48 (by kernel_rfl) (by kernel_rfl) ((show _ = wpc Tryz.prog cert_putCells.ann cert_putCells.body (fnKs Tryz.prog Tryz.f48 R) [] (env0 #[(.func (.func 45) #[] #[(.pointer (some p0_0)),(.pointer (some p0_1))]),(.string p1),(.slice p2.a p2.n p2.c)]) w by kernel_rfl).mp h)
noncomputable def cert_putPairs.ann:Ann where
 loops:=fun | 9=>[(0,.sc (.clo 45 2)),(3,.sc .adr),(54,.sc .sl),(55,.sc (.int .i64)),(56,.sc (.int .i64))] | _=>[]
 joins:=fun | 3=>some [(0,.sc (.clo 45 2)),(3,.sc .adr)] | 5=>some [(0,.sc (.clo 45 2)),(3,.sc .adr),(30,.sc .bool)] | 6=>some [(0,.sc (.clo 45 2)),(3,.sc .adr)] | 8=>some [(0,.sc (.clo 45 2)),(3,.sc .adr)] | _=>none
noncomputable def cert_putPairs.body:Code:=match Tryz.f49.body with | some c=>c | none=>.skip
def cert_putPairs.sh (p0_0:Addr) (p0_1:Addr) (p1_0:Int) (p1_1:Int) (p1_2:Sl) (p1_3:ByteArray) (p1_4:ByteArray) (p1_5:Int) (p1_6:Sl) (p1_7:ByteArray) (p1_8:Sl) (p1_9:Int) (p1_10:Int) (p1_11:Sl) (p1_12:Sl) (p1_13:Sl) (p1_14:Int) (p1_15:Sl) (p1_16:Int) (p1_17:Sl) (p1_18:Int) (p1_19:Sl) (p1_20:Int) (p1_21:Int) (p1_22:Sl) (p1_23:Sl) (p1_24:Sl) (p1_25:Sl) (p1_26:Sl) (p1_27:Sl) (R:Ending → World → Prop) (w:World):Prop:=
 New w (.cells #[(.int .i64 p1_0),(.int .i64 p1_1),(.slice p1_2.a p1_2.n p1_2.c),(.string p1_3),(.string p1_4),(.int .i64 p1_5),(.slice p1_6.a p1_6.n p1_6.c),(.string p1_7),(.slice p1_8.a p1_8.n p1_8.c),(.int .i64 p1_9),(.int .i64 p1_10),(.slice p1_11.a p1_11.n p1_11.c),(.slice p1_12.a p1_12.n p1_12.c),(.slice p1_13.a p1_13.n p1_13.c),(.int .i64 p1_14),(.slice p1_15.a p1_15.n p1_15.c),(.int .i64 p1_16),(.slice p1_17.a p1_17.n p1_17.c),(.int .i64 p1_18),(.slice p1_19.a p1_19.n p1_19.c),(.int .i64 p1_20),(.int .i64 p1_21),(.slice p1_22.a p1_22.n p1_22.c),(.slice p1_23.a p1_23.n p1_23.c),(.slice p1_24.a p1_24.n p1_24.c),(.slice p1_25.a p1_25.n p1_25.c),(.slice p1_26.a p1_26.n p1_26.c),(.slice p1_27.a p1_27.n p1_27.c)] 43) fun b1 w2=>
 Join (σ:=(Addr × Addr × Unit) × Addr × Unit) (fun j5 g4 w11=>
  LoadT (.sc .sl) w11 ((j5.2.1.add 7).add 1) fun x12=>
  CallN Tryz.prog 48 #[(.func (.func 45) #[] #[(.pointer (some j5.1.1)),(.pointer (some j5.1.2.1))]),(.string (ByteArray.mk #[114,105,110,103])),(.slice x12.a x12.n x12.c)] [] w11 (fun r13 w14=>
   Join (σ:=(Addr × Addr × Unit) × Addr × Unit) (fun j18 g17 w35=>
    Join (σ:=(Addr × Addr × Unit) × Addr × Unit) (fun j38 g37 w47=>
     LoadT (.sc .sl) w47 ((j38.2.1.add 9).add 3) fun x48=>
     LoopT (σ:=(Addr × Addr × Unit) × Addr × Sl × Int × Int × Unit) ((j38.1.1,j38.1.2.1,()),j38.2.1,x48,((x48.n:Nat):Int),0,()) w47 fun l49 g50 w51 I52=>
      Br (decide ((l49.2.2.2.2.1:Int) < l49.2.2.2.1))
       (Idx l49.2.2.1.a l49.2.2.1.n 1 l49.2.2.2.2.1 fun a53=>
       LoadT (.sc .sl) w51 a53 fun x54=>
       CallT Tryz.prog 47 #[(.string (ByteArray.mk #[112,101,114,109])),(.slice x54.a x54.n x54.c)] (.sc .str) w51 (fun r55 w56=>
        CallN Tryz.prog 45 #[(.string r55),(.pointer (some l49.1.1)),(.pointer (some l49.1.2.1))] [] w56 (fun r58 w59=>
         I52 ((l49.1.1,l49.1.2.1,()),l49.2.1,l49.2.2.1,l49.2.2.2.1,(IntKind.wrap .i64 (l49.2.2.2.2.1 + 1)),()) w59) (fun h60 w59=>R (.panicked h60) w59)) (fun h57 w56=>R (.panicked h57) w56))
       (LoadT (.sc .sl) w51 (l49.2.1.add 13) fun x61=>
       Br (decide ((((x61.n:Nat):Int):Int) > 0))
        (LoadT (.sc .sl) w51 (l49.2.1.add 13) fun x62=>
        CallT Tryz.prog 47 #[(.string (ByteArray.mk #[118,97,108,117,101])),(.slice x62.a x62.n x62.c)] (.sc .str) w51 (fun r63 w64=>
         CallN Tryz.prog 45 #[(.string r63),(.pointer (some l49.1.1)),(.pointer (some l49.1.2.1))] [] w64 (fun r66 w67=>
          R (.returned (.tuple #[])) w67) (fun h68 w67=>R (.panicked h68) w67)) (fun h65 w64=>R (.panicked h65) w64))
        (R (.returned (.tuple #[])) w51))) fun J36=>
     LoadT (.sc .sl) w35 ((j18.2.1.add 9).add 2) fun x39=>
     Br (decide ((((x39.n:Nat):Int):Int) > 0))
      (LoadT (.sc .sl) w35 ((j18.2.1.add 9).add 2) fun x40=>
      CallT Tryz.prog 47 #[(.string (ByteArray.mk #[105,109,97,103,101])),(.slice x40.a x40.n x40.c)] (.sc .str) w35 (fun r41 w42=>
       CallN Tryz.prog 45 #[(.string r41),(.pointer (some j18.1.1)),(.pointer (some j18.1.2.1))] [] w42 (fun r44 w45=>
        J36 ((j18.1.1,j18.1.2.1,()),j18.2.1,()) w45) (fun h46 w45=>R (.panicked h46) w45)) (fun h43 w42=>R (.panicked h43) w42))
      (J36 ((j18.1.1,j18.1.2.1,()),j18.2.1,()) w35)) fun J16=>
    Join (σ:=(Addr × Addr × Unit) × Addr × Bool × Unit) (fun j21 g20 w24=>
     Br j21.2.2.1
      (LoadT (.sc (.int .i64)) w24 ((j21.2.1.add 9).add 0) fun x25=>
      LoadT (.sc (.int .i64)) w24 ((j21.2.1.add 9).add 1) fun x26=>
      New w24 (.cells #[(.int .i64 x25),(.int .i64 x26)] 3) fun b27 w28=>
      CallT Tryz.prog 47 #[(.string (ByteArray.mk #[115,101,112])),(.slice (some (Addr.mk b27 0 none)) 2 2)] (.sc .str) w28 (fun r29 w30=>
       CallN Tryz.prog 45 #[(.string r29),(.pointer (some j21.1.1)),(.pointer (some j21.1.2.1))] [] w30 (fun r32 w33=>
        J16 ((j21.1.1,j21.1.2.1,()),j21.2.1,()) w33) (fun h34 w33=>R (.panicked h34) w33)) (fun h31 w30=>R (.panicked h31) w30))
      (J16 ((j21.1.1,j21.1.2.1,()),j21.2.1,()) w24)) fun J19=>
     LoadT (.sc (.int .i64)) w14 ((j5.2.1.add 9).add 0) fun x22=>
     Br ((x22:Int) != 0)
      (J19 ((j5.1.1,j5.1.2.1,()),j5.2.1,true,()) w14)
      (LoadT (.sc (.int .i64)) w14 ((j5.2.1.add 9).add 1) fun x23=>
      J19 ((j5.1.1,j5.1.2.1,()),j5.2.1,((x23:Int) != 0),()) w14)) (fun h15 w14=>R (.panicked h15) w14)) fun J3=>
  LoadT (.sc .str) w2 (((Addr.mk b1 0 none).add 7).add 0) fun x6=>
  Br (!(x6.toList == (ByteArray.mk #[]).toList))
   (LoadT (.sc .str) w2 (((Addr.mk b1 0 none).add 7).add 0) fun x7=>
   ((((ByteArray.mk #[99,111,110,106,32]).size + x7.size:Nat):Int) ≤ 9223372036854775807) ∧
   CallN Tryz.prog 45 #[(.string ((ByteArray.mk #[99,111,110,106,32]) ++ x7)),(.pointer (some p0_0)),(.pointer (some p0_1))] [] w2 (fun r8 w9=>
    J3 ((p0_0,p0_1,()),(Addr.mk b1 0 none),()) w9) (fun h10 w9=>R (.panicked h10) w9))
   (J3 ((p0_0,p0_1,()),(Addr.mk b1 0 none),()) w2)
theorem cert_putPairs.calls (p0_0:Addr) (p0_1:Addr) (p1_0:Int) (p1_1:Int) (p1_2:Sl) (p1_3:ByteArray) (p1_4:ByteArray) (p1_5:Int) (p1_6:Sl) (p1_7:ByteArray) (p1_8:Sl) (p1_9:Int) (p1_10:Int) (p1_11:Sl) (p1_12:Sl) (p1_13:Sl) (p1_14:Int) (p1_15:Sl) (p1_16:Int) (p1_17:Sl) (p1_18:Int) (p1_19:Sl) (p1_20:Int) (p1_21:Int) (p1_22:Sl) (p1_23:Sl) (p1_24:Sl) (p1_25:Sl) (p1_26:Sl) (p1_27:Sl) {R:Ending → World → Prop} {w:World} (h:cert_putPairs.sh p0_0 p0_1 p1_0 p1_1 p1_2 p1_3 p1_4 p1_5 p1_6 p1_7 p1_8 p1_9 p1_10 p1_11 p1_12 p1_13 p1_14 p1_15 p1_16 p1_17 p1_18 p1_19 p1_20 p1_21 p1_22 p1_23 p1_24 p1_25 p1_26 p1_27 R w):Calls Tryz.prog 49 #[(.func (.func 45) #[] #[(.pointer (some p0_0)),(.pointer (some p0_1))]),(.agg #[(.int .i64 p1_0),(.int .i64 p1_1),(.slice p1_2.a p1_2.n p1_2.c),(.string p1_3),(.string p1_4),(.int .i64 p1_5),(.slice p1_6.a p1_6.n p1_6.c),(.string p1_7),(.slice p1_8.a p1_8.n p1_8.c),(.int .i64 p1_9),(.int .i64 p1_10),(.slice p1_11.a p1_11.n p1_11.c),(.slice p1_12.a p1_12.n p1_12.c),(.slice p1_13.a p1_13.n p1_13.c),(.int .i64 p1_14),(.slice p1_15.a p1_15.n p1_15.c),(.int .i64 p1_16),(.slice p1_17.a p1_17.n p1_17.c),(.int .i64 p1_18),(.slice p1_19.a p1_19.n p1_19.c),(.int .i64 p1_20),(.int .i64 p1_21),(.slice p1_22.a p1_22.n p1_22.c),(.slice p1_23.a p1_23.n p1_23.c),(.slice p1_24.a p1_24.n p1_24.c),(.slice p1_25.a p1_25.n p1_25.c),(.slice p1_26.a p1_26.n p1_26.c),(.slice p1_27.a p1_27.n p1_27.c)])] w R:=calls_of_wpc mixed Tryz.func49 (by kernel_rfl) (by kernel_rfl) ((show _ = wpc Tryz.prog cert_putPairs.ann cert_putPairs.body (fnKs Tryz.prog Tryz.f49 R) [] (env0 #[(.func (.func 45) #[] #[(.pointer (some p0_0)),(.pointer (some p0_1))]),(.agg #[(.int .i64 p1_0),(.int .i64 p1_1),(.slice p1_2.a p1_2.n p1_2.c),(.string p1_3),(.string p1_4),(.int .i64 p1_5),(.slice p1_6.a p1_6.n p1_6.c),(.string p1_7),(.slice p1_8.a p1_8.n p1_8.c),(.int .i64 p1_9),(.int .i64 p1_10),(.slice p1_11.a p1_11.n p1_11.c),(.slice p1_12.a p1_12.n p1_12.c),(.slice p1_13.a p1_13.n p1_13.c),(.int .i64 p1_14),(.slice p1_15.a p1_15.n p1_15.c),(.int .i64 p1_16),(.slice p1_17.a p1_17.n p1_17.c),(.int .i64 p1_18),(.slice p1_19.a p1_19.n p1_19.c),(.int .i64 p1_20),(.int .i64 p1_21),(.slice p1_22.a p1_22.n p1_22.c),(.slice p1_23.a p1_23.n p1_23.c),(.slice p1_24.a p1_24.n p1_24.c),(.slice p1_25.a p1_25.n p1_25.c),(.slice p1_26.a p1_26.n p1_26.c),(.slice p1_27.a p1_27.n p1_27.c)])]) w by kernel_rfl).mp h)
noncomputable def cert_putAutomaton.ann:Ann where
 loops:=fun | 3=>[(0,.sc (.clo 45 2)),(5,.sc .adr),(19,.sc .sl),(20,.sc (.int .i64)),(21,.sc (.int .i64))] | _=>[]
 joins:=fun | 8=>some [(0,.sc (.clo 45 2)),(5,.sc .adr),(7,.sc .sl),(8,.sc .str),(19,.sc .sl),(20,.sc (.int .i64)),(21,.sc (.int .i64))] | _=>none
noncomputable def cert_putAutomaton.body:Code:=match Tryz.f98.body with | some c=>c | none=>.skip
def cert_putAutomaton.sh (p0_0:Addr) (p0_1:Addr) (p1:ByteArray) (p2_0:Int) (p2_1:Int) (p2_2:Sl) (p2_3:Sl) (R:Ending → World → Prop) (w:World):Prop:=
 New w (.cells #[(.int .i64 p2_0),(.int .i64 p2_1),(.slice p2_2.a p2_2.n p2_2.c),(.slice p2_3.a p2_3.n p2_3.c)] 36) fun b1 w2=>
 LoadT (.sc (.int .i64)) w2 ((Addr.mk b1 0 none).add 0) fun x3=>
 LoadT (.sc (.int .i64)) w2 ((Addr.mk b1 0 none).add 1) fun x4=>
 New w2 (.cells #[(.int .i64 x3),(.int .i64 x4)] 3) fun b5 w6=>
 CallT Tryz.prog 47 #[(.string p1),(.slice (some (Addr.mk b5 0 none)) 2 2)] (.sc .str) w6 (fun r7 w8=>
  CallN Tryz.prog 45 #[(.string r7),(.pointer (some p0_0)),(.pointer (some p0_1))] [] w8 (fun r10 w11=>
   LoadT (.sc .sl) w11 ((Addr.mk b1 0 none).add 3) fun x13=>
   LoopT (σ:=(Addr × Addr × Unit) × Addr × Sl × Int × Int × Unit) ((p0_0,p0_1,()),(Addr.mk b1 0 none),x13,((x13.n:Nat):Int),0,()) w11 fun l14 g15 w16 I17=>
    Br (decide ((l14.2.2.2.2.1:Int) < l14.2.2.2.1))
     (Idx l14.2.2.1.a l14.2.2.1.n 1 l14.2.2.2.2.1 fun a18=>
     LoadT (.sc .sl) w16 a18 fun x19=>
     Join (σ:=(Addr × Addr × Unit) × Addr × Sl × ByteArray × Sl × Int × Int × Unit) (fun j22 g21 w26=>
      CallT Tryz.prog 47 #[(.string j22.2.2.2.1),(.slice j22.2.2.1.a j22.2.2.1.n j22.2.2.1.c)] (.sc .str) w26 (fun r27 w28=>
       CallN Tryz.prog 45 #[(.string r27),(.pointer (some j22.1.1)),(.pointer (some j22.1.2.1))] [] w28 (fun r30 w31=>
        I17 ((j22.1.1,j22.1.2.1,()),j22.2.1,j22.2.2.2.2.1,j22.2.2.2.2.2.1,(IntKind.wrap .i64 (j22.2.2.2.2.2.2.1 + 1)),()) w31) (fun h32 w31=>R (.panicked h32) w31)) (fun h29 w28=>R (.panicked h29) w28)) fun J20=>
      LoadT (.sc .sl) w16 (l14.2.1.add 2) fun x23=>
      Idx x23.a x23.n 1 l14.2.2.2.2.1 fun a24=>
      LoadT (.sc .bool) w16 a24 fun x25=>
      Br x25
       (J20 ((l14.1.1,l14.1.2.1,()),l14.2.1,x19,(ByteArray.mk #[115,116,97,116,101,32,97]),l14.2.2.1,l14.2.2.2.1,l14.2.2.2.2.1,()) w16)
       (J20 ((l14.1.1,l14.1.2.1,()),l14.2.1,x19,(ByteArray.mk #[115,116,97,116,101,32,114]),l14.2.2.1,l14.2.2.2.1,l14.2.2.2.2.1,()) w16))
     (R (.returned (.tuple #[])) w16)) (fun h12 w11=>R (.panicked h12) w11)) (fun h9 w8=>R (.panicked h9) w8)
theorem cert_putAutomaton.calls (p0_0:Addr) (p0_1:Addr) (p1:ByteArray) (p2_0:Int) (p2_1:Int) (p2_2:Sl) (p2_3:Sl) {R:Ending → World → Prop} {w:World} (h:cert_putAutomaton.sh p0_0 p0_1 p1 p2_0 p2_1 p2_2 p2_3 R w):Calls Tryz.prog 98 #[(.func (.func 45) #[] #[(.pointer (some p0_0)),(.pointer (some p0_1))]),(.string p1),(.agg #[(.int .i64 p2_0),(.int .i64 p2_1),(.slice p2_2.a p2_2.n p2_2.c),(.slice p2_3.a p2_3.n p2_3.c)])] w R:=calls_of_wpc mixed Tryz.func98 (by kernel_rfl) (by kernel_rfl) ((show _ = wpc Tryz.prog cert_putAutomaton.ann cert_putAutomaton.body (fnKs Tryz.prog Tryz.f98 R) [] (env0 #[(.func (.func 45) #[] #[(.pointer (some p0_0)),(.pointer (some p0_1))]),(.string p1),(.agg #[(.int .i64 p2_0),(.int .i64 p2_1),(.slice p2_2.a p2_2.n p2_2.c),(.slice p2_3.a p2_3.n p2_3.c)])]) w by kernel_rfl).mp h)
noncomputable def cert_putStructure.ann:Ann where
 loops:=fun | 3=>[(0,.sc (.clo 45 2)),(3,.sc .adr),(17,.sc .sl),(18,.sc (.int .i64)),(19,.sc (.int .i64))] | 8=>[(0,.sc (.clo 45 2)),(3,.sc .adr),(28,.sc .sl),(29,.sc (.int .i64)),(30,.sc (.int .i64))] | 13=>[(0,.sc (.clo 45 2)),(3,.sc .adr),(41,.sc .sl),(42,.sc (.int .i64)),(43,.sc (.int .i64))] | 19=>[(0,.sc (.clo 45 2)),(65,.sc .sl),(66,.sc (.int .i64)),(67,.sc (.int .i64))] | _=>[]
 joins:=fun | _=>none
noncomputable def cert_putStructure.body:Code:=match Tryz.f50.body with | some c=>c | none=>.skip
def cert_putStructure.sh (p0_0:Addr) (p0_1:Addr) (p1_0:Int) (p1_1:Sl) (p1_2:Int) (p1_3:Int) (p1_4:Sl) (p1_5:Sl) (p1_6:Sl) (p1_7:Sl) (p1_8:Sl) (p1_9:Sl) (R:Ending → World → Prop) (w:World):Prop:=
 New w (.cells #[(.int .i64 p1_0),(.slice p1_1.a p1_1.n p1_1.c),(.int .i64 p1_2),(.int .i64 p1_3),(.slice p1_4.a p1_4.n p1_4.c),(.slice p1_5.a p1_5.n p1_5.c),(.slice p1_6.a p1_6.n p1_6.c),(.slice p1_7.a p1_7.n p1_7.c),(.slice p1_8.a p1_8.n p1_8.c),(.slice p1_9.a p1_9.n p1_9.c)] 41) fun b1 w2=>
 LoadT (.agg [.int .i64,.int .i64,.sl,.sl]) w2 ((Addr.mk b1 0 none).add 2) fun x3=>
 CallN Tryz.prog 98 #[(.func (.func 45) #[] #[(.pointer (some p0_0)),(.pointer (some p0_1))]),(.string (ByteArray.mk #[97,99,99,101,112,116])),(.agg #[(.int .i64 x3.1),(.int .i64 x3.2.1),(.slice x3.2.2.1.a x3.2.2.1.n x3.2.2.1.c),(.slice x3.2.2.2.1.a x3.2.2.2.1.n x3.2.2.2.1.c)])] [] w2 (fun r4 w5=>
  LoadT (.sc .sl) w5 ((Addr.mk b1 0 none).add 6) fun x7=>
  LoopT (σ:=(Addr × Addr × Unit) × Addr × Sl × Int × Int × Unit) ((p0_0,p0_1,()),(Addr.mk b1 0 none),x7,((x7.n:Nat):Int),0,()) w5 fun l8 g9 w10 I11=>
   Br (decide ((l8.2.2.2.2.1:Int) < l8.2.2.2.1))
    (Idx l8.2.2.1.a l8.2.2.1.n 4 l8.2.2.2.2.1 fun a12=>
    LoadT (.agg [.int .i64,.int .i64,.sl,.sl]) w10 a12 fun x13=>
    New w10 (.cells #[(.int .i64 0),(.int .i64 0),(.slice none 0 0),(.slice none 0 0)] 36) fun b14 w15=>
    StoreN w15 (Addr.mk b14 0 none) [(.int .i64 x13.1),(.int .i64 x13.2.1),(.slice x13.2.2.1.a x13.2.2.1.n x13.2.2.1.c),(.slice x13.2.2.2.1.a x13.2.2.2.1.n x13.2.2.2.1.c)] fun w16=>
    LoadT (.agg [.int .i64,.int .i64,.sl,.sl]) w16 (Addr.mk b14 0 none) fun x17=>
    CallN Tryz.prog 98 #[(.func (.func 45) #[] #[(.pointer (some l8.1.1)),(.pointer (some l8.1.2.1))]),(.string (ByteArray.mk #[109,117,108,116])),(.agg #[(.int .i64 x17.1),(.int .i64 x17.2.1),(.slice x17.2.2.1.a x17.2.2.1.n x17.2.2.1.c),(.slice x17.2.2.2.1.a x17.2.2.2.1.n x17.2.2.2.1.c)])] [] w16 (fun r18 w19=>
     I11 ((l8.1.1,l8.1.2.1,()),l8.2.1,l8.2.2.1,l8.2.2.2.1,(IntKind.wrap .i64 (l8.2.2.2.2.1 + 1)),()) w19) (fun h20 w19=>R (.panicked h20) w19))
    (LoadT (.sc .sl) w10 (l8.2.1.add 7) fun x21=>
    LoopT (σ:=(Addr × Addr × Unit) × Addr × Sl × Int × Int × Unit) ((l8.1.1,l8.1.2.1,()),l8.2.1,x21,((x21.n:Nat):Int),0,()) w10 fun l22 g23 w24 I25=>
     Br (decide ((l22.2.2.2.2.1:Int) < l22.2.2.2.1))
      (Idx l22.2.2.1.a l22.2.2.1.n 1 l22.2.2.2.2.1 fun a26=>
      LoadT (.sc .str) w24 a26 fun x27=>
      CallT Tryz.prog 99 #[(.string x27)] (.sc .str) w24 (fun r28 w29=>
       ((((ByteArray.mk #[100,105,102,102,32]).size + r28.size:Nat):Int) ≤ 9223372036854775807) ∧
       CallN Tryz.prog 45 #[(.string ((ByteArray.mk #[100,105,102,102,32]) ++ r28)),(.pointer (some l22.1.1)),(.pointer (some l22.1.2.1))] [] w29 (fun r31 w32=>
        I25 ((l22.1.1,l22.1.2.1,()),l22.2.1,l22.2.2.1,l22.2.2.2.1,(IntKind.wrap .i64 (l22.2.2.2.2.1 + 1)),()) w32) (fun h33 w32=>R (.panicked h33) w32)) (fun h30 w29=>R (.panicked h30) w29))
      (LoadT (.sc .sl) w24 (l22.2.1.add 8) fun x34=>
      LoopT (σ:=(Addr × Addr × Unit) × Addr × Sl × Int × Int × Unit) ((l22.1.1,l22.1.2.1,()),l22.2.1,x34,((x34.n:Nat):Int),0,()) w24 fun l35 g36 w37 I38=>
       Br (decide ((l35.2.2.2.2.1:Int) < l35.2.2.2.1))
        (Idx l35.2.2.1.a l35.2.2.1.n 5 l35.2.2.2.2.1 fun a39=>
        LoadT (.agg [.int .i64,.int .i64,.int .i64,.int .i64,.sl]) w37 a39 fun x40=>
        New w37 (.cells #[(.int .i64 0),(.int .i64 0),(.int .i64 0),(.int .i64 0),(.slice none 0 0)] 56) fun b41 w42=>
        StoreN w42 (Addr.mk b41 0 none) [(.int .i64 x40.1),(.int .i64 x40.2.1),(.int .i64 x40.2.2.1),(.int .i64 x40.2.2.2.1),(.slice x40.2.2.2.2.1.a x40.2.2.2.2.1.n x40.2.2.2.2.1.c)] fun w43=>
        LoadT (.sc (.int .i64)) w43 ((Addr.mk b41 0 none).add 0) fun x44=>
        LoadT (.sc (.int .i64)) w43 ((Addr.mk b41 0 none).add 1) fun x45=>
        LoadT (.sc (.int .i64)) w43 ((Addr.mk b41 0 none).add 2) fun x46=>
        LoadT (.sc (.int .i64)) w43 ((Addr.mk b41 0 none).add 3) fun x47=>
        New w43 (.cells #[(.int .i64 x44),(.int .i64 x45),(.int .i64 x46),(.int .i64 x47)] 3) fun b48 w49=>
        CallT Tryz.prog 47 #[(.string (ByteArray.mk #[115,116,101,112])),(.slice (some (Addr.mk b48 0 none)) 4 4)] (.sc .str) w49 (fun r50 w51=>
         CallN Tryz.prog 45 #[(.string r50),(.pointer (some l35.1.1)),(.pointer (some l35.1.2.1))] [] w51 (fun r53 w54=>
          LoadT (.sc .sl) w54 ((Addr.mk b41 0 none).add 4) fun x56=>
          CallN Tryz.prog 48 #[(.func (.func 45) #[] #[(.pointer (some l35.1.1)),(.pointer (some l35.1.2.1))]),(.string (ByteArray.mk #[112,114,111,111,102])),(.slice x56.a x56.n x56.c)] [] w54 (fun r57 w58=>
           I38 ((l35.1.1,l35.1.2.1,()),l35.2.1,l35.2.2.1,l35.2.2.2.1,(IntKind.wrap .i64 (l35.2.2.2.2.1 + 1)),()) w58) (fun h59 w58=>R (.panicked h59) w58)) (fun h55 w54=>R (.panicked h55) w54)) (fun h52 w51=>R (.panicked h52) w51))
        (LoadT (.sc .sl) w37 (l35.2.1.add 9) fun x60=>
        LoopT (σ:=(Addr × Addr × Unit) × Sl × Int × Int × Unit) ((l35.1.1,l35.1.2.1,()),x60,((x60.n:Nat):Int),0,()) w37 fun l61 g62 w63 I64=>
         Br (decide ((l61.2.2.2.1:Int) < l61.2.2.1))
          (Idx l61.2.1.a l61.2.1.n 3 l61.2.2.2.1 fun a65=>
          LoadT (.agg [.int .i64,.int .i64,.sl]) w63 a65 fun x66=>
          New w63 (.cells #[(.int .i64 0),(.int .i64 0),(.slice none 0 0)] 58) fun b67 w68=>
          StoreN w68 (Addr.mk b67 0 none) [(.int .i64 x66.1),(.int .i64 x66.2.1),(.slice x66.2.2.1.a x66.2.2.1.n x66.2.2.1.c)] fun w69=>
          LoadT (.sc (.int .i64)) w69 ((Addr.mk b67 0 none).add 0) fun x70=>
          LoadT (.sc (.int .i64)) w69 ((Addr.mk b67 0 none).add 1) fun x71=>
          New w69 (.cells #[(.int .i64 x70),(.int .i64 x71)] 3) fun b72 w73=>
          CallT Tryz.prog 47 #[(.string (ByteArray.mk #[101,110,100])),(.slice (some (Addr.mk b72 0 none)) 2 2)] (.sc .str) w73 (fun r74 w75=>
           CallN Tryz.prog 45 #[(.string r74),(.pointer (some l61.1.1)),(.pointer (some l61.1.2.1))] [] w75 (fun r77 w78=>
            LoadT (.sc .sl) w78 ((Addr.mk b67 0 none).add 2) fun x80=>
            CallN Tryz.prog 48 #[(.func (.func 45) #[] #[(.pointer (some l61.1.1)),(.pointer (some l61.1.2.1))]),(.string (ByteArray.mk #[112,114,111,111,102])),(.slice x80.a x80.n x80.c)] [] w78 (fun r81 w82=>
             I64 ((l61.1.1,l61.1.2.1,()),l61.2.1,l61.2.2.1,(IntKind.wrap .i64 (l61.2.2.2.1 + 1)),()) w82) (fun h83 w82=>R (.panicked h83) w82)) (fun h79 w78=>R (.panicked h79) w78)) (fun h76 w75=>R (.panicked h76) w75))
          (R (.returned (.tuple #[])) w63))))) (fun h6 w5=>R (.panicked h6) w5)
theorem cert_putStructure.calls (p0_0:Addr) (p0_1:Addr) (p1_0:Int) (p1_1:Sl) (p1_2:Int) (p1_3:Int) (p1_4:Sl) (p1_5:Sl) (p1_6:Sl) (p1_7:Sl) (p1_8:Sl) (p1_9:Sl) {R:Ending → World → Prop} {w:World} (h:cert_putStructure.sh p0_0 p0_1 p1_0 p1_1 p1_2 p1_3 p1_4 p1_5 p1_6 p1_7 p1_8 p1_9 R w):Calls Tryz.prog 50 #[(.func (.func 45) #[] #[(.pointer (some p0_0)),(.pointer (some p0_1))]),(.agg #[(.int .i64 p1_0),(.slice p1_1.a p1_1.n p1_1.c),(.int .i64 p1_2),(.int .i64 p1_3),(.slice p1_4.a p1_4.n p1_4.c),(.slice p1_5.a p1_5.n p1_5.c),(.slice p1_6.a p1_6.n p1_6.c),(.slice p1_7.a p1_7.n p1_7.c),(.slice p1_8.a p1_8.n p1_8.c),(.slice p1_9.a p1_9.n p1_9.c)])] w R:=calls_of_wpc mixed Tryz.func50 (by kernel_rfl) (by kernel_rfl) ((show _ = wpc Tryz.prog cert_putStructure.ann cert_putStructure.body (fnKs Tryz.prog Tryz.f50 R) [] (env0 #[(.func (.func 45) #[] #[(.pointer (some p0_0)),(.pointer (some p0_1))]),(.agg #[(.int .i64 p1_0),(.slice p1_1.a p1_1.n p1_1.c),(.int .i64 p1_2),(.int .i64 p1_3),(.slice p1_4.a p1_4.n p1_4.c),(.slice p1_5.a p1_5.n p1_5.c),(.slice p1_6.a p1_6.n p1_6.c),(.slice p1_7.a p1_7.n p1_7.c),(.slice p1_8.a p1_8.n p1_8.c),(.slice p1_9.a p1_9.n p1_9.c)])]) w by kernel_rfl).mp h)
noncomputable def cert_lines.ann:Ann where
 loops:=fun | _=>[]
 joins:=fun | _=>none
noncomputable def cert_lines.body:Code:=match Tryz.f16.body with | some c=>c | none=>.skip
def cert_lines.sh (p0_0:Int) (p0_1:Int) (p0_2:Sl) (p0_3:ByteArray) (p0_4:ByteArray) (p0_5:Int) (p0_6:Sl) (p0_7:ByteArray) (p0_8:Sl) (p0_9:Int) (p0_10:Int) (p0_11:Sl) (p0_12:Sl) (p0_13:Sl) (p0_14:Int) (p0_15:Sl) (p0_16:Int) (p0_17:Sl) (p0_18:Int) (p0_19:Sl) (p0_20:Int) (p0_21:Int) (p0_22:Sl) (p0_23:Sl) (p0_24:Sl) (p0_25:Sl) (p0_26:Sl) (p0_27:Sl) (R:Ending → World → Prop) (w:World):Prop:=
 New w (.cells #[(.int .i64 p0_0),(.int .i64 p0_1),(.slice p0_2.a p0_2.n p0_2.c),(.string p0_3),(.string p0_4),(.int .i64 p0_5),(.slice p0_6.a p0_6.n p0_6.c),(.string p0_7),(.slice p0_8.a p0_8.n p0_8.c),(.int .i64 p0_9),(.int .i64 p0_10),(.slice p0_11.a p0_11.n p0_11.c),(.slice p0_12.a p0_12.n p0_12.c),(.slice p0_13.a p0_13.n p0_13.c),(.int .i64 p0_14),(.slice p0_15.a p0_15.n p0_15.c),(.int .i64 p0_16),(.slice p0_17.a p0_17.n p0_17.c),(.int .i64 p0_18),(.slice p0_19.a p0_19.n p0_19.c),(.int .i64 p0_20),(.int .i64 p0_21),(.slice p0_22.a p0_22.n p0_22.c),(.slice p0_23.a p0_23.n p0_23.c),(.slice p0_24.a p0_24.n p0_24.c),(.slice p0_25.a p0_25.n p0_25.c),(.slice p0_26.a p0_26.n p0_26.c),(.slice p0_27.a p0_27.n p0_27.c)] 43) fun b1 w2=>
 R (.returned (.func (.func 44) #[] #[(.pointer (some (Addr.mk b1 0 none)))])) w2
theorem cert_lines.calls (p0_0:Int) (p0_1:Int) (p0_2:Sl) (p0_3:ByteArray) (p0_4:ByteArray) (p0_5:Int) (p0_6:Sl) (p0_7:ByteArray) (p0_8:Sl) (p0_9:Int) (p0_10:Int) (p0_11:Sl) (p0_12:Sl) (p0_13:Sl) (p0_14:Int) (p0_15:Sl) (p0_16:Int) (p0_17:Sl) (p0_18:Int) (p0_19:Sl) (p0_20:Int) (p0_21:Int) (p0_22:Sl) (p0_23:Sl) (p0_24:Sl) (p0_25:Sl) (p0_26:Sl) (p0_27:Sl) {R:Ending → World → Prop} {w:World} (h:cert_lines.sh p0_0 p0_1 p0_2 p0_3 p0_4 p0_5 p0_6 p0_7 p0_8 p0_9 p0_10 p0_11 p0_12 p0_13 p0_14 p0_15 p0_16 p0_17 p0_18 p0_19 p0_20 p0_21 p0_22 p0_23 p0_24 p0_25 p0_26 p0_27 R w):Calls Tryz.prog 16 #[(.agg #[(.int .i64 p0_0),(.int .i64 p0_1),(.slice p0_2.a p0_2.n p0_2.c),(.string p0_3),(.string p0_4),(.int .i64 p0_5),(.slice p0_6.a p0_6.n p0_6.c),(.string p0_7),(.slice p0_8.a p0_8.n p0_8.c),(.int .i64 p0_9),(.int .i64 p0_10),(.slice p0_11.a p0_11.n p0_11.c),(.slice p0_12.a p0_12.n p0_12.c),(.slice p0_13.a p0_13.n p0_13.c),(.int .i64 p0_14),(.slice p0_15.a p0_15.n p0_15.c),(.int .i64 p0_16),(.slice p0_17.a p0_17.n p0_17.c),(.int .i64 p0_18),(.slice p0_19.a p0_19.n p0_19.c),(.int .i64 p0_20),(.int .i64 p0_21),(.slice p0_22.a p0_22.n p0_22.c),(.slice p0_23.a p0_23.n p0_23.c),(.slice p0_24.a p0_24.n p0_24.c),(.slice p0_25.a p0_25.n p0_25.c),(.slice p0_26.a p0_26.n p0_26.c),(.slice p0_27.a p0_27.n p0_27.c)])] w R:=calls_of_wpc mixed Tryz.func16 (by kernel_rfl) (by kernel_rfl) ((show _ = wpc Tryz.prog cert_lines.ann cert_lines.body (fnKs Tryz.prog Tryz.f16 R) [] (env0 #[(.agg #[(.int .i64 p0_0),(.int .i64 p0_1),(.slice p0_2.a p0_2.n p0_2.c),(.string p0_3),(.string p0_4),(.int .i64 p0_5),(.slice p0_6.a p0_6.n p0_6.c),(.string p0_7),(.slice p0_8.a p0_8.n p0_8.c),(.int .i64 p0_9),(.int .i64 p0_10),(.slice p0_11.a p0_11.n p0_11.c),(.slice p0_12.a p0_12.n p0_12.c),(.slice p0_13.a p0_13.n p0_13.c),(.int .i64 p0_14),(.slice p0_15.a p0_15.n p0_15.c),(.int .i64 p0_16),(.slice p0_17.a p0_17.n p0_17.c),(.int .i64 p0_18),(.slice p0_19.a p0_19.n p0_19.c),(.int .i64 p0_20),(.int .i64 p0_21),(.slice p0_22.a p0_22.n p0_22.c),(.slice p0_23.a p0_23.n p0_23.c),(.slice p0_24.a p0_24.n p0_24.c),(.slice p0_25.a p0_25.n p0_25.c),(.slice p0_26.a p0_26.n p0_26.c),(.slice p0_27.a p0_27.n p0_27.c)])]) w by kernel_rfl).mp h)
noncomputable def cert_lines_c1.ann:Ann where
 loops:=fun | 6=>[(1,.sc .adr),(4,.sc (.clo 45 2)),(27,.sc .sl),(28,.sc (.int .i64)),(29,.sc (.int .i64))] | 21=>[(1,.sc .adr),(4,.sc (.clo 45 2)),(84,.sc .sl),(85,.sc (.int .i64)),(86,.sc (.int .i64))] | _=>[]
 joins:=fun | 12=>some [(1,.sc .adr),(4,.sc (.clo 45 2))] | 14=>some [(1,.sc .adr),(4,.sc (.clo 45 2))] | 16=>some [(1,.sc .adr),(4,.sc (.clo 45 2))] | 25=>some [(1,.sc .adr),(4,.sc (.clo 45 2))] | _=>none
noncomputable def cert_lines_c1.body:Code:=match Tryz.f44.body with | some c=>c | none=>.skip
def cert_lines_c1.sh (p0:Nat) (q0:Addr) (R:Ending → World → Prop) (w:World):Prop:=
 New w (.cells #[(.func (.yield p0) #[] #[])] 52) fun b1 w2=>
 New w2 (.cells #[(.bool false)] 4) fun b3 w4=>
 Store1 w4 (Addr.mk b3 0 none) (.bool true) fun w5=>
 ∃ S6:World → Prop,S6 w5.drew ∧
 (LoadS S6 (.sc (.int .i64)) (q0.add 0) fun x7=>
 CallT Tryz.prog 46 #[] (.sc .sl) w5.drew (fun r8 w9=>
   ∃ S11:World → Prop,(∀ w,S11 w → S6 w) ∧ S11 w9 ∧
   (Idx r8.a r8.n 1 x7 fun a12=>
   LoadS S11 (.sc .str) a12 fun x13=>
   ((((ByteArray.mk #[99,108,97,105,109,32]).size + x13.size:Nat):Int) ≤ 9223372036854775807) ∧
   CallN Tryz.prog 45 #[(.string ((ByteArray.mk #[99,108,97,105,109,32]) ++ x13)),(.pointer (some (Addr.mk b3 0 none))),(.pointer (some (Addr.mk b1 0 none)))] [] w9 (fun r14 w15=>
     LoadT (.sc (.int .i64)) w15 ((q0.add 1).add 0) fun x17=>
     New w15 (.cells #[(.int .i64 x17)] 3) fun b18 w19=>
     CallT Tryz.prog 47 #[(.string (ByteArray.mk #[103,101,110,115])),(.slice (some (Addr.mk b18 0 none)) 1 1)] (.sc .str) w19 (fun r20 w21=>
      CallN Tryz.prog 45 #[(.string r20),(.pointer (some (Addr.mk b3 0 none))),(.pointer (some (Addr.mk b1 0 none)))] [] w21 (fun r23 w24=>
       LoadT (.sc .sl) w24 ((q0.add 1).add 1) fun x26=>
       LoopT (σ:=Addr × (Addr × Addr × Unit) × Sl × Int × Int × Unit) (q0,((Addr.mk b3 0 none),(Addr.mk b1 0 none),()),x26,((x26.n:Nat):Int),0,()) w24 fun l27 g28 w29 I30=>
        Br (decide ((l27.2.2.2.2.1:Int) < l27.2.2.2.1))
         (Idx l27.2.2.1.a l27.2.2.1.n 1 l27.2.2.2.2.1 fun a31=>
         LoadT (.sc .str) w29 a31 fun x32=>
         ((((ByteArray.mk #[114,101,108,32]).size + x32.size:Nat):Int) ≤ 9223372036854775807) ∧
         CallN Tryz.prog 45 #[(.string ((ByteArray.mk #[114,101,108,32]) ++ x32)),(.pointer (some l27.2.1.1)),(.pointer (some l27.2.1.2.1))] [] w29 (fun r33 w34=>
          I30 (l27.1,(l27.2.1.1,l27.2.1.2.1,()),l27.2.2.1,l27.2.2.2.1,(IntKind.wrap .i64 (l27.2.2.2.2.1 + 1)),()) w34) (fun h35 w34=>R (.panicked h35) w34))
         (Join (σ:=Addr × (Addr × Addr × Unit) × Unit) (fun j38 g37 w44=>
          Join (σ:=Addr × (Addr × Addr × Unit) × Unit) (fun j47 g46 w53=>
           Join (σ:=Addr × (Addr × Addr × Unit) × Unit) (fun j56 g55 w67=>
            LoadT (.sc .sl) w67 (j56.1.add 6) fun x68=>
            CallN Tryz.prog 48 #[(.func (.func 45) #[] #[(.pointer (some j56.2.1.1)),(.pointer (some j56.2.1.2.1))]),(.string (ByteArray.mk #[99,101,108,108])),(.slice x68.a x68.n x68.c)] [] w67 (fun r69 w70=>
             LoadT (.agg [.int .i64,.int .i64,.sl,.str,.str,.int .i64,.sl,.str,.sl,.int .i64,.int .i64,.sl,.sl,.sl,.int .i64,.sl,.int .i64,.sl,.int .i64,.sl,.int .i64,.int .i64,.sl,.sl,.sl,.sl,.sl,.sl]) w70 j56.1 fun x72=>
             CallN Tryz.prog 49 #[(.func (.func 45) #[] #[(.pointer (some j56.2.1.1)),(.pointer (some j56.2.1.2.1))]),(.agg #[(.int .i64 x72.1),(.int .i64 x72.2.1),(.slice x72.2.2.1.a x72.2.2.1.n x72.2.2.1.c),(.string x72.2.2.2.1),(.string x72.2.2.2.2.1),(.int .i64 x72.2.2.2.2.2.1),(.slice x72.2.2.2.2.2.2.1.a x72.2.2.2.2.2.2.1.n x72.2.2.2.2.2.2.1.c),(.string x72.2.2.2.2.2.2.2.1),(.slice x72.2.2.2.2.2.2.2.2.1.a x72.2.2.2.2.2.2.2.2.1.n x72.2.2.2.2.2.2.2.2.1.c),(.int .i64 x72.2.2.2.2.2.2.2.2.2.1),(.int .i64 x72.2.2.2.2.2.2.2.2.2.2.1),(.slice x72.2.2.2.2.2.2.2.2.2.2.2.1.a x72.2.2.2.2.2.2.2.2.2.2.2.1.n x72.2.2.2.2.2.2.2.2.2.2.2.1.c),(.slice x72.2.2.2.2.2.2.2.2.2.2.2.2.1.a x72.2.2.2.2.2.2.2.2.2.2.2.2.1.n x72.2.2.2.2.2.2.2.2.2.2.2.2.1.c),(.slice x72.2.2.2.2.2.2.2.2.2.2.2.2.2.1.a x72.2.2.2.2.2.2.2.2.2.2.2.2.2.1.n x72.2.2.2.2.2.2.2.2.2.2.2.2.2.1.c),(.int .i64 x72.2.2.2.2.2.2.2.2.2.2.2.2.2.2.1),(.slice x72.2.2.2.2.2.2.2.2.2.2.2.2.2.2.2.1.a x72.2.2.2.2.2.2.2.2.2.2.2.2.2.2.2.1.n x72.2.2.2.2.2.2.2.2.2.2.2.2.2.2.2.1.c),(.int .i64 x72.2.2.2.2.2.2.2.2.2.2.2.2.2.2.2.2.1),(.slice x72.2.2.2.2.2.2.2.2.2.2.2.2.2.2.2.2.2.1.a x72.2.2.2.2.2.2.2.2.2.2.2.2.2.2.2.2.2.1.n x72.2.2.2.2.2.2.2.2.2.2.2.2.2.2.2.2.2.1.c),(.int .i64 x72.2.2.2.2.2.2.2.2.2.2.2.2.2.2.2.2.2.2.1),(.slice x72.2.2.2.2.2.2.2.2.2.2.2.2.2.2.2.2.2.2.2.1.a x72.2.2.2.2.2.2.2.2.2.2.2.2.2.2.2.2.2.2.2.1.n x72.2.2.2.2.2.2.2.2.2.2.2.2.2.2.2.2.2.2.2.1.c),(.int .i64 x72.2.2.2.2.2.2.2.2.2.2.2.2.2.2.2.2.2.2.2.2.1),(.int .i64 x72.2.2.2.2.2.2.2.2.2.2.2.2.2.2.2.2.2.2.2.2.2.1),(.slice x72.2.2.2.2.2.2.2.2.2.2.2.2.2.2.2.2.2.2.2.2.2.2.1.a x72.2.2.2.2.2.2.2.2.2.2.2.2.2.2.2.2.2.2.2.2.2.2.1.n x72.2.2.2.2.2.2.2.2.2.2.2.2.2.2.2.2.2.2.2.2.2.2.1.c),(.slice x72.2.2.2.2.2.2.2.2.2.2.2.2.2.2.2.2.2.2.2.2.2.2.2.1.a x72.2.2.2.2.2.2.2.2.2.2.2.2.2.2.2.2.2.2.2.2.2.2.2.1.n x72.2.2.2.2.2.2.2.2.2.2.2.2.2.2.2.2.2.2.2.2.2.2.2.1.c),(.slice x72.2.2.2.2.2.2.2.2.2.2.2.2.2.2.2.2.2.2.2.2.2.2.2.2.1.a x72.2.2.2.2.2.2.2.2.2.2.2.2.2.2.2.2.2.2.2.2.2.2.2.2.1.n x72.2.2.2.2.2.2.2.2.2.2.2.2.2.2.2.2.2.2.2.2.2.2.2.2.1.c),(.slice x72.2.2.2.2.2.2.2.2.2.2.2.2.2.2.2.2.2.2.2.2.2.2.2.2.2.1.a x72.2.2.2.2.2.2.2.2.2.2.2.2.2.2.2.2.2.2.2.2.2.2.2.2.2.1.n x72.2.2.2.2.2.2.2.2.2.2.2.2.2.2.2.2.2.2.2.2.2.2.2.2.2.1.c),(.slice x72.2.2.2.2.2.2.2.2.2.2.2.2.2.2.2.2.2.2.2.2.2.2.2.2.2.2.1.a x72.2.2.2.2.2.2.2.2.2.2.2.2.2.2.2.2.2.2.2.2.2.2.2.2.2.2.1.n x72.2.2.2.2.2.2.2.2.2.2.2.2.2.2.2.2.2.2.2.2.2.2.2.2.2.2.1.c),(.slice x72.2.2.2.2.2.2.2.2.2.2.2.2.2.2.2.2.2.2.2.2.2.2.2.2.2.2.2.1.a x72.2.2.2.2.2.2.2.2.2.2.2.2.2.2.2.2.2.2.2.2.2.2.2.2.2.2.2.1.n x72.2.2.2.2.2.2.2.2.2.2.2.2.2.2.2.2.2.2.2.2.2.2.2.2.2.2.2.1.c)])] [] w70 (fun r73 w74=>
              Join (σ:=Addr × (Addr × Addr × Unit) × Unit) (fun j78 g77 w105=>
               LoadT (.agg [.int .i64,.sl,.int .i64,.int .i64,.sl,.sl,.sl,.sl,.sl,.sl]) w105 (j78.1.add 18) fun x106=>
               CallT Tryz.prog 29 #[(.agg #[(.int .i64 x106.1),(.slice x106.2.1.a x106.2.1.n x106.2.1.c),(.int .i64 x106.2.2.1),(.int .i64 x106.2.2.2.1),(.slice x106.2.2.2.2.1.a x106.2.2.2.2.1.n x106.2.2.2.2.1.c),(.slice x106.2.2.2.2.2.1.a x106.2.2.2.2.2.1.n x106.2.2.2.2.2.1.c),(.slice x106.2.2.2.2.2.2.1.a x106.2.2.2.2.2.2.1.n x106.2.2.2.2.2.2.1.c),(.slice x106.2.2.2.2.2.2.2.1.a x106.2.2.2.2.2.2.2.1.n x106.2.2.2.2.2.2.2.1.c),(.slice x106.2.2.2.2.2.2.2.2.1.a x106.2.2.2.2.2.2.2.2.1.n x106.2.2.2.2.2.2.2.2.1.c),(.slice x106.2.2.2.2.2.2.2.2.2.1.a x106.2.2.2.2.2.2.2.2.2.1.n x106.2.2.2.2.2.2.2.2.2.1.c)]),(.agg #[(.int .i64 0),(.slice none 0 0),(.int .i64 0),(.int .i64 0),(.slice none 0 0),(.slice none 0 0),(.slice none 0 0),(.slice none 0 0),(.slice none 0 0),(.slice none 0 0)])] (.sc .bool) w105 (fun r107 w108=>
                Br (!r107)
                 (LoadT (.agg [.int .i64,.sl,.int .i64,.int .i64,.sl,.sl,.sl,.sl,.sl,.sl]) w108 (j78.1.add 18) fun x110=>
                 CallN Tryz.prog 50 #[(.func (.func 45) #[] #[(.pointer (some j78.2.1.1)),(.pointer (some j78.2.1.2.1))]),(.agg #[(.int .i64 x110.1),(.slice x110.2.1.a x110.2.1.n x110.2.1.c),(.int .i64 x110.2.2.1),(.int .i64 x110.2.2.2.1),(.slice x110.2.2.2.2.1.a x110.2.2.2.2.1.n x110.2.2.2.2.1.c),(.slice x110.2.2.2.2.2.1.a x110.2.2.2.2.2.1.n x110.2.2.2.2.2.1.c),(.slice x110.2.2.2.2.2.2.1.a x110.2.2.2.2.2.2.1.n x110.2.2.2.2.2.2.1.c),(.slice x110.2.2.2.2.2.2.2.1.a x110.2.2.2.2.2.2.2.1.n x110.2.2.2.2.2.2.2.1.c),(.slice x110.2.2.2.2.2.2.2.2.1.a x110.2.2.2.2.2.2.2.2.1.n x110.2.2.2.2.2.2.2.2.1.c),(.slice x110.2.2.2.2.2.2.2.2.2.1.a x110.2.2.2.2.2.2.2.2.2.1.n x110.2.2.2.2.2.2.2.2.2.1.c)])] [] w108 (fun r111 w112=>
                  CallN Tryz.prog 45 #[(.string (ByteArray.mk #[100,111,110,101])),(.pointer (some j78.2.1.1)),(.pointer (some j78.2.1.2.1))] [] w112 (fun r114 w115=>
                   R (.returned (.tuple #[])) w115) (fun h116 w115=>R (.panicked h116) w115)) (fun h113 w112=>R (.panicked h113) w112))
                 (CallN Tryz.prog 45 #[(.string (ByteArray.mk #[100,111,110,101])),(.pointer (some j78.2.1.1)),(.pointer (some j78.2.1.2.1))] [] w108 (fun r117 w118=>
                  R (.returned (.tuple #[])) w118) (fun h119 w118=>R (.panicked h119) w118))) (fun h109 w108=>R (.panicked h109) w108)) fun J76=>
               LoadT (.agg [.int .i64,.sl,.int .i64,.sl]) w74 (j56.1.add 14) fun x79=>
               CallT Tryz.prog 28 #[(.agg #[(.int .i64 x79.1),(.slice x79.2.1.a x79.2.1.n x79.2.1.c),(.int .i64 x79.2.2.1),(.slice x79.2.2.2.1.a x79.2.2.2.1.n x79.2.2.2.1.c)]),(.agg #[(.int .i64 0),(.slice none 0 0),(.int .i64 0),(.slice none 0 0)])] (.sc .bool) w74 (fun r80 w81=>
                Br (!r80)
                 (LoadT (.sc (.int .i64)) w81 ((j56.1.add 14).add 2) fun x83=>
                 New w81 (.cells #[(.int .i64 x83)] 3) fun b84 w85=>
                 CallT Tryz.prog 47 #[(.string (ByteArray.mk #[100,101,103,114,101,101])),(.slice (some (Addr.mk b84 0 none)) 1 1)] (.sc .str) w85 (fun r86 w87=>
                  CallN Tryz.prog 45 #[(.string r86),(.pointer (some j56.2.1.1)),(.pointer (some j56.2.1.2.1))] [] w87 (fun r89 w90=>
                   LoadT (.sc .sl) w90 ((j56.1.add 14).add 3) fun x92=>
                   LoopT (σ:=Addr × (Addr × Addr × Unit) × Sl × Int × Int × Unit) (j56.1,(j56.2.1.1,j56.2.1.2.1,()),x92,((x92.n:Nat):Int),0,()) w90 fun l93 g94 w95 I96=>
                    Br (decide ((l93.2.2.2.2.1:Int) < l93.2.2.2.1))
                     (Idx l93.2.2.1.a l93.2.2.1.n 1 l93.2.2.2.2.1 fun a97=>
                     LoadT (.sc .sl) w95 a97 fun x98=>
                     CallT Tryz.prog 47 #[(.string (ByteArray.mk #[112,111,105,110,116])),(.slice x98.a x98.n x98.c)] (.sc .str) w95 (fun r99 w100=>
                      CallN Tryz.prog 45 #[(.string r99),(.pointer (some l93.2.1.1)),(.pointer (some l93.2.1.2.1))] [] w100 (fun r102 w103=>
                       I96 (l93.1,(l93.2.1.1,l93.2.1.2.1,()),l93.2.2.1,l93.2.2.2.1,(IntKind.wrap .i64 (l93.2.2.2.2.1 + 1)),()) w103) (fun h104 w103=>R (.panicked h104) w103)) (fun h101 w100=>R (.panicked h101) w100))
                     (J76 (l93.1,(l93.2.1.1,l93.2.1.2.1,()),()) w95)) (fun h91 w90=>R (.panicked h91) w90)) (fun h88 w87=>R (.panicked h88) w87))
                 (J76 (j56.1,(j56.2.1.1,j56.2.1.2.1,()),()) w81)) (fun h82 w81=>R (.panicked h82) w81)) (fun h75 w74=>R (.panicked h75) w74)) (fun h71 w70=>R (.panicked h71) w70)) fun J54=>
            LoadT (.sc (.int .i64)) w53 (j47.1.add 5) fun x57=>
            Br ((x57:Int) != 0)
             (LoadT (.sc (.int .i64)) w53 (j47.1.add 5) fun x58=>
             New w53 (.cells #[(.int .i64 x58)] 3) fun b59 w60=>
             CallT Tryz.prog 47 #[(.string (ByteArray.mk #[110])),(.slice (some (Addr.mk b59 0 none)) 1 1)] (.sc .str) w60 (fun r61 w62=>
              CallN Tryz.prog 45 #[(.string r61),(.pointer (some j47.2.1.1)),(.pointer (some j47.2.1.2.1))] [] w62 (fun r64 w65=>
               J54 (j47.1,(j47.2.1.1,j47.2.1.2.1,()),()) w65) (fun h66 w65=>R (.panicked h66) w65)) (fun h63 w62=>R (.panicked h63) w62))
             (J54 (j47.1,(j47.2.1.1,j47.2.1.2.1,()),()) w53)) fun J45=>
           LoadT (.sc .str) w44 (j38.1.add 4) fun x48=>
           Br (!(x48.toList == (ByteArray.mk #[]).toList))
            (LoadT (.sc .str) w44 (j38.1.add 4) fun x49=>
            ((((ByteArray.mk #[118,32]).size + x49.size:Nat):Int) ≤ 9223372036854775807) ∧
            CallN Tryz.prog 45 #[(.string ((ByteArray.mk #[118,32]) ++ x49)),(.pointer (some j38.2.1.1)),(.pointer (some j38.2.1.2.1))] [] w44 (fun r50 w51=>
             J45 (j38.1,(j38.2.1.1,j38.2.1.2.1,()),()) w51) (fun h52 w51=>R (.panicked h52) w51))
            (J45 (j38.1,(j38.2.1.1,j38.2.1.2.1,()),()) w44)) fun J36=>
          LoadT (.sc .str) w29 (l27.1.add 3) fun x39=>
          Br (!(x39.toList == (ByteArray.mk #[]).toList))
           (LoadT (.sc .str) w29 (l27.1.add 3) fun x40=>
           ((((ByteArray.mk #[117,32]).size + x40.size:Nat):Int) ≤ 9223372036854775807) ∧
           CallN Tryz.prog 45 #[(.string ((ByteArray.mk #[117,32]) ++ x40)),(.pointer (some l27.2.1.1)),(.pointer (some l27.2.1.2.1))] [] w29 (fun r41 w42=>
            J36 (l27.1,(l27.2.1.1,l27.2.1.2.1,()),()) w42) (fun h43 w42=>R (.panicked h43) w42))
           (J36 (l27.1,(l27.2.1.1,l27.2.1.2.1,()),()) w29))) (fun h25 w24=>R (.panicked h25) w24)) (fun h22 w21=>R (.panicked h22) w21)) (fun h16 w15=>R (.panicked h16) w15))) (fun h10 w9=>R (.panicked h10) w9))
theorem cert_lines_c1.calls (p0:Nat) (q0:Addr) {R:Ending → World → Prop} {w:World} (h:cert_lines_c1.sh p0 q0 R w):Calls Tryz.prog 44 #[(.func (.yield p0) #[] #[]),(.pointer (some q0))] w R:=calls_of_wpc mixed Tryz.func44 (by kernel_rfl) (by kernel_rfl) ((show _ = wpc Tryz.prog cert_lines_c1.ann cert_lines_c1.body (fnKs Tryz.prog Tryz.f44 R) [] (env0 #[(.func (.yield p0) #[] #[]),(.pointer (some q0))]) w by kernel_rfl).mp h)
end Go.Proofs.YtpifnlfmojfgpaaGreatDoor
end
section
set_option maxRecDepth 10000
namespace Go.Proofs.YtpifnlfmojfgpaaGreatDoor
open Fw
noncomputable def cert_lines_c1_c1.ann:Ann where
 loops:=fun | _=>[]
 joins:=fun | _=>none
noncomputable def cert_lines_c1_c1.body:Code:=match Tryz.f45.body with | some c=>c | none=>.skip
def cert_lines_c1_c1.sh (p0:ByteArray) (q0:Addr) (q1:Addr) (R:Ending → World → Prop) (w:World):Prop:=
 LoadT (.sc .bool) w q0 fun x1=>
 Br x1
  (LoadT (.sc .raw) w q1 fun x2=>
  match x2 with
  | .func (.func g3) fi4 ca5=>bif enters Tryz.prog g3 then CallR Tryz.prog 4 g3 ((fi4 ++ #[(.string p0)]) ++ ca5) w (fun v6 w7=>
   Store1 w7 q0 v6 fun w12=>
   R (.returned (.tuple #[])) w12) (fun h8 w7=>R (.panicked h8) w7) else False
  | .func (.yield l9) fi4 ca5=>YieldT Tryz.prog l9 (fi4 ++ #[(.string p0)]) w fun b10 w11=>
   Store1 w11 q0 (.bool b10) fun w13=>
   R (.returned (.tuple #[])) w13
  | _=>False)
  (Store1 w q0 (.bool false) fun w14=>
  R (.returned (.tuple #[])) w14)
theorem cert_lines_c1_c1.calls (p0:ByteArray) (q0:Addr) (q1:Addr) {R:Ending → World → Prop} {w:World} (h:cert_lines_c1_c1.sh p0 q0 q1 R w):Calls Tryz.prog 45 #[(.string p0),(.pointer (some q0)),(.pointer (some q1))] w R:=calls_of_wpc mixed Tryz.func45 (by kernel_rfl) (by kernel_rfl) ((show _ = wpc Tryz.prog cert_lines_c1_c1.ann cert_lines_c1_c1.body (fnKs Tryz.prog Tryz.f45 R) [] (env0 #[(.string p0),(.pointer (some q0)),(.pointer (some q1))]) w by kernel_rfl).mp h)
end Go.Proofs.YtpifnlfmojfgpaaGreatDoor
end
section
set_option maxRecDepth 10000
set_option maxHeartbeats 400000
namespace Go.Proofs.YtpifnlfmojfgpaaGreatDoor.Pk
open Fw Pw Ct
def DrB (B:Nat) (W W':World):Prop:=Chg (fun k=>B ≤ k ∧ ∃ cs fr,W.heap[k]? = some (.cells cs 4 fr)) W W'
def KpB:Obj → Prop:=fun o=>∃ cs t fr,o = .cells cs t fr ∧ t ≠ 63 ∧ t ≠ 5 ∧ t ≠ 9 ∧ t ≠ 45
def KeepN (b:Nat) (W W':World):Prop:=∀ (k:Nat) (o:Obj),k ≠ b → KpB o → W.heap[k]? = some o → W'.heap[k]? = some o
theorem KeepN.nil {b:Nat} {W W':World} (h:Chg Nil W W'):KeepN b W W':=fun k o _ _ hk=>h.heap hk fun h=>h
theorem KeepN.trans {b:Nat} {W W1 W2:World} (h:KeepN b W W1) (k:KeepN b W1 W2):KeepN b W W2:=fun g o hg ho hk=>k g o hg ho (h g o hg ho hk)
theorem kp_of {cs:Array Value} {t:TypeId} {fr:Nat × Nat} (h:(Nat.beq t 63 || Nat.beq t 5 || Nat.beq t 9 || Nat.beq t 45) = false):KpB (.cells cs t fr):=by
 simp only [Bool.or_eq_false_iff] at h
 exact ⟨cs,t,fr,rfl,Nat.ne_of_beq_eq_false h.1.1.1,Nat.ne_of_beq_eq_false h.1.1.2,Nat.ne_of_beq_eq_false h.1.2,Nat.ne_of_beq_eq_false h.2⟩
theorem DrB.keepL {B:Nat} {W W':World} (h:DrB B W W'):KeepL W W':=fun k o hk ho=>by
 refine Chg.heap h hk ?_
 rintro ⟨_,cs,fr,h2⟩
 rw [hk] at h2
 cases h2
 simp [loopish] at ho
theorem DrB.new {B:Nat} {W W':World} (h:Chg Nil W W'):DrB B W W':=h.nil
structure It (l base:Nat) (C:World → Prop) (xs:List Str) (J:Nat → World → Prop) (Jx:World → Prop):Prop where
 cj:∀ i W,J i W → C W
 cx:∀ W,Jx W → C W
 dj:∀ i W W',J i W → DrB base W W' → J i W'
 dx:∀ W W',Jx W → DrB base W W' → Jx W'
 y:∀ (i:Nat) (s:ByteArray) (W:World),xs[i]? = some s.data.toList → J i W → YieldT Tryz.prog l #[.string s] W fun b W'=>KeepO KpB W W' ∧ ((b = true ∧ J (i + 1) W') ∨ (b = false ∧ Jx W'))
def PS (l b1 b3:Nat) (J:Nat → World → Prop) (Jx:World → Prop) (i:Nat) (W:World):Prop:=
 ∃ on:Bool,W.heap[b3]? = some (.cells #[.bool on] 4 (0,0)) ∧ W.heap[b1]? = some (.cells #[.func (.yield l) #[] #[]] 52 (0,0)) ∧ ((on = true ∧ J i W) ∨ (on = false ∧ Jx W))
theorem PS.c {l base b1 b3:Nat} {C:World → Prop} {xs:List Str} {J:Nat → World → Prop} {Jx:World → Prop} (I:It l base C xs J Jx) {i:Nat} {W:World} (h:PS l b1 b3 J Jx i W):C W:=by
 obtain ⟨on,_,_,h | h⟩:=h
 ·exact I.cj _ _ h.2
 ·exact I.cx _ h.2
theorem PS.nil {l base b1 b3:Nat} {C:World → Prop} {xs:List Str} {J:Nat → World → Prop} {Jx:World → Prop} (I:It l base C xs J Jx) {i:Nat} {W W':World} (h:PS l b1 b3 J Jx i W) (hc:Chg Nil W W'):PS l b1 b3 J Jx i W':=by
 obtain ⟨on,h1,h2,h3⟩:=h
 refine ⟨on,hc.heap h1 fun h=>h,hc.heap h2 fun h=>h,?_⟩
 rcases h3 with h3 | h3
 ·exact .inl ⟨h3.1,I.dj _ _ _ h3.2 (DrB.new hc)⟩
 ·exact .inr ⟨h3.1,I.dx _ _ h3.2 (DrB.new hc)⟩
abbrev ptr (b:Nat):Value:=.pointer (some ⟨b,0,none⟩)
theorem put_ok {l base b1 b3:Nat} {C:World → Prop} {xs:List Str} {J:Nat → World → Prop} {Jx:World → Prop} (I:It l base C xs J Jx) (hb:base ≤ b3) (hne:b1 ≠ b3) {i:Nat} {W:World} (h:PS l b1 b3 J Jx i W) (s:ByteArray) (hs:xs[i]? = some s.data.toList) :
  Calls Tryz.prog 45 #[.string s,ptr b3,ptr b1] W fun e W'=>e = .returned (.tuple #[]) ∧ PS l b1 b3 J Jx (i + 1) W' ∧ KeepN b3 W W':=by
 refine cert_lines_c1_c1.calls s ⟨b3,0,none⟩ ⟨b1,0,none⟩ ?_
 unfold cert_lines_c1_c1.sh
 obtain ⟨on,h1,h2,h3⟩:=h
 have hc1:W.cell? ⟨b3,0,none⟩ = some (.bool on):=by simp [World.cell?,h1]
 refine LoadT.sc (s:=.bool) (x:=on) hc1 ?_
 have fin:∀ (W1:World) (v:Bool),W1.heap[b1]? = some (.cells #[.func (.yield l) #[] #[]] 52 (0,0)) → (∃ u,W1.heap[b3]? = some (.cells #[.bool u] 4 (0,0))) → ((v = true ∧ J (i + 1) W1) ∨ (v = false ∧ Jx W1)) → KeepN b3 W W1 →
   Store1 W1 ⟨b3,0,none⟩ (.bool v) fun w12=>Ending.returned (.tuple #[]) = .returned (.tuple #[]) ∧ PS l b1 b3 J Jx (i + 1) w12 ∧ KeepN b3 W w12:=fun W1 v k1 ⟨u,k2⟩ k3 k4=>by
  refine Store1.at (cs:=#[.bool u]) (t:=4) k2 0 (by simp) (cs':=#[.bool v]) rfl fun w' hw' hcg _=>⟨rfl,⟨v,hw',?_,?_⟩,k4.trans fun k o hk _ hko=>hcg.heap hko fun h=>hk h⟩
  ·exact hcg.heap k1 fun h=>hne h
  ·have hd:DrB base W1 w':=hcg.mono fun k _ hk=>by
    have hk:k = b3:=hk
    subst hk
    exact ⟨hb,_,_,k2⟩
   rcases k3 with k3 | k3
   ·exact .inl ⟨k3.1,I.dj _ _ _ k3.2 hd⟩
   ·exact .inr ⟨k3.1,I.dx _ _ k3.2 hd⟩
 refine Br.mk (fun hon=>?_) (fun hoff=>?_)
 ·subst hon
  have hj:J i W:=by
   rcases h3 with h3 | h3
   ·exact h3.2
   ·cases h3.1
  have hc2:W.cell? ⟨b1,0,none⟩ = some (.func (.yield l) #[] #[]):=by simp [World.cell?,h2]
  refine LoadT.sc (s:=.raw) (x:=.func (.yield l) #[] #[]) hc2 ?_
  dsimp only
  have hy:=I.y i s W hs hj
  obtain ⟨f,tmps,assign,body,hr,hrd⟩:=hy
  refine ⟨f,tmps,assign,body,hr,RoundIn.mono hrd fun e w' he=>?_⟩
  cases e with
  | returned v=>
   obtain ⟨b,hb',hk,hj'⟩:=he
   exact ⟨b,hb',fin w' b (hk b1 _ (kp_of rfl) h2) ⟨_,hk b3 _ (kp_of rfl) h1⟩ hj' fun k o _ ho hko=>hk k o ho hko⟩
  | panicked _=>exact he
  | outgrown=>exact he
 ·subst hoff
  have hj:Jx W:=by
   rcases h3 with h3 | h3
   ·cases h3.1
   ·exact h3.2
  exact fin W false h2 ⟨_,h1⟩ (.inr ⟨rfl,hj⟩) fun _ _ _ _ h=>h
end Go.Proofs.YtpifnlfmojfgpaaGreatDoor.Pk
end
