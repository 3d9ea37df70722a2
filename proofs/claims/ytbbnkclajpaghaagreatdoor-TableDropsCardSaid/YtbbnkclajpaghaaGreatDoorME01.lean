/- Several texts in one. -/
import Derived.Shelf.Strings.Builder1
import Derived.Shelf.Strings.Builder2
import Derived.Shelf.Strings.OnBuilder
import Derived.Shelf.Small.Bits
import Derived.Shelf.Small.Strs
import Derived.Shelf.Small.Wraps
import Derived.Shelf.Strings.BuilderF
import Derived.Shelf.Strings.BuilderK
import Derived.Shelf.Utf8.RuneCount
import Derived.Shelf.Strings.Builder2Cap
import Derived.Shelf.Strconv.Atoi
import Derived.Shelf.Strconv.Itoa0
import Derived.Shelf.Strconv.Itoa1
import Derived.Shelf.LaysM
import Derived.Shelf.Strconv.Itoa2
import Derived.Shelf.Strconv.Itoa3
import Derived.Shelf.Strconv.Itoa4
import Derived.Shelf.Strconv.AtoiErrFast
import Derived.Shelf.Strconv.ParseIntEmpty
import Derived.Shelf.Strconv.AtoiFail
import Derived.Shelf.Strconv.Clone
import Derived.Shelf.Strconv.SyntaxError
import Derived.Shelf.LaysC
import Derived.Shelf.Strconv.ToError
import Derived.Shelf.Strconv.AtoiErr
import Derived.Shelf.Strconv.ErrVar
import Derived.Shelf.Strconv.Lower
import Derived.Shelf.Strconv.ParseUint10
import Derived.Shelf.Strconv.ParseUint10Empty
import Derived.Shelf.Strconv.ParseUint10Any
import Derived.Shelf.Strconv.ParseInt10
import Derived.Shelf.Strconv.AtoiLong
import Derived.Shelf.Strconv.AtoiInnerAll
import Derived.Shelf.Strconv.RangeError
import Derived.Shelf.Strconv.ToErrorRange
import Derived.Shelf.Strconv.AtoiAll
import Derived.Shelf.Strconv.ErrVarAll
import Derived.Shelf.Strconv.ParseUintEmpty
import Derived.Shelf.Strconv.ParseUint10b64
import Derived.Shelf.Strconv.ParseUint10b32
import Derived.Shelf.Strconv.ParseUint10b16
import Derived.Shelf.Strconv.ParseUint10b8
import Derived.Shelf.Strconv.ParseUint10At
import Derived.Shelf.Strconv.ParseInt10At64
import Derived.Shelf.Strconv.ParseInt10At32
import Derived.Shelf.Strconv.ParseInt10At16
import Derived.Shelf.Strconv.ParseInt10At8
import Derived.Shelf.Strconv.ParseInt10All
import Derived.Shelf.Strconv.ParseIntPublic10
import Derived.Shelf.Strconv.ErrVarParseInt
import Derived.Shelf.Strings.Search1
import Derived.Shelf.Strings.Search2
import Derived.Shelf.Strings.Search3
import Derived.Shelf.Strings.Cut
import Derived.Shelf.Strings.Count
import Derived.Shelf.Strings.Shaped
import Derived.Shelf.Strings.Split
import Derived.Shelf.Strings.SplitShaped
import Derived.Shelf.Unicode.Decode
import Derived.Shelf.Strings.RuneCount
import Derived.Shelf.Strings.Explode
import Derived.Shelf.Bits.Mul64
import Derived.Shelf.Unicode.DecodeSlow
import Derived.Shelf.Unicode.DecodeAny
import Derived.Shelf.Strings.BuilderCap
import Derived.Ground.Names2Prog
import Derived.Shelf.Slices.SearchI
import Derived.Test.YtbbnkclajpaghaaGreatDoorProg
import Derived.Lib.AtoiErrMem
import Derived.Lib.ParseIntBTie
import Derived.Lib.AppendIntMem
import Derived.WalkKit
import Derived.ProofKit
import Derived.Lib.Hide
import Derived.Test.YtbbnkclajpaghaaGreatDoorME00
set_option maxHeartbeats 8000000
set_option maxRecDepth 100000
set_option linter.unusedVariables false
set_option linter.unusedSimpArgs false
namespace Go.Proofs
open Go.Shelf
def Tryz.lays170_ren : Go.Shelf.Ren := ⟨fun | 170 => 30 | n => n, fun | 70 => 60 | 3 => 3 | 0 => 0 | 72 => 63 | 37 => 61 | 5 => 5 | n => n, fun | n => n⟩
theorem Tryz.lays170 : Go.Proofs.Lays.n170 Tryz.prog Tryz.lays170_ren := {
 mixed := by kernel_rfl
 f170 := Tryz.func30.trans (congrArg some (by kernel_rfl))
 t0 := Tryz.underlying0
 a0 := Tryz.isAgg0
 z0 := Tryz.sizeOf0
 v0 := Tryz.zeroValue0
 t3 := Tryz.underlying3
 a3 := Tryz.isAgg3
 z3 := Tryz.sizeOf3
 v3 := Tryz.zeroValue3
 t37 := Tryz.underlying61
 a37 := Tryz.isAgg61
 z37 := Tryz.sizeOf61
 v37 := Tryz.zeroValue61
 t70 := Tryz.underlying60
 a70 := Tryz.isAgg60
 z70 := Tryz.sizeOf60
 v70 := Tryz.zeroValue60
 t72 := Tryz.underlying63
 a72 := Tryz.isAgg63
 z72 := Tryz.sizeOf63
 v72 := Tryz.zeroValue63 }
open Go.RowKit in
theorem Tryz.Builder_Len (B b : Nat) (bs : List Value) (w : World) (h : Lib.IsBuilder 63 5 B b bs w) :
  Calls Tryz.prog 30 #[.pointer (some ⟨b, 0, none⟩)] w fun e w' => e = .returned (.int .i64 bs.length) ∧ w' = w := Any.Builder_Len Tryz.lays170 B b bs w h
def Tryz.lays169_ren : Go.Shelf.Ren := ⟨fun | 169 => 31 | n => n, fun | 70 => 60 | 9 => 9 | 0 => 0 | 72 => 63 | 37 => 61 | 127 => 109 | 3 => 3 | 5 => 5 | n => n, fun | n => n⟩
theorem Tryz.lays169 : Go.Proofs.Lays.n169 Tryz.prog Tryz.lays169_ren := {
 mixed := by kernel_rfl
 f169 := Tryz.func31.trans (congrArg some (by kernel_rfl))
 t0 := Tryz.underlying0
 a0 := Tryz.isAgg0
 z0 := Tryz.sizeOf0
 v0 := Tryz.zeroValue0
 t3 := Tryz.underlying3
 a3 := Tryz.isAgg3
 z3 := Tryz.sizeOf3
 v3 := Tryz.zeroValue3
 t9 := Tryz.underlying9
 a9 := Tryz.isAgg9
 z9 := Tryz.sizeOf9
 v9 := Tryz.zeroValue9
 t37 := Tryz.underlying61
 a37 := Tryz.isAgg61
 z37 := Tryz.sizeOf61
 v37 := Tryz.zeroValue61
 t70 := Tryz.underlying60
 a70 := Tryz.isAgg60
 z70 := Tryz.sizeOf60
 v70 := Tryz.zeroValue60
 t72 := Tryz.underlying63
 a72 := Tryz.isAgg63
 z72 := Tryz.sizeOf63
 v72 := Tryz.zeroValue63
 t127 := Tryz.underlying109
 a127 := Tryz.isAgg109
 z127 := Tryz.sizeOf109
 v127 := Tryz.zeroValue109 }
theorem Tryz.Builder_Extra_169 : Builder.Extra Tryz.prog Tryz.lays169_ren := {
 sizeBuilder := by kernel_rfl
 liesBuilder := by kernel_rfl
 t5 := Tryz.underlying5
 a5 := Tryz.isAgg5
 z5 := Tryz.sizeOf5
 v5 := Tryz.zeroValue5
 infoByte := by kernel_rfl
 cellsByte := by kernel_rfl
 sizeByte := by kernel_rfl
 neB5 := by decide }
def Tryz.lays156_ren : Go.Shelf.Ren := ⟨fun | 156 => 54 | 165 => 82 | 166 => 29 | 169 => 31 | 240 => 55 | 241 => 110 | 276 => 83 | 277 => 134 | n => n, fun | 31 => 53 | 9 => 9 | 3 => 3 | 4 => 4 | 0 => 0 | 20 => 20 | 72 => 63 | 76 => 71 | 70 => 60 | 37 => 61 | 75 => 70 | 127 => 109 | 164 => 136 | 5 => 5 | 80 => 74 | n => n, fun | n => n⟩
theorem Tryz.lays156 : Go.Proofs.Lays.n156 Tryz.prog Tryz.lays156_ren := {
 mixed := by kernel_rfl
 f156 := Tryz.func54.trans (congrArg some (by kernel_rfl))
 f165 := Tryz.func82.trans (congrArg some (by kernel_rfl))
 f166 := Tryz.func29.trans (congrArg some (by kernel_rfl))
 f169 := Tryz.func31.trans (congrArg some (by kernel_rfl))
 f240 := Tryz.func55.trans (congrArg some (by kernel_rfl))
 f241 := Tryz.func110.trans (congrArg some (by kernel_rfl))
 f276 := Tryz.func83.trans (congrArg some (by kernel_rfl))
 f277 := Tryz.func134.trans (congrArg some (by kernel_rfl))
 t0 := Tryz.underlying0
 a0 := Tryz.isAgg0
 z0 := Tryz.sizeOf0
 v0 := Tryz.zeroValue0
 t3 := Tryz.underlying3
 a3 := Tryz.isAgg3
 z3 := Tryz.sizeOf3
 v3 := Tryz.zeroValue3
 t4 := Tryz.underlying4
 a4 := Tryz.isAgg4
 z4 := Tryz.sizeOf4
 v4 := Tryz.zeroValue4
 t9 := Tryz.underlying9
 a9 := Tryz.isAgg9
 z9 := Tryz.sizeOf9
 v9 := Tryz.zeroValue9
 t20 := Tryz.underlying20
 a20 := Tryz.isAgg20
 z20 := Tryz.sizeOf20
 v20 := Tryz.zeroValue20
 t31 := Tryz.underlying53
 a31 := Tryz.isAgg53
 z31 := Tryz.sizeOf53
 v31 := Tryz.zeroValue53
 t37 := Tryz.underlying61
 a37 := Tryz.isAgg61
 z37 := Tryz.sizeOf61
 v37 := Tryz.zeroValue61
 t70 := Tryz.underlying60
 a70 := Tryz.isAgg60
 z70 := Tryz.sizeOf60
 v70 := Tryz.zeroValue60
 t72 := Tryz.underlying63
 a72 := Tryz.isAgg63
 z72 := Tryz.sizeOf63
 v72 := Tryz.zeroValue63
 t75 := Tryz.underlying70
 a75 := Tryz.isAgg70
 z75 := Tryz.sizeOf70
 v75 := Tryz.zeroValue70
 t76 := Tryz.underlying71
 a76 := Tryz.isAgg71
 z76 := Tryz.sizeOf71
 v76 := Tryz.zeroValue71
 t127 := Tryz.underlying109
 a127 := Tryz.isAgg109
 z127 := Tryz.sizeOf109
 v127 := Tryz.zeroValue109
 t164 := Tryz.underlying136
 a164 := Tryz.isAgg136
 z164 := Tryz.sizeOf136
 v164 := Tryz.zeroValue136 }
theorem Tryz.Builder_Extra_156 : Builder.Extra Tryz.prog Tryz.lays156_ren := {
 sizeBuilder := by kernel_rfl
 liesBuilder := by kernel_rfl
 t5 := Tryz.underlying5
 a5 := Tryz.isAgg5
 z5 := Tryz.sizeOf5
 v5 := Tryz.zeroValue5
 infoByte := by kernel_rfl
 cellsByte := by kernel_rfl
 sizeByte := by kernel_rfl
 neB5 := by decide }
open Go.RowKit in
theorem Tryz.strings_Join (bk o c : Nat) (xs : List ByteArray) (sep : ByteArray) (w : World) (hcells : ∀ (j : Nat) x, xs[j]? = some x → w.cell? ⟨bk, o + j, none⟩ = some (.string x)) (hbk : bk < w.heap.size) (hN : xs.length ≤ 140737488355328) (hcap : xs.length ≤ c) (hlen : (Lib.join (xs.map (·.data.toList)) sep.data.toList).length ≤ 140737488355328) :
  Calls Tryz.prog 54 #[.slice (some ⟨bk, o, none⟩) xs.length c, .string sep] w fun e w' => e = .returned (.string ⟨(Lib.join (xs.map (·.data.toList)) sep.data.toList).toArray⟩) ∧ Below w.heap.size w w' := Any.strings_Join Tryz.lays156 Tryz.Builder_Extra_156 bk o c xs sep w hcells hbk hN hcap hlen
def Tryz.laysM171_ren : Go.Shelf.Ren := ⟨fun | 171 => 53 | 243 => 81 | 246 => 109 | 283 => 130 | 284 => 131 | 285 => 132 | 286 => 133 | 129 => 149 | 317 => 148 | 318 => 150 | 319 => 151 | 320 => 152 | 337 => 163 | 338 => 164 | n => n, fun | 3 => 3 | 9 => 9 | 2 => 2 | 4 => 4 | 171 => 174 | 0 => 0 | 53 => 147 | 37 => 61 | 5 => 5 | 173 => 177 | 212 => 191 | 51 => 192 | 20 => 20 | 213 => 193 | 46 => 172 | 232 => 211 | 233 => 212 | n => n, fun | 17 => 3 | 18 => 8 | 19 => 9 | n => n⟩
theorem Tryz.laysM171 : Go.Proofs.LaysM.n171 Tryz.prog Tryz.laysM171_ren := {
 mixed := by kernel_rfl
 f129 := Tryz.func149.trans (congrArg some (by kernel_rfl))
 f171 := Tryz.func53.trans (congrArg some (by kernel_rfl))
 f243 := Tryz.func81.trans (congrArg some (by kernel_rfl))
 f246 := Tryz.func109.trans (congrArg some (by kernel_rfl))
 f283 := Tryz.func130.trans (congrArg some (by kernel_rfl))
 f284 := Tryz.func131.trans (congrArg some (by kernel_rfl))
 f285 := Tryz.func132.trans (congrArg some (by kernel_rfl))
 f286 := Tryz.func133.trans (congrArg some (by kernel_rfl))
 f317 := Tryz.func148.trans (congrArg some (by kernel_rfl))
 f318 := Tryz.func150.trans (congrArg some (by kernel_rfl))
 f319 := Tryz.func151.trans (congrArg some (by kernel_rfl))
 f320 := Tryz.func152.trans (congrArg some (by kernel_rfl))
 f337 := Tryz.func163.trans (congrArg some (by kernel_rfl))
 f338 := Tryz.func164.trans (congrArg some (by kernel_rfl))
 t0 := Tryz.underlying0
 a0 := Tryz.isAgg0
 z0 := Tryz.sizeOf0
 v0 := Tryz.zeroValue0
 t2 := Tryz.underlying2
 a2 := Tryz.isAgg2
 z2 := Tryz.sizeOf2
 v2 := Tryz.zeroValue2
 t3 := Tryz.underlying3
 a3 := Tryz.isAgg3
 z3 := Tryz.sizeOf3
 v3 := Tryz.zeroValue3
 t4 := Tryz.underlying4
 a4 := Tryz.isAgg4
 z4 := Tryz.sizeOf4
 v4 := Tryz.zeroValue4
 t5 := Tryz.underlying5
 a5 := Tryz.isAgg5
 z5 := Tryz.sizeOf5
 v5 := Tryz.zeroValue5
 t9 := Tryz.underlying9
 a9 := Tryz.isAgg9
 z9 := Tryz.sizeOf9
 v9 := Tryz.zeroValue9
 t20 := Tryz.underlying20
 a20 := Tryz.isAgg20
 z20 := Tryz.sizeOf20
 v20 := Tryz.zeroValue20
 t37 := Tryz.underlying61
 a37 := Tryz.isAgg61
 z37 := Tryz.sizeOf61
 v37 := Tryz.zeroValue61
 t46 := Tryz.underlying172
 a46 := Tryz.isAgg172
 z46 := Tryz.sizeOf172
 v46 := Tryz.zeroValue172
 t51 := Tryz.underlying192
 a51 := Tryz.isAgg192
 z51 := Tryz.sizeOf192
 v51 := Tryz.zeroValue192
 t53 := Tryz.underlying147
 a53 := Tryz.isAgg147
 z53 := Tryz.sizeOf147
 v53 := Tryz.zeroValue147
 t171 := Tryz.underlying174
 a171 := Tryz.isAgg174
 z171 := Tryz.sizeOf174
 v171 := Tryz.zeroValue174
 t173 := Tryz.underlying177
 a173 := Tryz.isAgg177
 z173 := Tryz.sizeOf177
 v173 := Tryz.zeroValue177
 t212 := Tryz.underlying191
 a212 := Tryz.isAgg191
 z212 := Tryz.sizeOf191
 v212 := Tryz.zeroValue191
 t213 := Tryz.underlying193
 a213 := Tryz.isAgg193
 z213 := Tryz.sizeOf193
 t232 := Tryz.underlying211
 a232 := Tryz.isAgg211
 z232 := Tryz.sizeOf211
 v232 := Tryz.zeroValue211
 t233 := Tryz.underlying212
 a233 := Tryz.isAgg212
 z233 := Tryz.sizeOf212
 v233 := Tryz.zeroValue212
 g17 := by kernel_rfl
 g18 := by kernel_rfl
 g19 := by kernel_rfl
 i0 := by kernel_rfl
 i2 := by kernel_rfl
 i3 := by kernel_rfl
 i4 := by kernel_rfl
 i5 := by kernel_rfl
 i9 := by kernel_rfl
 i20 := by kernel_rfl
 i37 := by kernel_rfl
 i46 := by kernel_rfl
 i51 := by kernel_rfl
 i53 := by kernel_rfl
 i171 := by kernel_rfl
 i173 := by kernel_rfl
 i212 := by kernel_rfl
 i232 := by kernel_rfl
 i233 := by kernel_rfl
 m17 := by kernel_rfl
 m18 := by kernel_rfl
 m19 := by kernel_rfl }
open Go.RowKit Go.Sort Go.Lib in
theorem Tryz.strconv_Itoa (n : Int) (h0 : -9223372036854775808 ≤ n) (h1 : n ≤ 9223372036854775807) (w : World) (htab : Lib.TabIs Tryz.prog w "internal/strconv.uint64pow10" .u64 Lib.pow10Tab) :
  Calls Tryz.prog 53 #[.int .i64 n] w fun e w' => e = .returned (.string ⟨(Lib.itoa n).toArray⟩) ∧ ∃ k os, w' = grow (w.drewN k) os := Any.strconv_Itoa Tryz.laysM171 n h0 h1 w htab
def Tryz.laysM173_ren : Go.Shelf.Ren := ⟨fun | 173 => 80 | 246 => 109 | 283 => 130 | 284 => 131 | 285 => 132 | 286 => 133 | 129 => 149 | 317 => 148 | 318 => 150 | 319 => 151 | 320 => 152 | 337 => 163 | 338 => 164 | n => n, fun | 2 => 2 | 3 => 3 | 9 => 9 | 4 => 4 | 171 => 174 | 0 => 0 | 53 => 147 | 37 => 61 | 5 => 5 | 173 => 177 | 212 => 191 | 51 => 192 | 20 => 20 | 213 => 193 | 46 => 172 | 232 => 211 | 233 => 212 | n => n, fun | 17 => 3 | 18 => 8 | 19 => 9 | n => n⟩
theorem Tryz.laysM173 : Go.Proofs.LaysM.n173 Tryz.prog Tryz.laysM173_ren := {
 mixed := by kernel_rfl
 f129 := Tryz.func149.trans (congrArg some (by kernel_rfl))
 f173 := Tryz.func80.trans (congrArg some (by kernel_rfl))
 f246 := Tryz.func109.trans (congrArg some (by kernel_rfl))
 f283 := Tryz.func130.trans (congrArg some (by kernel_rfl))
 f284 := Tryz.func131.trans (congrArg some (by kernel_rfl))
 f285 := Tryz.func132.trans (congrArg some (by kernel_rfl))
 f286 := Tryz.func133.trans (congrArg some (by kernel_rfl))
 f317 := Tryz.func148.trans (congrArg some (by kernel_rfl))
 f318 := Tryz.func150.trans (congrArg some (by kernel_rfl))
 f319 := Tryz.func151.trans (congrArg some (by kernel_rfl))
 f320 := Tryz.func152.trans (congrArg some (by kernel_rfl))
 f337 := Tryz.func163.trans (congrArg some (by kernel_rfl))
 f338 := Tryz.func164.trans (congrArg some (by kernel_rfl))
 t0 := Tryz.underlying0
 a0 := Tryz.isAgg0
 z0 := Tryz.sizeOf0
 v0 := Tryz.zeroValue0
 t2 := Tryz.underlying2
 a2 := Tryz.isAgg2
 z2 := Tryz.sizeOf2
 v2 := Tryz.zeroValue2
 t3 := Tryz.underlying3
 a3 := Tryz.isAgg3
 z3 := Tryz.sizeOf3
 v3 := Tryz.zeroValue3
 t4 := Tryz.underlying4
 a4 := Tryz.isAgg4
 z4 := Tryz.sizeOf4
 v4 := Tryz.zeroValue4
 t5 := Tryz.underlying5
 a5 := Tryz.isAgg5
 z5 := Tryz.sizeOf5
 v5 := Tryz.zeroValue5
 t9 := Tryz.underlying9
 a9 := Tryz.isAgg9
 z9 := Tryz.sizeOf9
 v9 := Tryz.zeroValue9
 t20 := Tryz.underlying20
 a20 := Tryz.isAgg20
 z20 := Tryz.sizeOf20
 v20 := Tryz.zeroValue20
 t37 := Tryz.underlying61
 a37 := Tryz.isAgg61
 z37 := Tryz.sizeOf61
 v37 := Tryz.zeroValue61
 t46 := Tryz.underlying172
 a46 := Tryz.isAgg172
 z46 := Tryz.sizeOf172
 v46 := Tryz.zeroValue172
 t51 := Tryz.underlying192
 a51 := Tryz.isAgg192
 z51 := Tryz.sizeOf192
 v51 := Tryz.zeroValue192
 t53 := Tryz.underlying147
 a53 := Tryz.isAgg147
 z53 := Tryz.sizeOf147
 v53 := Tryz.zeroValue147
 t171 := Tryz.underlying174
 a171 := Tryz.isAgg174
 z171 := Tryz.sizeOf174
 v171 := Tryz.zeroValue174
 t173 := Tryz.underlying177
 a173 := Tryz.isAgg177
 z173 := Tryz.sizeOf177
 v173 := Tryz.zeroValue177
 t212 := Tryz.underlying191
 a212 := Tryz.isAgg191
 z212 := Tryz.sizeOf191
 v212 := Tryz.zeroValue191
 t213 := Tryz.underlying193
 a213 := Tryz.isAgg193
 z213 := Tryz.sizeOf193
 t232 := Tryz.underlying211
 a232 := Tryz.isAgg211
 z232 := Tryz.sizeOf211
 v232 := Tryz.zeroValue211
 t233 := Tryz.underlying212
 a233 := Tryz.isAgg212
 z233 := Tryz.sizeOf212
 v233 := Tryz.zeroValue212
 g17 := by kernel_rfl
 g18 := by kernel_rfl
 g19 := by kernel_rfl
 i0 := by kernel_rfl
 i2 := by kernel_rfl
 i3 := by kernel_rfl
 i4 := by kernel_rfl
 i5 := by kernel_rfl
 i9 := by kernel_rfl
 i20 := by kernel_rfl
 i37 := by kernel_rfl
 i46 := by kernel_rfl
 i51 := by kernel_rfl
 i53 := by kernel_rfl
 i171 := by kernel_rfl
 i173 := by kernel_rfl
 i212 := by kernel_rfl
 i232 := by kernel_rfl
 i233 := by kernel_rfl
 m17 := by kernel_rfl
 m18 := by kernel_rfl
 m19 := by kernel_rfl }
open Go.RowKit Go.Sort Go.Lib in
theorem Tryz.strconv_FormatInt_10 (n : Int) (h0 : -9223372036854775808 ≤ n) (h1 : n ≤ 9223372036854775807) (w : World) (htab : Lib.TabIs Tryz.prog w "internal/strconv.uint64pow10" .u64 Lib.pow10Tab) :
  Calls Tryz.prog 80 #[.int .i64 n, .int .i64 10] w fun e w' => e = .returned (.string ⟨(Lib.itoa n).toArray⟩) ∧ ∃ k os, w' = grow (w.drewN k) os := Any.strconv_FormatInt_10 Tryz.laysM173 n h0 h1 w htab
def Tryz.laysC172_ren : Go.Shelf.Ren := ⟨fun | 172 => 63 | 244 => 88 | 245 => 89 | 247 => 116 | 279 => 117 | 280 => 118 | 281 => 119 | 282 => 120 | 287 => 141 | 316 => 142 | 171 => 53 | 205 => 143 | 321 => 155 | 322 => 156 | 243 => 81 | 246 => 109 | 283 => 130 | 284 => 131 | 285 => 132 | 286 => 133 | 129 => 149 | 317 => 148 | 318 => 150 | 319 => 151 | 320 => 152 | 337 => 163 | 338 => 164 | n => n, fun | 9 => 9 | 3 => 3 | 75 => 70 | 76 => 71 | 4 => 4 | 5 => 5 | 167 => 165 | 37 => 61 | 0 => 0 | 85 => 142 | 2 => 2 | 168 => 166 | 53 => 147 | 175 => 183 | 46 => 172 | 210 => 187 | 127 => 109 | 145 => 200 | 143 => 198 | 21 => 21 | 171 => 174 | 173 => 177 | 212 => 191 | 51 => 192 | 20 => 20 | 213 => 193 | 232 => 211 | 233 => 212 | 80 => 74 | n => n, fun | 15 => 1 | 16 => 2 | 17 => 3 | 18 => 8 | 19 => 9 | n => n⟩
theorem Tryz.laysC172 : Go.Proofs.LaysC.n172 Tryz.prog Tryz.laysC172_ren := {
 mixed := by kernel_rfl
 f129 := Tryz.func149.trans (congrArg some (by kernel_rfl))
 f171 := Tryz.func53.trans (congrArg some (by kernel_rfl))
 f172 := Tryz.func63.trans (congrArg some (by kernel_rfl))
 f205 := Tryz.func143.trans (congrArg some (by kernel_rfl))
 f243 := Tryz.func81.trans (congrArg some (by kernel_rfl))
 f244 := Tryz.func88.trans (congrArg some (by kernel_rfl))
 f245 := Tryz.func89.trans (congrArg some (by kernel_rfl))
 f246 := Tryz.func109.trans (congrArg some (by kernel_rfl))
 f247 := Tryz.func116.trans (congrArg some (by kernel_rfl))
 f279 := Tryz.func117.trans (congrArg some (by kernel_rfl))
 f280 := Tryz.func118.trans (congrArg some (by kernel_rfl))
 f281 := Tryz.func119.trans (congrArg some (by kernel_rfl))
 f282 := Tryz.func120.trans (congrArg some (by kernel_rfl))
 f283 := Tryz.func130.trans (congrArg some (by kernel_rfl))
 f284 := Tryz.func131.trans (congrArg some (by kernel_rfl))
 f285 := Tryz.func132.trans (congrArg some (by kernel_rfl))
 f286 := Tryz.func133.trans (congrArg some (by kernel_rfl))
 f287 := Tryz.func141.trans (congrArg some (by kernel_rfl))
 f316 := Tryz.func142.trans (congrArg some (by kernel_rfl))
 f317 := Tryz.func148.trans (congrArg some (by kernel_rfl))
 f318 := Tryz.func150.trans (congrArg some (by kernel_rfl))
 f319 := Tryz.func151.trans (congrArg some (by kernel_rfl))
 f320 := Tryz.func152.trans (congrArg some (by kernel_rfl))
 f321 := Tryz.func155.trans (congrArg some (by kernel_rfl))
 f322 := Tryz.func156.trans (congrArg some (by kernel_rfl))
 f337 := Tryz.func163.trans (congrArg some (by kernel_rfl))
 f338 := Tryz.func164.trans (congrArg some (by kernel_rfl))
 t0 := Tryz.underlying0
 a0 := Tryz.isAgg0
 z0 := Tryz.sizeOf0
 v0 := Tryz.zeroValue0
 t2 := Tryz.underlying2
 a2 := Tryz.isAgg2
 z2 := Tryz.sizeOf2
 v2 := Tryz.zeroValue2
 t3 := Tryz.underlying3
 a3 := Tryz.isAgg3
 z3 := Tryz.sizeOf3
 v3 := Tryz.zeroValue3
 t4 := Tryz.underlying4
 a4 := Tryz.isAgg4
 z4 := Tryz.sizeOf4
 v4 := Tryz.zeroValue4
 t5 := Tryz.underlying5
 a5 := Tryz.isAgg5
 z5 := Tryz.sizeOf5
 v5 := Tryz.zeroValue5
 t9 := Tryz.underlying9
 a9 := Tryz.isAgg9
 z9 := Tryz.sizeOf9
 v9 := Tryz.zeroValue9
 t20 := Tryz.underlying20
 a20 := Tryz.isAgg20
 z20 := Tryz.sizeOf20
 v20 := Tryz.zeroValue20
 t21 := Tryz.underlying21
 a21 := Tryz.isAgg21
 z21 := Tryz.sizeOf21
 v21 := Tryz.zeroValue21
 t37 := Tryz.underlying61
 a37 := Tryz.isAgg61
 z37 := Tryz.sizeOf61
 v37 := Tryz.zeroValue61
 t46 := Tryz.underlying172
 a46 := Tryz.isAgg172
 z46 := Tryz.sizeOf172
 v46 := Tryz.zeroValue172
 t51 := Tryz.underlying192
 a51 := Tryz.isAgg192
 z51 := Tryz.sizeOf192
 v51 := Tryz.zeroValue192
 t53 := Tryz.underlying147
 a53 := Tryz.isAgg147
 z53 := Tryz.sizeOf147
 v53 := Tryz.zeroValue147
 t75 := Tryz.underlying70
 a75 := Tryz.isAgg70
 z75 := Tryz.sizeOf70
 v75 := Tryz.zeroValue70
 t76 := Tryz.underlying71
 a76 := Tryz.isAgg71
 z76 := Tryz.sizeOf71
 v76 := Tryz.zeroValue71
 t85 := Tryz.underlying142
 a85 := Tryz.isAgg142
 z85 := Tryz.sizeOf142
 v85 := Tryz.zeroValue142
 t127 := Tryz.underlying109
 a127 := Tryz.isAgg109
 z127 := Tryz.sizeOf109
 v127 := Tryz.zeroValue109
 t143 := Tryz.underlying198
 a143 := Tryz.isAgg198
 z143 := Tryz.sizeOf198
 v143 := Tryz.zeroValue198
 t145 := Tryz.underlying200
 a145 := Tryz.isAgg200
 z145 := Tryz.sizeOf200
 v145 := Tryz.zeroValue200
 t167 := Tryz.underlying165
 a167 := Tryz.isAgg165
 z167 := Tryz.sizeOf165
 v167 := Tryz.zeroValue165
 t168 := Tryz.underlying166
 a168 := Tryz.isAgg166
 z168 := Tryz.sizeOf166
 v168 := Tryz.zeroValue166
 t171 := Tryz.underlying174
 a171 := Tryz.isAgg174
 z171 := Tryz.sizeOf174
 v171 := Tryz.zeroValue174
 t173 := Tryz.underlying177
 a173 := Tryz.isAgg177
 z173 := Tryz.sizeOf177
 v173 := Tryz.zeroValue177
 t175 := Tryz.underlying183
 a175 := Tryz.isAgg183
 z175 := Tryz.sizeOf183
 v175 := Tryz.zeroValue183
 t210 := Tryz.underlying187
 a210 := Tryz.isAgg187
 z210 := Tryz.sizeOf187
 v210 := Tryz.zeroValue187
 t212 := Tryz.underlying191
 a212 := Tryz.isAgg191
 z212 := Tryz.sizeOf191
 v212 := Tryz.zeroValue191
 t213 := Tryz.underlying193
 a213 := Tryz.isAgg193
 z213 := Tryz.sizeOf193
 t232 := Tryz.underlying211
 a232 := Tryz.isAgg211
 z232 := Tryz.sizeOf211
 v232 := Tryz.zeroValue211
 t233 := Tryz.underlying212
 a233 := Tryz.isAgg212
 z233 := Tryz.sizeOf212
 v233 := Tryz.zeroValue212
 g15 := by kernel_rfl
 g16 := by kernel_rfl
 g17 := by kernel_rfl
 g18 := by kernel_rfl
 g19 := by kernel_rfl
 t80 := Tryz.underlying74
 a80 := Tryz.isAgg74
 z80 := Tryz.sizeOf74
 v80 := Tryz.zeroValue74
 i0 := by kernel_rfl
 i2 := by kernel_rfl
 i3 := by kernel_rfl
 i4 := by kernel_rfl
 i5 := by kernel_rfl
 i9 := by kernel_rfl
 i20 := by kernel_rfl
 i21 := by kernel_rfl
 i37 := by kernel_rfl
 i46 := by kernel_rfl
 i51 := by kernel_rfl
 i53 := by kernel_rfl
 i75 := by kernel_rfl
 i76 := by kernel_rfl
 i80 := by kernel_rfl
 i85 := by kernel_rfl
 i127 := by kernel_rfl
 i143 := by kernel_rfl
 i145 := by kernel_rfl
 i167 := by kernel_rfl
 i168 := by kernel_rfl
 i171 := by kernel_rfl
 i173 := by kernel_rfl
 i175 := by kernel_rfl
 i210 := by kernel_rfl
 i212 := by kernel_rfl
 i232 := by kernel_rfl
 i233 := by kernel_rfl
 m15 := by kernel_rfl
 m16 := by kernel_rfl
 m17 := by kernel_rfl
 m18 := by kernel_rfl
 m19 := by kernel_rfl
 c0 := by kernel_rfl
 c2 := by kernel_rfl
 c3 := by kernel_rfl
 c4 := by kernel_rfl
 c5 := by kernel_rfl
 c9 := by kernel_rfl
 c20 := by kernel_rfl
 c21 := by kernel_rfl
 c37 := by kernel_rfl
 c46 := by kernel_rfl
 c51 := by kernel_rfl
 c53 := by kernel_rfl
 c75 := by kernel_rfl
 c76 := by kernel_rfl
 c80 := by kernel_rfl
 c85 := by kernel_rfl
 c127 := by kernel_rfl
 c143 := by kernel_rfl
 c145 := by kernel_rfl
 c167 := by kernel_rfl
 c168 := by kernel_rfl
 c171 := by kernel_rfl
 c173 := by kernel_rfl
 c175 := by kernel_rfl
 c210 := by kernel_rfl
 c212 := by kernel_rfl
 c213 := by kernel_rfl
 c232 := by kernel_rfl
 c233 := by kernel_rfl }
open Go.RowKit in
theorem Tryz.strconv_Atoi_ok (s : ByteArray) (hmax : s.size ≤ 9223372036854775806) (v : Int) (h : Lib.atoiAll s.data.toList = .ok v) (w : World) :
  Calls Tryz.prog 63 #[.string s] w fun e w' => e = .returned (.tuple #[.int .i64 v, .nilIface]) ∧ (w' = w ∨ ∃ t, w' = Lib.bytesWorld w 5 t) := Any.strconv_Atoi_ok Tryz.laysC172 s hmax v h w
open Go.RowKit in
theorem Tryz.strconv_Atoi_syntax_var (s : ByteArray) (hlim : s.size ≤ 281474976710656) (h : (∀ v, Lib.atoiAll s.data.toList ≠ .ok v) ∧ Lib.atoiAll s.data.toList ≠ .range) (tp : TypeId) (p : Value) (w : World) (hvar : w.var? Tryz.prog "strconv.ErrSyntax" = some #[.iface tp p]) :
  Calls Tryz.prog 63 #[.string s] w fun e w' => ∃ N, e = .returned (.tuple #[.int .i64 0, .iface 166 (.pointer (some ⟨N, 0, none⟩))]) ∧ w.heap.size ≤ N ∧ w'.heap[N]? = some (.cells #[.string ⟨#[65, 116, 111, 105]⟩, .string s, .iface tp p] 187 (0, 0)) ∧ Below w.heap.size w w' := Any.strconv_Atoi_syntax_var Tryz.laysC172 s hlim (by cases k : Lib.atoiAll s.data.toList with | ok v => exact absurd k (h.1 v) | range => exact absurd k h.2 | _ => rfl) tp p w hvar
open Go.RowKit in
theorem Tryz.strconv_Atoi_range_var (s : ByteArray) (hlim : s.size ≤ 281474976710656) (h : Lib.atoiAll s.data.toList = .range) (tp : TypeId) (p : Value) (w : World) (hvar : w.var? Tryz.prog "strconv.ErrRange" = some #[.iface tp p]) :
  Calls Tryz.prog 63 #[.string s] w fun e w' => ∃ N, e = .returned (.tuple #[.int .i64 (Lib.atoiSat s.data.toList), .iface 166 (.pointer (some ⟨N, 0, none⟩))]) ∧ w.heap.size ≤ N ∧ w'.heap[N]? = some (.cells #[.string ⟨#[65, 116, 111, 105]⟩, .string s, .iface tp p] 187 (0, 0)) ∧ Below w.heap.size w w' := Any.strconv_Atoi_range_var Tryz.laysC172 s hlim h tp p w hvar
def Tryz.laysC174_ren : Go.Shelf.Ren := ⟨fun | 174 => 90 | 247 => 116 | 245 => 89 | 287 => 141 | 279 => 117 | 280 => 118 | 281 => 119 | 282 => 120 | 321 => 155 | 322 => 156 | 316 => 142 | 171 => 53 | 205 => 143 | 243 => 81 | 246 => 109 | 283 => 130 | 284 => 131 | 285 => 132 | 286 => 133 | 129 => 149 | 317 => 148 | 318 => 150 | 319 => 151 | 320 => 152 | 337 => 163 | 338 => 164 | n => n, fun | 9 => 9 | 3 => 3 | 2 => 2 | 75 => 70 | 85 => 142 | 4 => 4 | 167 => 165 | 5 => 5 | 53 => 147 | 175 => 183 | 46 => 172 | 168 => 166 | 37 => 61 | 0 => 0 | 210 => 187 | 21 => 21 | 127 => 109 | 145 => 200 | 143 => 198 | 171 => 174 | 173 => 177 | 212 => 191 | 51 => 192 | 20 => 20 | 213 => 193 | 232 => 211 | 233 => 212 | 80 => 74 | n => n, fun | 15 => 1 | 16 => 2 | 17 => 3 | 18 => 8 | 19 => 9 | n => n⟩
theorem Tryz.laysC174 : Go.Proofs.LaysC.n174 Tryz.prog Tryz.laysC174_ren := {
 mixed := by kernel_rfl
 f129 := Tryz.func149.trans (congrArg some (by kernel_rfl))
 f171 := Tryz.func53.trans (congrArg some (by kernel_rfl))
 f174 := Tryz.func90.trans (congrArg some (by kernel_rfl))
 f205 := Tryz.func143.trans (congrArg some (by kernel_rfl))
 f243 := Tryz.func81.trans (congrArg some (by kernel_rfl))
 f245 := Tryz.func89.trans (congrArg some (by kernel_rfl))
 f246 := Tryz.func109.trans (congrArg some (by kernel_rfl))
 f247 := Tryz.func116.trans (congrArg some (by kernel_rfl))
 f279 := Tryz.func117.trans (congrArg some (by kernel_rfl))
 f280 := Tryz.func118.trans (congrArg some (by kernel_rfl))
 f281 := Tryz.func119.trans (congrArg some (by kernel_rfl))
 f282 := Tryz.func120.trans (congrArg some (by kernel_rfl))
 f283 := Tryz.func130.trans (congrArg some (by kernel_rfl))
 f284 := Tryz.func131.trans (congrArg some (by kernel_rfl))
 f285 := Tryz.func132.trans (congrArg some (by kernel_rfl))
 f286 := Tryz.func133.trans (congrArg some (by kernel_rfl))
 f287 := Tryz.func141.trans (congrArg some (by kernel_rfl))
 f316 := Tryz.func142.trans (congrArg some (by kernel_rfl))
 f317 := Tryz.func148.trans (congrArg some (by kernel_rfl))
 f318 := Tryz.func150.trans (congrArg some (by kernel_rfl))
 f319 := Tryz.func151.trans (congrArg some (by kernel_rfl))
 f320 := Tryz.func152.trans (congrArg some (by kernel_rfl))
 f321 := Tryz.func155.trans (congrArg some (by kernel_rfl))
 f322 := Tryz.func156.trans (congrArg some (by kernel_rfl))
 f337 := Tryz.func163.trans (congrArg some (by kernel_rfl))
 f338 := Tryz.func164.trans (congrArg some (by kernel_rfl))
 t0 := Tryz.underlying0
 a0 := Tryz.isAgg0
 z0 := Tryz.sizeOf0
 v0 := Tryz.zeroValue0
 t2 := Tryz.underlying2
 a2 := Tryz.isAgg2
 z2 := Tryz.sizeOf2
 v2 := Tryz.zeroValue2
 t3 := Tryz.underlying3
 a3 := Tryz.isAgg3
 z3 := Tryz.sizeOf3
 v3 := Tryz.zeroValue3
 t4 := Tryz.underlying4
 a4 := Tryz.isAgg4
 z4 := Tryz.sizeOf4
 v4 := Tryz.zeroValue4
 t5 := Tryz.underlying5
 a5 := Tryz.isAgg5
 z5 := Tryz.sizeOf5
 v5 := Tryz.zeroValue5
 t9 := Tryz.underlying9
 a9 := Tryz.isAgg9
 z9 := Tryz.sizeOf9
 v9 := Tryz.zeroValue9
 t20 := Tryz.underlying20
 a20 := Tryz.isAgg20
 z20 := Tryz.sizeOf20
 v20 := Tryz.zeroValue20
 t21 := Tryz.underlying21
 a21 := Tryz.isAgg21
 z21 := Tryz.sizeOf21
 v21 := Tryz.zeroValue21
 t37 := Tryz.underlying61
 a37 := Tryz.isAgg61
 z37 := Tryz.sizeOf61
 v37 := Tryz.zeroValue61
 t46 := Tryz.underlying172
 a46 := Tryz.isAgg172
 z46 := Tryz.sizeOf172
 v46 := Tryz.zeroValue172
 t51 := Tryz.underlying192
 a51 := Tryz.isAgg192
 z51 := Tryz.sizeOf192
 v51 := Tryz.zeroValue192
 t53 := Tryz.underlying147
 a53 := Tryz.isAgg147
 z53 := Tryz.sizeOf147
 v53 := Tryz.zeroValue147
 t75 := Tryz.underlying70
 a75 := Tryz.isAgg70
 z75 := Tryz.sizeOf70
 v75 := Tryz.zeroValue70
 t85 := Tryz.underlying142
 a85 := Tryz.isAgg142
 z85 := Tryz.sizeOf142
 v85 := Tryz.zeroValue142
 t127 := Tryz.underlying109
 a127 := Tryz.isAgg109
 z127 := Tryz.sizeOf109
 v127 := Tryz.zeroValue109
 t143 := Tryz.underlying198
 a143 := Tryz.isAgg198
 z143 := Tryz.sizeOf198
 v143 := Tryz.zeroValue198
 t145 := Tryz.underlying200
 a145 := Tryz.isAgg200
 z145 := Tryz.sizeOf200
 v145 := Tryz.zeroValue200
 t167 := Tryz.underlying165
 a167 := Tryz.isAgg165
 z167 := Tryz.sizeOf165
 v167 := Tryz.zeroValue165
 t168 := Tryz.underlying166
 a168 := Tryz.isAgg166
 z168 := Tryz.sizeOf166
 v168 := Tryz.zeroValue166
 t171 := Tryz.underlying174
 a171 := Tryz.isAgg174
 z171 := Tryz.sizeOf174
 v171 := Tryz.zeroValue174
 t173 := Tryz.underlying177
 a173 := Tryz.isAgg177
 z173 := Tryz.sizeOf177
 v173 := Tryz.zeroValue177
 t175 := Tryz.underlying183
 a175 := Tryz.isAgg183
 z175 := Tryz.sizeOf183
 v175 := Tryz.zeroValue183
 t210 := Tryz.underlying187
 a210 := Tryz.isAgg187
 z210 := Tryz.sizeOf187
 v210 := Tryz.zeroValue187
 t212 := Tryz.underlying191
 a212 := Tryz.isAgg191
 z212 := Tryz.sizeOf191
 v212 := Tryz.zeroValue191
 t213 := Tryz.underlying193
 a213 := Tryz.isAgg193
 z213 := Tryz.sizeOf193
 t232 := Tryz.underlying211
 a232 := Tryz.isAgg211
 z232 := Tryz.sizeOf211
 v232 := Tryz.zeroValue211
 t233 := Tryz.underlying212
 a233 := Tryz.isAgg212
 z233 := Tryz.sizeOf212
 v233 := Tryz.zeroValue212
 g15 := by kernel_rfl
 g16 := by kernel_rfl
 g17 := by kernel_rfl
 g18 := by kernel_rfl
 g19 := by kernel_rfl
 t80 := Tryz.underlying74
 a80 := Tryz.isAgg74
 z80 := Tryz.sizeOf74
 v80 := Tryz.zeroValue74
 i0 := by kernel_rfl
 i2 := by kernel_rfl
 i3 := by kernel_rfl
 i4 := by kernel_rfl
 i5 := by kernel_rfl
 i9 := by kernel_rfl
 i20 := by kernel_rfl
 i21 := by kernel_rfl
 i37 := by kernel_rfl
 i46 := by kernel_rfl
 i51 := by kernel_rfl
 i53 := by kernel_rfl
 i75 := by kernel_rfl
 i80 := by kernel_rfl
 i85 := by kernel_rfl
 i127 := by kernel_rfl
 i143 := by kernel_rfl
 i145 := by kernel_rfl
 i167 := by kernel_rfl
 i168 := by kernel_rfl
 i171 := by kernel_rfl
 i173 := by kernel_rfl
 i175 := by kernel_rfl
 i210 := by kernel_rfl
 i212 := by kernel_rfl
 i232 := by kernel_rfl
 i233 := by kernel_rfl
 m15 := by kernel_rfl
 m16 := by kernel_rfl
 m17 := by kernel_rfl
 m18 := by kernel_rfl
 m19 := by kernel_rfl
 c0 := by kernel_rfl
 c2 := by kernel_rfl
 c3 := by kernel_rfl
 c4 := by kernel_rfl
 c5 := by kernel_rfl
 c9 := by kernel_rfl
 c20 := by kernel_rfl
 c21 := by kernel_rfl
 c37 := by kernel_rfl
 c46 := by kernel_rfl
 c51 := by kernel_rfl
 c53 := by kernel_rfl
 c75 := by kernel_rfl
 c80 := by kernel_rfl
 c85 := by kernel_rfl
 c127 := by kernel_rfl
 c143 := by kernel_rfl
 c145 := by kernel_rfl
 c167 := by kernel_rfl
 c168 := by kernel_rfl
 c171 := by kernel_rfl
 c173 := by kernel_rfl
 c175 := by kernel_rfl
 c210 := by kernel_rfl
 c212 := by kernel_rfl
 c213 := by kernel_rfl
 c232 := by kernel_rfl
 c233 := by kernel_rfl }
open Go.RowKit in
theorem Tryz.strconv_ParseInt_10_at64_ok (s : ByteArray) (hmax : s.size ≤ 9223372036854775806) (v : Int) (h : Lib.parseIntB 64 s.data.toList = .ok v) (w : World) :
  Calls Tryz.prog 90 #[.string s, .int .i64 10, .int .i64 64] w fun e w' => e = .returned (.tuple #[.int .i64 v, .nilIface]) ∧ (w' = w ∨ ∃ t, w' = Lib.bytesWorld w 5 t) := Any.strconv_ParseInt_10_at64_ok Tryz.laysC174 s hmax v h w
open Go.RowKit in
theorem Tryz.strconv_ParseInt_10_at64_syntax_var (s : ByteArray) (hlim : s.size ≤ 281474976710656) (h : (∀ v, Lib.parseIntB 64 s.data.toList ≠ .ok v) ∧ Lib.parseIntB 64 s.data.toList ≠ .range) (tp : TypeId) (p : Value) (w : World) (hvar : w.var? Tryz.prog "strconv.ErrSyntax" = some #[.iface tp p]) :
  Calls Tryz.prog 90 #[.string s, .int .i64 10, .int .i64 64] w fun e w' => ∃ N, e = .returned (.tuple #[.int .i64 (0), .iface 166 (.pointer (some ⟨N, 0, none⟩))]) ∧ w.heap.size ≤ N ∧ w'.heap[N]? = some (.cells #[.string ⟨#[80, 97, 114, 115, 101, 73, 110, 116]⟩, .string s, .iface tp p] 187 (0, 0)) ∧ Below w.heap.size w w' := Any.strconv_ParseInt_10_at64_syntax_var Tryz.laysC174 s hlim (by cases k : Lib.parseIntB 64 s.data.toList with | ok v => exact absurd k (h.1 v) | range => exact absurd k h.2 | _ => rfl) tp p w hvar
open Go.RowKit in
theorem Tryz.strconv_ParseInt_10_at64_range_var (s : ByteArray) (hlim : s.size ≤ 281474976710656) (h : Lib.parseIntB 64 s.data.toList = .range) (tp : TypeId) (p : Value) (w : World) (hvar : w.var? Tryz.prog "strconv.ErrRange" = some #[.iface tp p]) :
  Calls Tryz.prog 90 #[.string s, .int .i64 10, .int .i64 64] w fun e w' => ∃ N, e = .returned (.tuple #[.int .i64 (Lib.intSat 64 s.data.toList), .iface 166 (.pointer (some ⟨N, 0, none⟩))]) ∧ w.heap.size ≤ N ∧ w'.heap[N]? = some (.cells #[.string ⟨#[80, 97, 114, 115, 101, 73, 110, 116]⟩, .string s, .iface tp p] 187 (0, 0)) ∧ Below w.heap.size w w' := Any.strconv_ParseInt_10_at64_range_var Tryz.laysC174 s hlim h tp p w hvar
def Tryz.lays145_ren : Go.Shelf.Ren := ⟨fun | 145 => 61 | 220 => 86 | 219 => 112 | 217 => 98 | 225 => 135 | 224 => 136 | 267 => 137 | 266 => 124 | 314 => 153 | n => n, fun | 9 => 9 | 4 => 4 | 59 => 113 | 3 => 3 | 5 => 5 | 46 => 172 | 146 => 195 | 51 => 192 | n => n, fun | 1 => 0 | n => n⟩
theorem Tryz.lays145 : Go.Proofs.Lays.n145 Tryz.prog Tryz.lays145_ren := {
 mixed := by kernel_rfl
 f145 := Tryz.func61.trans (congrArg some (by kernel_rfl))
 f217 := Tryz.func98.trans (congrArg some (by kernel_rfl))
 f219 := Tryz.func112.trans (congrArg some (by kernel_rfl))
 f220 := Tryz.func86.trans (congrArg some (by kernel_rfl))
 f224 := Tryz.func136.trans (congrArg some (by kernel_rfl))
 f225 := Tryz.func135.trans (congrArg some (by kernel_rfl))
 f266 := Tryz.func124.trans (congrArg some (by kernel_rfl))
 f267 := Tryz.func137.trans (congrArg some (by kernel_rfl))
 f314 := Tryz.func153.trans (congrArg some (by kernel_rfl))
 t3 := Tryz.underlying3
 a3 := Tryz.isAgg3
 z3 := Tryz.sizeOf3
 v3 := Tryz.zeroValue3
 t4 := Tryz.underlying4
 a4 := Tryz.isAgg4
 z4 := Tryz.sizeOf4
 v4 := Tryz.zeroValue4
 t5 := Tryz.underlying5
 a5 := Tryz.isAgg5
 z5 := Tryz.sizeOf5
 v5 := Tryz.zeroValue5
 t9 := Tryz.underlying9
 a9 := Tryz.isAgg9
 z9 := Tryz.sizeOf9
 v9 := Tryz.zeroValue9
 t46 := Tryz.underlying172
 a46 := Tryz.isAgg172
 z46 := Tryz.sizeOf172
 v46 := Tryz.zeroValue172
 t51 := Tryz.underlying192
 a51 := Tryz.isAgg192
 z51 := Tryz.sizeOf192
 v51 := Tryz.zeroValue192
 t59 := Tryz.underlying113
 a59 := Tryz.isAgg113
 z59 := Tryz.sizeOf113
 v59 := Tryz.zeroValue113
 t146 := Tryz.underlying195
 a146 := Tryz.isAgg195
 z146 := Tryz.sizeOf195
 v146 := Tryz.zeroValue195
 g1 := by kernel_rfl }
open Go.RowKit Go.Lib in
theorem Tryz.strings_Cut (s sep : ByteArray) (m : Int) (w : World) (hs : s.size < 4294967281) (hm : w.cell? ⟨0, 0, none⟩ = some (.int .i64 m)) :
  Calls Tryz.prog 61 #[.string s, .string sep] w fun e w' => e = .returned (.tuple #[.string ⟨(Lib.cut s.data.toList sep.data.toList).1.toArray⟩, .string ⟨(Lib.cut s.data.toList sep.data.toList).2.1.toArray⟩, .bool (Lib.cut s.data.toList sep.data.toList).2.2]) ∧ ∃ n, w' = w.drewN n := Any.strings_Cut Tryz.lays145 s sep m w hs hm
def Tryz.laysM145_ren : Go.Shelf.Ren := ⟨fun | 145 => 61 | 220 => 86 | 219 => 112 | 217 => 98 | 225 => 135 | 224 => 136 | 267 => 137 | 266 => 124 | 314 => 153 | n => n, fun | 9 => 9 | 4 => 4 | 59 => 113 | 3 => 3 | 5 => 5 | 46 => 172 | 146 => 195 | 51 => 192 | n => n, fun | 1 => 0 | n => n⟩
theorem Tryz.laysM145 : Go.Proofs.LaysM.n145 Tryz.prog Tryz.laysM145_ren := {
 mixed := by kernel_rfl
 f145 := Tryz.func61.trans (congrArg some (by kernel_rfl))
 f217 := Tryz.func98.trans (congrArg some (by kernel_rfl))
 f219 := Tryz.func112.trans (congrArg some (by kernel_rfl))
 f220 := Tryz.func86.trans (congrArg some (by kernel_rfl))
 f224 := Tryz.func136.trans (congrArg some (by kernel_rfl))
 f225 := Tryz.func135.trans (congrArg some (by kernel_rfl))
 f266 := Tryz.func124.trans (congrArg some (by kernel_rfl))
 f267 := Tryz.func137.trans (congrArg some (by kernel_rfl))
 f314 := Tryz.func153.trans (congrArg some (by kernel_rfl))
 t3 := Tryz.underlying3
 a3 := Tryz.isAgg3
 z3 := Tryz.sizeOf3
 v3 := Tryz.zeroValue3
 t4 := Tryz.underlying4
 a4 := Tryz.isAgg4
 z4 := Tryz.sizeOf4
 v4 := Tryz.zeroValue4
 t5 := Tryz.underlying5
 a5 := Tryz.isAgg5
 z5 := Tryz.sizeOf5
 v5 := Tryz.zeroValue5
 t9 := Tryz.underlying9
 a9 := Tryz.isAgg9
 z9 := Tryz.sizeOf9
 v9 := Tryz.zeroValue9
 t46 := Tryz.underlying172
 a46 := Tryz.isAgg172
 z46 := Tryz.sizeOf172
 v46 := Tryz.zeroValue172
 t51 := Tryz.underlying192
 a51 := Tryz.isAgg192
 z51 := Tryz.sizeOf192
 v51 := Tryz.zeroValue192
 t59 := Tryz.underlying113
 a59 := Tryz.isAgg113
 z59 := Tryz.sizeOf113
 v59 := Tryz.zeroValue113
 t146 := Tryz.underlying195
 a146 := Tryz.isAgg195
 z146 := Tryz.sizeOf195
 v146 := Tryz.zeroValue195
 g1 := by kernel_rfl
 i3 := by kernel_rfl
 i4 := by kernel_rfl
 i5 := by kernel_rfl
 i9 := by kernel_rfl
 i46 := by kernel_rfl
 i51 := by kernel_rfl
 i59 := by kernel_rfl
 i146 := by kernel_rfl
 m1 := by kernel_rfl
 s1_3 := fun w h => Go.Proofs.cell_of_shapedOpen_int (zero := #[.int .i64 0]) (t := 3) h (of_decide_eq_true (by kernel_rfl)) (by kernel_rfl) rfl (by kernel_rfl) (by kernel_rfl) Tryz.underlying3 }
def Tryz.lays146_ren : Go.Shelf.Ren := ⟨fun | 146 => 62 | 221 => 87 | 268 => 113 | 138 => 114 | 143 => 115 | 195 => 138 | 197 => 139 | 218 => 140 | 219 => 112 | 260 => 154 | 217 => 98 | 225 => 135 | 224 => 136 | 267 => 137 | 266 => 124 | 314 => 153 | n => n, fun | 9 => 9 | 31 => 53 | 3 => 3 | 4 => 4 | 0 => 0 | 105 => 181 | 21 => 21 | 5 => 5 | 46 => 172 | 119 => 207 | 139 => 210 | 138 => 209 | 146 => 195 | 51 => 192 | n => n, fun | 1 => 0 | 3 => 4 | 4 => 5 | n => n⟩
theorem Tryz.lays146 : Go.Proofs.Lays.n146 Tryz.prog Tryz.lays146_ren := {
 mixed := by kernel_rfl
 f138 := Tryz.func114.trans (congrArg some (by kernel_rfl))
 f143 := Tryz.func115.trans (congrArg some (by kernel_rfl))
 f146 := Tryz.func62.trans (congrArg some (by kernel_rfl))
 f195 := Tryz.func138.trans (congrArg some (by kernel_rfl))
 f197 := Tryz.func139.trans (congrArg some (by kernel_rfl))
 f217 := Tryz.func98.trans (congrArg some (by kernel_rfl))
 f218 := Tryz.func140.trans (congrArg some (by kernel_rfl))
 f219 := Tryz.func112.trans (congrArg some (by kernel_rfl))
 f221 := Tryz.func87.trans (congrArg some (by kernel_rfl))
 f224 := Tryz.func136.trans (congrArg some (by kernel_rfl))
 f225 := Tryz.func135.trans (congrArg some (by kernel_rfl))
 f260 := Tryz.func154.trans (congrArg some (by kernel_rfl))
 f266 := Tryz.func124.trans (congrArg some (by kernel_rfl))
 f267 := Tryz.func137.trans (congrArg some (by kernel_rfl))
 f268 := Tryz.func113.trans (congrArg some (by kernel_rfl))
 f314 := Tryz.func153.trans (congrArg some (by kernel_rfl))
 t0 := Tryz.underlying0
 a0 := Tryz.isAgg0
 z0 := Tryz.sizeOf0
 v0 := Tryz.zeroValue0
 t3 := Tryz.underlying3
 a3 := Tryz.isAgg3
 z3 := Tryz.sizeOf3
 v3 := Tryz.zeroValue3
 t4 := Tryz.underlying4
 a4 := Tryz.isAgg4
 z4 := Tryz.sizeOf4
 v4 := Tryz.zeroValue4
 t5 := Tryz.underlying5
 a5 := Tryz.isAgg5
 z5 := Tryz.sizeOf5
 v5 := Tryz.zeroValue5
 t9 := Tryz.underlying9
 a9 := Tryz.isAgg9
 z9 := Tryz.sizeOf9
 v9 := Tryz.zeroValue9
 t21 := Tryz.underlying21
 a21 := Tryz.isAgg21
 z21 := Tryz.sizeOf21
 v21 := Tryz.zeroValue21
 t31 := Tryz.underlying53
 a31 := Tryz.isAgg53
 z31 := Tryz.sizeOf53
 v31 := Tryz.zeroValue53
 t46 := Tryz.underlying172
 a46 := Tryz.isAgg172
 z46 := Tryz.sizeOf172
 v46 := Tryz.zeroValue172
 t51 := Tryz.underlying192
 a51 := Tryz.isAgg192
 z51 := Tryz.sizeOf192
 v51 := Tryz.zeroValue192
 t105 := Tryz.underlying181
 a105 := Tryz.isAgg181
 z105 := Tryz.sizeOf181
 v105 := Tryz.zeroValue181
 t119 := Tryz.underlying207
 a119 := Tryz.isAgg207
 z119 := Tryz.sizeOf207
 t138 := Tryz.underlying209
 a138 := Tryz.isAgg209
 z138 := Tryz.sizeOf209
 v138 := Tryz.zeroValue209
 t139 := Tryz.underlying210
 a139 := Tryz.isAgg210
 z139 := Tryz.sizeOf210
 v139 := Tryz.zeroValue210
 t146 := Tryz.underlying195
 a146 := Tryz.isAgg195
 z146 := Tryz.sizeOf195
 v146 := Tryz.zeroValue195
 g1 := by kernel_rfl
 g3 := by kernel_rfl
 g4 := by kernel_rfl }
open Go.RowKit Go.Lib in
theorem Tryz.strings_Split (s sep : ByteArray) (m : Int) (w : World) (hs : s.size < 4294967281) (hm : w.cell? ⟨0, 0, none⟩ = some (.int .i64 m)) (h1 : 1 ≤ sep.size) :
  Calls Tryz.prog 62 #[.string s, .string sep] w fun e w' =>
   e = .returned (.slice (some ⟨w.heap.size, 0, none⟩) (Lib.countB s sep + 1) (Lib.countB s sep + 1)) ∧ w' = w.alloc (.cells ((Lib.splitB sep 0 (Lib.countB s sep) s).map Value.string).toArray 9) := Any.strings_Split Tryz.lays146 (by kernel_rfl) s sep m w hs hm h1
end Go.Proofs
namespace Go.Proofs.YtbbnkclajpaghaaGreatDoor
section
open Go.ChangeShapes Go.WideShapes Go.ChangeAt Go.RowKit
attribute [local go_sem ↓] Go.wp_at_zero Go.wp_at_succ
theorem var_keep {P : Program} {w w' : World} {n : String} {cs : Array Value} (h : w.var? P n = some cs) (hb : Below w.heap.size w w') : w'.var? P n = some cs := by
 unfold World.var? at h ⊢
 cases hg : P.globalNamed n with
 | none => rw [hg] at h; cases h
 | some g =>
  rw [hg] at h
  simp only [Option.bind_some] at h ⊢
  cases hh : w.heap[g]? with
  | none => rw [hh] at h; cases h
  | some o =>
   rw [hh] at h
   rw [blk_next hb hh]
   exact h
structure GL (w : World) : Prop where
 tab : Lib.TabIs Tryz.prog w "internal/strconv.uint64pow10" .u64 Lib.pow10Tab
 syn : ∃ tp p, w.var? Tryz.prog "strconv.ErrSyntax" = some #[.iface tp p]
 ran : ∃ tp p, w.var? Tryz.prog "strconv.ErrRange" = some #[.iface tp p]
 max : ∃ m, w.cell? ⟨0, 0, none⟩ = some (.int .i64 m)
theorem cell_keep {w w' : World} {a : Addr} {v : Value} (h : w.cell? a = some v) (hb : Below w.heap.size w w') : w'.cell? a = some v := by
 have : a.block < w.heap.size := by
  unfold World.cell? at h
  cases hh : w.heap[a.block]? with
  | none => rw [hh] at h; cases h
  | some o => exact blk_lt hh
 exact (hb.cell this).trans h
theorem GL.next {w w' : World} (h : GL w) (hb : Below w.heap.size w w') : GL w' :=
 ⟨var_keep h.tab hb, by obtain ⟨t, p, e⟩ := h.syn; exact ⟨t, p, var_keep e hb⟩, by obtain ⟨t, p, e⟩ := h.ran; exact ⟨t, p, var_keep e hb⟩, by obtain ⟨m, e⟩ := h.max; exact ⟨m, cell_keep e hb⟩⟩
abbrev Str (l : List UInt8) : Value := .string ⟨l.toArray⟩
theorem fmt_calls (n : Int) (w : World) (h1 : -9223372036854775808 ≤ n) (h2 : n ≤ 9223372036854775807) (g : GL w) :
  Calls Tryz.prog 80 #[.int .i64 n, .int .i64 10] w fun e w' => e = .returned (Str (Lib.itoa n)) ∧ Below w.heap.size w w' :=
 (Tryz.strconv_FormatInt_10 n h1 h2 w g.tab).mono fun e w' ⟨h, k, os, hw⟩ => ⟨h, by rw [hw]; exact Lib.below_grow _ _ (Nat.le_refl _) k os⟩
theorem cutS_calls (s : ByteArray) (w : World) (hs : s.size < 4294967281) (g : GL w) :
  Calls Tryz.prog 61 #[.string s, .string ⟨#[47]⟩] w fun e w' => e = .returned (.tuple #[Str (Lib.cut s.data.toList [47]).1, Str (Lib.cut s.data.toList [47]).2.1, .bool (Lib.cut s.data.toList [47]).2.2]) ∧ Below w.heap.size w w' := by
 obtain ⟨m, hm⟩ := g.max
 exact (Tryz.strings_Cut s ⟨#[47]⟩ m w hs hm).mono fun e w' ⟨h, k, hw⟩ => ⟨h, by rw [hw]; exact below_drewN (Below.refl _ _) k⟩
theorem parse_bounds {l : List UInt8} {v : Int} (h : Lib.parseIntB 64 l = .ok v) : -9223372036854775808 ≤ v ∧ v ≤ 9223372036854775807 := by
 have := Lib.parseIntB_bounds h
 rw [show ((2 ^ (64 - 1) : Nat) : Int) = 9223372036854775808 from rfl] at this
 omega
def PI (l : List UInt8) (w : World) (e : Ending) (w' : World) : Prop :=
 (∃ v, Lib.parseIntB 64 l = .ok v ∧ -9223372036854775808 ≤ v ∧ v ≤ 9223372036854775807 ∧ e = .returned (.tuple #[.int .i64 v, .nilIface]) ∧ Below w.heap.size w w') ∨ ((∀ v, Lib.parseIntB 64 l ≠ .ok v) ∧ ∃ v t p, e = .returned (.tuple #[.int .i64 v, .iface t p]) ∧ Below w.heap.size w w')
theorem parse_calls (s : ByteArray) (w : World) (hs : s.size ≤ 4294967281) (g : GL w) :
  Calls Tryz.prog 90 #[.string s, .int .i64 10, .int .i64 64] w (PI s.data.toList w) := by
 cases h : Lib.parseIntB 64 s.data.toList with
 | ok v =>
  refine (Tryz.strconv_ParseInt_10_at64_ok s (by omega) v h w).mono fun e w' ⟨h1, h2⟩ => .inl ⟨v, h, ?_, ?_, h1, ?_⟩
  ·exact (parse_bounds h).1
  ·exact (parse_bounds h).2
  ·rcases h2 with rfl | ⟨t, rfl⟩
   ·exact Below.refl _ _
   ·exact Lib.bytesWorld_below _ _ _
 | range =>
  obtain ⟨tp, p, hv⟩ := g.ran
  exact (Tryz.strconv_ParseInt_10_at64_range_var s (by omega) h tp p w hv).mono fun e w' ⟨N, h1, h2, h3, h4⟩ => .inr ⟨fun v => (by rw [h]; intro k; cases k), _, _, _, h1, h4⟩
 | _ =>
  obtain ⟨tp, p, hv⟩ := g.syn
  exact (Tryz.strconv_ParseInt_10_at64_syntax_var s (by omega) ⟨fun v => (by rw [h]; intro k; cases k), by rw [h]; intro k; cases k⟩ tp p w hv).mono fun e w' ⟨N, h1, h2, h3, h4⟩ => .inr ⟨fun v => (by rw [h]; intro k; cases k), _, _, _, h1, h4⟩
theorem cat2 (a b : List UInt8) : (⟨a.toArray⟩ : ByteArray) ++ ⟨b.toArray⟩ = ⟨(a ++ b).toArray⟩ := by
 rw [ByteArray.ext_iff, ByteArray.data_append]
 simp
theorem cat3 (a b : List UInt8) : (⟨a.toArray⟩ : ByteArray) ++ ((⟨#[47]⟩ : ByteArray) ++ ⟨b.toArray⟩) = ⟨(a ++ 47 :: b).toArray⟩ := by
 rw [show (⟨#[47]⟩ : ByteArray) = ⟨[47].toArray⟩ from rfl, cat2, cat2]
 rfl
def txR (n d : Int) : List UInt8 := if errF n d = 0 then textL n d else []
theorem text_calls (n d : Int) (w : World) (g : GL w) :
  Calls Tryz.prog 52 #[Fv n d] w fun e w' => e = .returned (.tuple #[Str (txR n d), .int .i64 (errF n d)]) ∧ Below w.heap.size w w' := by
 have C1 := zh (fun W => check_calls n d W)
 have G := zh g
 clear g
 by_cases ck : errF n d = 0
 rotate_left
 ·have F : Hid (txR n d = []) := zh (by unfold txR; rw [if_neg ck])
  have ck' : (errF n d != 0) = true := by rw [bne_iff_ne]; exact ck
  generalize txR n d = res at *
  generalize errF n d = er at *
  clear ck
  go_enter Tryz.func52, Tryz.ntmps52
  go_wp2_with fail
  refine (C1.out _).mono ?_
  rintro e w1 ⟨rfl, hb⟩
  have NN := zh (Bgo (Bal (Below.refl _ _) _) hb)
  clear hb
  go_wp2_with fail
  go_ret2
  exact ⟨by rw [F.out]; rfl, NN.out⟩
 have v := errF_ok ck
 have F : Hid (txR n d = textL n d) := zh (by unfold txR; rw [if_pos ck])
 rw [ck] at C1 ⊢
 generalize txR n d = res at *
 have n1 := v.n1
 have n2 := v.n2
 have d1 := v.d1
 have d2 := v.d2
 have T1 := zh (fun W (h : GL W) => fmt_calls n W (by omega) (by omega) h)
 have T2 := zh (fun W (h : GL W) => fmt_calls d W (by omega) (by omega) h)
 have FT : Hid (textL n d = if d = 1 then Lib.itoa n else Lib.itoa n ++ 47 :: Lib.itoa d) := zh rfl
 have ln := Lib.itoa_length_le n (by omega) (by omega)
 have ld := Lib.itoa_length_le d (by omega) (by omega)
 generalize Lib.itoa n = tn at *
 generalize Lib.itoa d = td at *
 clear ck v
 by_cases hd : d = 1
 ·have F2 := zh (F.out.trans (FT.out.trans (if_pos hd)))
  clear F FT
  subst hd
  go_enter Tryz.func52, Tryz.ntmps52
  go_wp2_with fail
  refine (C1.out _).mono ?_
  rintro e w1 ⟨rfl, hb⟩
  have NN := zh (Bgo (Bal (Below.refl _ _) _) hb)
  have K := zh (blk_next hb (blk_new w (.cells #[.int .i64 n, .int .i64 1] 83)))
  replace G := zh (G.out.next NN.out)
  clear hb
  obtain ⟨a0, a1, al⟩ := zcl2 K
  go_wp2_with fail
  refine (T1.out _ G.out).mono ?_
  rintro e w2 ⟨rfl, hb⟩
  clear a0 a1 al
  replace NN := zh (Bgo NN.out hb)
  replace K := zn hb K
  replace G := zh (G.out.next hb)
  clear hb
  obtain ⟨a0, a1, al⟩ := zcl2 K
  go_wp2_with fail
  go_ret2
  exact ⟨by rw [F2.out]; rfl, NN.out⟩
 ·have F2 := zh (F.out.trans (FT.out.trans (if_neg hd)))
  clear F FT
  have hd' : (d != 1) = true := by rw [bne_iff_ne]; exact hd
  clear hd
  go_enter Tryz.func52, Tryz.ntmps52
  go_wp2_with fail
  refine (C1.out _).mono ?_
  rintro e w1 ⟨rfl, hb⟩
  have NN := zh (Bgo (Bal (Below.refl _ _) _) hb)
  have K := zh (blk_next hb (blk_new w (.cells #[.int .i64 n, .int .i64 d] 83)))
  replace G := zh (G.out.next NN.out)
  clear hb
  obtain ⟨a0, a1, al⟩ := zcl2 K
  go_wp2_with fail
  refine (T1.out _ G.out).mono ?_
  rintro e w2 ⟨rfl, hb⟩
  clear a0 a1 al
  replace NN := zh (Bgo NN.out hb)
  replace K := zn hb K
  replace G := zh (G.out.next hb)
  clear hb
  obtain ⟨a0, a1, al⟩ := zcl2 K
  go_wp2_with fail
  refine (T2.out _ G.out).mono ?_
  rintro e w3 ⟨rfl, hb⟩
  replace NN := zh (Bgo NN.out hb)
  clear hb a0 a1 al
  go_wp2_with fail
  rw [cat3 tn td, ← F2.out]
  go_ret2
  exact ⟨rfl, NN.out⟩
end
section
open Go.ChangeShapes Go.WideShapes Go.ChangeAt Go.RowKit
attribute [local go_sem ↓] Go.wp_at_zero Go.wp_at_succ
theorem PR.none {l : List UInt8} (h : ∀ n d, VF n d → textL n d ≠ l) : PR l (0, 0, 12) := .inr ⟨rfl, h⟩
theorem PR.some {l : List UInt8} {n d : Int} (h1 : errF n d = 0) (h2 : txR n d = l) : PR l (n, d, 0) := by
 refine .inl ⟨rfl, errF_ok h1, ?_⟩
 unfold txR at h2
 rwa [if_pos h1] at h2
theorem VF.itoaN {n d : Int} (v : VF n d) : Lib.parseIntB 64 (Lib.itoa n) = .ok n := parseI_itoa (by have := v.n1; omega) (by have := v.n2; omega)
theorem VF.itoaD {n d : Int} (v : VF n d) : Lib.parseIntB 64 (Lib.itoa d) = .ok d := parseI_itoa (by have := v.d1; omega) (by have := v.d2; omega)
theorem VF.tx {n d : Int} (v : VF n d) : txR n d = textL n d := by unfold txR; rw [if_pos v.err]
theorem s_len (s : ByteArray) : s.data.toList.length = s.size := by rw [Array.length_toList]; rfl
theorem parseP_calls (s : ByteArray) (w : World) (g : GL w) :
  Calls Tryz.prog 64 #[.string s] w fun e w' => ∃ r, e = .returned (Rv r) ∧ PR s.data.toList r ∧ Below w.heap.size w w' := by
 have G := zh g
 clear g
 have SL := s_len s
 by_cases big : 40 < s.size
 ·have NO := zh (PR.none (l := s.data.toList) (fun n d v h => by have := text_len v; rw [h] at this; omega))
  clear SL
  have bg : decide ((40 : Int) < (s.size : Int)) = true := decide_eq_true (by omega)
  go_enter Tryz.func64, Tryz.ntmps64
  go_wp2_with fail
  have K := zh (blk_new w (.cells #[.int .i64 0, .int .i64 0] 83))
  have NN := zh (Bal (Below.refl w.heap.size w) (.cells #[.int .i64 0, .int .i64 0] 83))
  refine bodyPost_ret (v := Rv (0, 0, 12)) (by simp [results, Tryz.results64, go_sem]) rfl ⟨_, rfl, NO.out, by first | exact NN.out | exact Bset1 (Bset1 NN.out (Nat.le_refl _) _ _) (Nat.le_refl _) _ _⟩
 have bg : decide ((40 : Int) < (s.size : Int)) = false := decide_eq_false (by omega)
 have CC := zh (fun W (h : GL W) => cutS_calls s W (by omega) h)
 have CT : Hid (∀ n d, VF n d → textL n d = s.data.toList → Lib.cut s.data.toList [47] = (Lib.itoa n, if d = 1 then [] else Lib.itoa d, !decide (d = 1))) := zh (fun n d v h => by rw [← h, cut_text])
 have LL : (Lib.cut s.data.toList [47]).1.length ≤ 40 ∧ (Lib.cut s.data.toList [47]).2.1.length ≤ 40 := by
  unfold Lib.cut; split <;> simp <;> omega
 obtain ⟨⟨la, lb, f⟩, hc⟩ : ∃ r, Lib.cut s.data.toList [47] = r := ⟨_, rfl⟩
 rw [hc] at CC CT LL
 clear hc
 obtain ⟨ll1, ll2⟩ := LL
 have P1 := zh (fun W (h : GL W) => parse_calls ⟨la.toArray⟩ W (by have := s_len ⟨la.toArray⟩; simp at this ll1; omega) h)
 have P2 := zh (fun W (h : GL W) => parse_calls ⟨lb.toArray⟩ W (by have := s_len ⟨lb.toArray⟩; simp at this ll2; omega) h)
 rw [show (⟨la.toArray⟩ : ByteArray).data.toList = la by simp] at P1
 rw [show (⟨lb.toArray⟩ : ByteArray).data.toList = lb by simp] at P2
 clear big SL ll1 ll2
 go_enter Tryz.func64, Tryz.ntmps64
 go_wp2_with fail
 have K := zh (blk_new w (.cells #[.int .i64 0, .int .i64 0] 83))
 have NN := zh (Bal (Below.refl w.heap.size w) (.cells #[.int .i64 0, .int .i64 0] 83))
 replace G := zh (G.out.next NN.out)
 generalize w.alloc (.cells #[.int .i64 0, .int .i64 0] 83) = W0 at *
 refine (CC.out _ G.out).mono ?_
 rintro e w1 ⟨rfl, hb⟩
 replace NN := zh (Bgo NN.out hb)
 replace K := zn hb K
 replace G := zh (G.out.next hb)
 clear hb
 clear CC
 go_wp2_with fail
 refine (P1.out _ G.out).mono ?_
 clear P1
 rintro e w2 (⟨num, pn, n1, n2, rfl, hb⟩ | ⟨pn, v2, t2, p2, rfl, hb⟩)
 rotate_left
 ·have NO := zh (PR.none (l := s.data.toList) (fun n d v h => by have := CT.out n d v h; simp only [Prod.mk.injEq] at this; exact pn n (by rw [this.1]; exact v.itoaN)))
  clear pn CT
  replace NN := zh (Bgo NN.out hb)
  replace K := zn hb K
  replace G := zh (G.out.next hb)
  clear hb
  obtain ⟨z0, f0, z1, f1, zl⟩ := zfl2 K
  go_wp2_with fail
  have e1 := blk_cell (blk_set (blk_set K.out 0 (.int .i64 0)) 1 (.int .i64 0)) 0 _ rfl
  have e2 := blk_cell (blk_set (blk_set K.out 0 (.int .i64 0)) 1 (.int .i64 0)) 1 _ rfl
  refine bodyPost_ret (v := Rv (0, 0, 12)) (by simp [results, Tryz.results64, go_sem, e1, e2]) rfl ⟨_, rfl, NO.out, Bset1 (Bset1 NN.out (Nat.le_refl _) _ _) (Nat.le_refl _) _ _⟩
 replace NN := zh (Bgo NN.out hb)
 replace K := zn hb K
 replace G := zh (G.out.next hb)
 clear hb
 have PN := zh pn
 clear pn
 cases f with
 | true =>
  go_wp2_with fail
  refine (P2.out _ G.out).mono ?_
  clear P2
  rintro e w3 (⟨den, pd, d1, d2, rfl, hb⟩ | ⟨pd, v3, t3, p3, rfl, hb⟩)
  rotate_left
  ·have NO := zh (PR.none (l := s.data.toList) (fun n d v h => by
    have := CT.out n d v h; simp only [Prod.mk.injEq] at this
    have hd : ¬ d = 1 := by have := this.2.2; simpa using this
    rw [if_neg hd] at this
    exact pd d (by rw [this.2.1]; exact v.itoaD)))
   clear pd CT
   replace NN := zh (Bgo NN.out hb)
   replace K := zn hb K
   replace G := zh (G.out.next hb)
   clear hb
   obtain ⟨z0, f0, z1, f1, zl⟩ := zfl2 K
   go_wp2_with fail
   have e1 := blk_cell (blk_set (blk_set K.out 0 (.int .i64 0)) 1 (.int .i64 0)) 0 _ rfl
   have e2 := blk_cell (blk_set (blk_set K.out 0 (.int .i64 0)) 1 (.int .i64 0)) 1 _ rfl
   refine bodyPost_ret (v := Rv (0, 0, 12)) (by simp [results, Tryz.results64, go_sem, e1, e2]) rfl ⟨_, rfl, NO.out, Bset1 (Bset1 NN.out (Nat.le_refl _) _ _) (Nat.le_refl _) _ _⟩
  ·have UN : Hid (∀ n d, VF n d → textL n d = s.data.toList → errF num den = 0 ∧ txR num den = s.data.toList) := zh (fun n d v h => by
    have := CT.out n d v h; simp only [Prod.mk.injEq] at this
    have hd : ¬ d = 1 := by have := this.2.2; simpa using this
    rw [if_neg hd] at this
    have en := PN.out
    rw [this.1, v.itoaN] at en
    rw [this.2.1, v.itoaD] at pd
    cases en; cases pd
    exact ⟨v.err, by rw [v.tx]; exact h⟩)
   clear pd CT PN
   replace NN := zh (Bgo NN.out hb)
   replace K := zn hb K
   replace G := zh (G.out.next hb)
   clear hb
   have TC := zh (fun W (h : GL W) => text_calls num den W h)
   have OKR := zh (fun (h1 : errF num den = 0) (h2 : txR num den = s.data.toList) => PR.some h1 h2)
   obtain ⟨tx, htx⟩ : ∃ z, txR num den = z := ⟨_, rfl⟩
   obtain ⟨er, her⟩ : ∃ z, errF num den = z := ⟨_, rfl⟩
   rw [htx, her] at TC OKR UN
   clear htx her
   obtain ⟨HB, A⟩ := zl (w := w3) (.cells #[.int .i64 num, .int .i64 den] 83)
   replace NN := zh (Bgo NN.out HB.out)
   replace K := zn HB K
   replace G := zh (G.out.next HB.out)
   clear HB
   go_wp2_with fail
   generalize w3.alloc (.cells #[.int .i64 num, .int .i64 den] 83) = W4 at *
   generalize w3.heap.size = ga at *
   refine (TC.out _ G.out).mono ?_
   rintro e w5 ⟨rfl, hb⟩
   replace A := zn hb A
   replace NN := zh (Bgo NN.out hb)
   replace K := zn hb K
   replace G := zh (G.out.next hb)
   clear hb
   clear TC
   obtain ⟨z0, f0, z1, f1, zl⟩ := zfl2 K
   obtain ⟨a0, a1, al⟩ := zcl2 A
   by_cases ez : er = 0
   rotate_left
   ·have ez' : (er != 0) = true := by rw [bne_iff_ne]; exact ez
    have NO := zh (PR.none (l := s.data.toList) (fun n d v h => ez (UN.out n d v h).1))
    clear UN OKR ez
    go_wp2_with fail
    have e1 := blk_cell (blk_set (blk_set K.out 0 (.int .i64 0)) 1 (.int .i64 0)) 0 _ rfl
    have e2 := blk_cell (blk_set (blk_set K.out 0 (.int .i64 0)) 1 (.int .i64 0)) 1 _ rfl
    refine bodyPost_ret (v := Rv (0, 0, 12)) (by simp [results, Tryz.results64, go_sem, e1, e2]) rfl ⟨_, rfl, NO.out, Bset1 (Bset1 NN.out (Nat.le_refl _) _ _) (Nat.le_refl _) _ _⟩
   subst ez
   by_cases et : tx = s.data.toList
   rotate_left
   ·have et' : (tx == s.toList) = false := by rw [ByteArray.toList_eq, beq_eq_false_iff_ne]; exact et
    have NO := zh (PR.none (l := s.data.toList) (fun n d v h => et (UN.out n d v h).2))
    clear UN OKR et
    go_wp2_with fail
    have e1 := blk_cell (blk_set (blk_set K.out 0 (.int .i64 0)) 1 (.int .i64 0)) 0 _ rfl
    have e2 := blk_cell (blk_set (blk_set K.out 0 (.int .i64 0)) 1 (.int .i64 0)) 1 _ rfl
    refine bodyPost_ret (v := Rv (0, 0, 12)) (by simp [results, Tryz.results64, go_sem, e1, e2]) rfl ⟨_, rfl, NO.out, Bset1 (Bset1 NN.out (Nat.le_refl _) _ _) (Nat.le_refl _) _ _⟩
   have R := zh (OKR.out rfl et)
   have et' : (tx == s.toList) = true := by rw [ByteArray.toList_eq, et]; exact beq_self_eq_true _
   clear UN OKR et
   go_wp2_with fail
   have e1 := blk_cell (blk_set (blk_set K.out 0 (.int .i64 num)) 1 (.int .i64 den)) 0 _ rfl
   have e2 := blk_cell (blk_set (blk_set K.out 0 (.int .i64 num)) 1 (.int .i64 den)) 1 _ rfl
   refine bodyPost_ret (v := Rv (num, den, 0)) (by simp [results, Tryz.results64, go_sem, e1, e2]) rfl ⟨_, rfl, R.out, Bset1 (Bset1 NN.out (Nat.le_refl _) _ _) (Nat.le_refl _) _ _⟩
 | false =>
  have UN : Hid (∀ n d, VF n d → textL n d = s.data.toList → errF num 1 = 0 ∧ txR num 1 = s.data.toList) := zh (fun n d v h => by
    have := CT.out n d v h; simp only [Prod.mk.injEq] at this
    have hd : d = 1 := by have := this.2.2; simpa using this
    subst hd
    have en := PN.out
    rw [this.1, v.itoaN] at en
    cases en
    exact ⟨v.err, by rw [v.tx]; exact h⟩)
  clear CT PN P2
  have TC := zh (fun W (h : GL W) => text_calls num 1 W h)
  have OKR := zh (fun (h1 : errF num 1 = 0) (h2 : txR num 1 = s.data.toList) => PR.some h1 h2)
  obtain ⟨tx, htx⟩ : ∃ z, txR num 1 = z := ⟨_, rfl⟩
  obtain ⟨er, her⟩ : ∃ z, errF num 1 = z := ⟨_, rfl⟩
  rw [htx, her] at TC OKR UN
  clear htx her
  obtain ⟨HB, A⟩ := zl (w := w2) (.cells #[.int .i64 num, .int .i64 1] 83)
  replace NN := zh (Bgo NN.out HB.out)
  replace K := zn HB K
  replace G := zh (G.out.next HB.out)
  clear HB
  go_wp2_with fail
  generalize w2.alloc (.cells #[.int .i64 num, .int .i64 1] 83) = W4 at *
  generalize w2.heap.size = ga at *
  refine (TC.out _ G.out).mono ?_
  rintro e w5 ⟨rfl, hb⟩
  replace A := zn hb A
  replace NN := zh (Bgo NN.out hb)
  replace K := zn hb K
  replace G := zh (G.out.next hb)
  clear hb
  clear TC
  obtain ⟨z0, f0, z1, f1, zl⟩ := zfl2 K
  obtain ⟨a0, a1, al⟩ := zcl2 A
  by_cases ez : er = 0
  rotate_left
  ·have ez' : (er != 0) = true := by rw [bne_iff_ne]; exact ez
   have NO := zh (PR.none (l := s.data.toList) (fun n d v h => ez (UN.out n d v h).1))
   clear UN OKR ez
   go_wp2_with fail
   have e1 := blk_cell (blk_set (blk_set K.out 0 (.int .i64 0)) 1 (.int .i64 0)) 0 _ rfl
   have e2 := blk_cell (blk_set (blk_set K.out 0 (.int .i64 0)) 1 (.int .i64 0)) 1 _ rfl
   refine bodyPost_ret (v := Rv (0, 0, 12)) (by simp [results, Tryz.results64, go_sem, e1, e2]) rfl ⟨_, rfl, NO.out, Bset1 (Bset1 NN.out (Nat.le_refl _) _ _) (Nat.le_refl _) _ _⟩
  subst ez
  by_cases et : tx = s.data.toList
  rotate_left
  ·have et' : (tx == s.toList) = false := by rw [ByteArray.toList_eq, beq_eq_false_iff_ne]; exact et
   have NO := zh (PR.none (l := s.data.toList) (fun n d v h => et (UN.out n d v h).2))
   clear UN OKR et
   go_wp2_with fail
   have e1 := blk_cell (blk_set (blk_set K.out 0 (.int .i64 0)) 1 (.int .i64 0)) 0 _ rfl
   have e2 := blk_cell (blk_set (blk_set K.out 0 (.int .i64 0)) 1 (.int .i64 0)) 1 _ rfl
   refine bodyPost_ret (v := Rv (0, 0, 12)) (by simp [results, Tryz.results64, go_sem, e1, e2]) rfl ⟨_, rfl, NO.out, Bset1 (Bset1 NN.out (Nat.le_refl _) _ _) (Nat.le_refl _) _ _⟩
  have R := zh (OKR.out rfl et)
  have et' : (tx == s.toList) = true := by rw [ByteArray.toList_eq, et]; exact beq_self_eq_true _
  clear UN OKR et
  go_wp2_with fail
  have e1 := blk_cell (blk_set (blk_set K.out 0 (.int .i64 num)) 1 (.int .i64 1)) 0 _ rfl
  have e2 := blk_cell (blk_set (blk_set K.out 0 (.int .i64 num)) 1 (.int .i64 1)) 1 _ rfl
  refine bodyPost_ret (v := Rv (num, 1, 0)) (by simp [results, Tryz.results64, go_sem, e1, e2]) rfl ⟨_, rfl, R.out, Bset1 (Bset1 NN.out (Nat.le_refl _) _ _) (Nat.le_refl _) _ _⟩
end
section
theorem okF_VF {n d : Int} (h : okF n d = true) : VF n d := errF_ok (by unfold errF; rw [h]; rfl)
theorem VF_okF {n d : Int} (h : VF n d) : okF n d = true := by
 unfold okF
 rw [h.g, decide_eq_true ⟨h.d1, h.d2, h.n1, h.n2⟩]; rfl
def prC (l : List UInt8) : Int × Int × Int := match Lib.cut l [47] with
 | (a, b, f) => match Lib.parseIntB 64 a with
  | .ok n => if f then (match Lib.parseIntB 64 b with
    | .ok d => if okF n d && (textL n d == l) then (n, d, 0) else (0, 0, 12)
    | _ => (0, 0, 12))
   else if okF n 1 && (textL n 1 == l) then (n, 1, 0) else (0, 0, 12)
  | _ => (0, 0, 12)
theorem prC_text {n d : Int} (v : VF n d) : prC (textL n d) = (n, d, 0) := by
 unfold prC
 rw [cut_text]
 simp only [v.itoaN]
 by_cases h : d = 1
 ·subst h
  simp [VF_okF v]
 ·simp only [h, decide_false, Bool.not_false, if_true, if_false]
  simp only [v.itoaD, VF_okF v, beq_self_eq_true, Bool.and_self, if_true]
theorem prC_form (l : List UInt8) : (∃ n d, VF n d ∧ textL n d = l ∧ prC l = (n, d, 0)) ∨ prC l = (0, 0, 12) := by
 have K : ∀ n d, (okF n d && (textL n d == l)) = true → VF n d ∧ textL n d = l := fun n d h => by
  rw [Bool.and_eq_true, beq_iff_eq] at h
  exact ⟨okF_VF h.1, h.2⟩
 unfold prC
 split
 split
 ·rename_i n hn
  split
  ·split
   ·rename_i d hd
    split
    ·rename_i h; exact .inl ⟨n, d, (K n d h).1, (K n d h).2, rfl⟩
    ·exact .inr rfl
   ·exact .inr rfl
  ·split
   ·rename_i h; exact .inl ⟨n, 1, (K n 1 h).1, (K n 1 h).2, rfl⟩
   ·exact .inr rfl
 ·exact .inr rfl
theorem prC_PR (l : List UInt8) : PR l (prC l) := by
 rcases prC_form l with ⟨n, d, v, h, e⟩ | e
 ·rw [e]; exact .inl ⟨rfl, v, h⟩
 ·rw [e]
  refine .inr ⟨rfl, fun n d v h => ?_⟩
  subst h
  rw [prC_text v] at e
  cases e
theorem PR.eq {l : List UInt8} {r : Int × Int × Int} (h : PR l r) : r = prC l := h.unique (prC_PR l)
end
section
open Go.ChangeShapes Go.WideShapes Go.ChangeAt Go.RowKit
structure Vr where
 t : Int
 c : Int
 i : Int
 j : Int
 re : Int
 im : Int
 dn : Int
 n : Int
abbrev Cv (r : Vr) : Value := .agg #[.int .i64 r.re, .int .i64 r.im, .int .i64 r.dn]
abbrev Wv (r : Vr) : Value := .agg #[.int .i64 r.i, .int .i64 r.j, .int .i64 r.re, .int .i64 r.im, .int .i64 r.dn, .int .i64 r.n]
abbrev Rwv (r : Vr) : Value := .agg #[.int .i64 r.t, .int .i64 r.c, .int .i64 r.i, .int .i64 r.j, .int .i64 r.re, .int .i64 r.im, .int .i64 r.dn, .int .i64 r.n]
def vr8 (r : Vr) : List Value := [.int .i64 r.t, .int .i64 r.c, .int .i64 r.i, .int .i64 r.j, .int .i64 r.re, .int .i64 r.im, .int .i64 r.dn, .int .i64 r.n]
def vrc (l : List Vr) : List Value := l.flatMap vr8
theorem vr8_len (r : Vr) : (vr8 r).length = 8 := rfl
theorem vrc_append (l m : List Vr) : vrc (l ++ m) = vrc l ++ vrc m := by simp [vrc]
theorem vrc_one (l : List Vr) : ∀ u ∈ vrc l, u.oneCell' = true := by
 intro u hu
 obtain ⟨s, _, hs⟩ := List.mem_flatMap.1 hu
 simp [vr8] at hs
 rcases hs with rfl | rfl | rfl | rfl | rfl | rfl | rfl | rfl <;> rfl
abbrev valB (a b c : Int) : Bool := Cxm.chkB a b c
def visB (r : Vr) : Bool := decide (0 ≤ r.i) && (decide (r.i < r.j) && (decide (r.j < 8) && (valB r.re r.im r.dn && (decide (0 ≤ r.n) && decide (r.n ≤ 1000000)))))
def rowB (r : Vr) : Bool := decide (0 ≤ r.t) && (decide (r.t < 64) && (decide (0 ≤ r.c) && (decide (r.c < 16) && visB r)))
def vkey (r : Vr) : Int := ((r.t * 16 + r.c) * 8 + r.i) * 8 + r.j
def kcmp (x y : Int) : Int := if x < y then -1 else if x = y then 0 else 1
def orI (a b : Int) : Int := if a = 0 then b else a
def rcmp (r s : Vr) : Int := orI (kcmp r.t s.t) (orI (kcmp r.c s.c) (orI (kcmp r.i s.i) (kcmp r.j s.j)))
theorem rowB_facts {r : Vr} (h : rowB r = true) : 0 ≤ r.t ∧ r.t < 64 ∧ 0 ≤ r.c ∧ r.c < 16 ∧ 0 ≤ r.i ∧ r.i < r.j ∧ r.j < 8 := by
 simp only [rowB, visB, Bool.and_eq_true, decide_eq_true_eq] at h
 omega
theorem rcmp_key {r s : Vr} (hr : rowB r = true) (hs : rowB s = true) : rcmp r s = kcmp (vkey r) (vkey s) := by
 have h1 := rowB_facts hr
 have h2 := rowB_facts hs
 unfold rcmp orI kcmp vkey
 repeat' split
 all_goals omega
theorem kcmp_lt {x y : Int} : kcmp x y < 0 ↔ x < y := by
 unfold kcmp
 repeat' split
 all_goals omega
theorem kcmp_eq {x y : Int} : kcmp x y = 0 ↔ x = y := by
 unfold kcmp
 repeat' split
 all_goals omega
theorem kcmp_ge {x y : Int} : 0 ≤ kcmp x y ↔ y ≤ x := by
 unfold kcmp
 repeat' split
 all_goals omega
def goodF : Option Vr → List Vr → Bool
 | _, [] => true
 | none, r :: l => rowB r && goodF (some r) l
 | some q, r :: l => rowB r && (decide (vkey q < vkey r) && goodF (some r) l)
def goodB (l : List Vr) : Bool := goodF none l
def chkE (l : List Vr) : Int := if 200 < l.length then 4 else if goodB l then 0 else 8
theorem goodF_none {q : Option Vr} {l : List Vr} (h : goodF q l = true) : goodF none l = true := by
 cases l with
 | nil => rfl
 | cons r l =>
  cases q with
  | none => exact h
  | some q => simp only [goodF, Bool.and_eq_true] at h ⊢; exact ⟨h.1, h.2.2⟩
theorem goodF_append {q : Option Vr} {l m : List Vr} : goodF q (l ++ m) = (goodF q l && goodF (match l.getLast? with | none => q | some x => some x) m) := by
 induction l generalizing q with
 | nil => simp [goodF]
 | cons r l ih =>
  have hl : (match (r :: l).getLast? with | none => q | some x => some x) = (match l.getLast? with | none => some r | some x => some x) := by
   rw [List.getLast?_cons]; cases l.getLast? <;> rfl
  rw [hl]
  cases q with
  | none => simp only [List.cons_append, goodF, ih, Bool.and_assoc]
  | some q => simp only [List.cons_append, goodF, ih, Bool.and_assoc]
theorem goodF_row {q : Option Vr} {l : List Vr} (h : goodF q l = true) : ∀ r ∈ l, rowB r = true := by
 induction l generalizing q with
 | nil => simp
 | cons r l ih =>
  intro x hx
  have h' := goodF_none h
  simp only [goodF, Bool.and_eq_true] at h'
  rcases List.mem_cons.1 hx with rfl | hx
  ·exact h'.1
  ·exact ih h'.2 x hx
theorem goodF_gt {q : Vr} {l : List Vr} (h : goodF (some q) l = true) : ∀ r ∈ l, vkey q < vkey r := by
 induction l generalizing q with
 | nil => simp
 | cons r l ih =>
  intro x hx
  simp only [goodF, Bool.and_eq_true, decide_eq_true_eq] at h
  rcases List.mem_cons.1 hx with rfl | hx
  ·exact h.2.1
  ·have := ih h.2.2 x hx; omega
theorem good_split {pre rest : List Vr} {x : Vr} (h : goodB (pre ++ x :: rest) = true) : ∀ r ∈ rest, vkey x < vkey r := by
 unfold goodB at h
 rw [goodF_append, Bool.and_eq_true] at h
 have h2 := goodF_none h.2
 simp only [goodF, Bool.and_eq_true] at h2
 exact goodF_gt h2.2
def putE (l : List Vr) (r : Vr) : Int := if chkE l ≠ 0 then chkE l else if rowB r = false then 8 else if (l.any fun x => decide (vkey x = vkey r)) then 14 else if l.length = 200 then 4 else 0
def putL (l : List Vr) (r : Vr) : List Vr := if putE l r = 0 then l.takeWhile (fun x => decide (vkey x < vkey r)) ++ r :: l.dropWhile (fun x => decide (vkey x < vkey r)) else []
theorem chkE_good {l : List Vr} (h : chkE l = 0) : goodB l = true ∧ l.length ≤ 200 := by
 unfold chkE at h
 split at h
 ·omega
 ·split at h
  ·rename_i h1 h2; exact ⟨h2, by omega⟩
  ·omega
theorem tw_split {l pre rest : List Vr} {p : Vr → Bool} (hl : l = pre ++ rest) (h1 : ∀ x ∈ pre, p x = true) (h2 : ∀ x, rest.head? = some x → p x = false) : l.takeWhile p = pre ∧ l.dropWhile p = rest := by
 subst hl
 induction pre with
 | nil =>
  cases rest with
  | nil => simp
  | cons x rest => simp [h2 x rfl]
 | cons y pre ih =>
  have := ih (fun x hx => h1 x (List.mem_cons_of_mem _ hx))
  simp only [List.cons_append, List.takeWhile_cons, List.dropWhile_cons, h1 y (List.mem_cons_self ..), if_true]
  exact ⟨by rw [this.1], this.2⟩
def selE (l : List Vr) (i j : Int) : Int := if chkE l ≠ 0 then chkE l else if i < 0 ∨ j ≤ i ∨ 8 ≤ j then 2 else 0
def selB (i j : Int) (r : Vr) : Bool := decide (r.i = i) && decide (r.j = j)
def selL (l : List Vr) (i j : Int) : List Vr := if selE l i j = 0 then l.filter (selB i j) else []
def mskE (t c : Int) (b : List Bool) : Int := if 32 < t ∨ 16 < c then 4 else if t < 1 ∨ c < 1 ∨ (b.length : Int) ≠ t * c then 8 else 0
def drpR (c : Int) (b : List Bool) (r : Vr) : Vr := if b.getD (r.t * c + r.c).toNat false then { r with n := 0 } else r
def drpE (l : List Vr) (t c : Int) (b : List Bool) : Int := if chkE l ≠ 0 then chkE l else if mskE t c b ≠ 0 then mskE t c b else if (l.any fun r => decide (t ≤ r.t) || decide (c ≤ r.c)) then 2 else 0
def drpL (l : List Vr) (t c : Int) (b : List Bool) : List Vr := if drpE l t c b = 0 then l.map (drpR c b) else []
end
end Go.Proofs.YtbbnkclajpaghaaGreatDoor
