/- The library's contracts at this program, laid by the kit's tools. No condition but those that each states. -/
import Derived.Shelf.Small.Bits
import Derived.Shelf.Strconv.Atoi
import Derived.Shelf.Strconv.Itoa0
import Derived.Shelf.Strconv.Itoa1
import Derived.Shelf.LaysM
import Derived.Shelf.Strconv.Itoa2
import Derived.Shelf.Strconv.Itoa3
import Derived.Shelf.Strconv.Clone
import Derived.Shelf.Strconv.SyntaxError
import Derived.Shelf.LaysC
import Derived.Shelf.Strconv.ToError
import Derived.Shelf.Strconv.Lower
import Derived.Shelf.Strconv.ParseUint10
import Derived.Shelf.Strconv.ParseUint10Empty
import Derived.Shelf.Strconv.ParseUint10Any
import Derived.Shelf.Strconv.RangeError
import Derived.Shelf.Strconv.ToErrorRange
import Derived.Shelf.Strconv.ParseUintEmpty
import Derived.Shelf.Strconv.ParseUint10b64
import Derived.Shelf.Strconv.ParseUint10b32
import Derived.Shelf.Strconv.ParseUint10b16
import Derived.Shelf.Strconv.ParseUint10b8
import Derived.Shelf.Strconv.ParseUint10At
import Derived.Ground.MpProg
import Derived.Shelf.Pu.ParseUintPublic10
import Derived.Shelf.Pu.ErrVarParseUint
import Derived.Shelf.Bits.Mul64
import Derived.Test.YtibdipfhfaeooaaGreatDoorProg
set_option linter.unusedVariables false
namespace Go.Proofs
open Go.Shelf
def Tryz.laysM171_ren : Go.Shelf.Ren := ⟨fun | 171 => 96 | 243 => 135 | 246 => 160 | 283 => 184 | 284 => 185 | 285 => 186 | 286 => 187 | 129 => 176 | 317 => 195 | 318 => 196 | 319 => 197 | 320 => 198 | 337 => 200 | 338 => 201 | n => n, fun | 3 => 3 | 9 => 9 | 2 => 2 | 4 => 4 | 171 => 219 | 0 => 0 | 53 => 150 | 37 => 126 | 5 => 5 | 173 => 221 | 212 => 235 | 51 => 168 | 20 => 20 | 213 => 236 | 46 => 194 | 232 => 240 | 233 => 241 | n => n, fun | 17 => 4 | 18 => 5 | 19 => 6 | n => n⟩
theorem Tryz.laysM171 : Go.Proofs.LaysM.n171 Tryz.prog Tryz.laysM171_ren := {
 mixed := by kernel_rfl
 f129 := Tryz.func176.trans (congrArg some (by kernel_rfl))
 f171 := Tryz.func96.trans (congrArg some (by kernel_rfl))
 f243 := Tryz.func135.trans (congrArg some (by kernel_rfl))
 f246 := Tryz.func160.trans (congrArg some (by kernel_rfl))
 f283 := Tryz.func184.trans (congrArg some (by kernel_rfl))
 f284 := Tryz.func185.trans (congrArg some (by kernel_rfl))
 f285 := Tryz.func186.trans (congrArg some (by kernel_rfl))
 f286 := Tryz.func187.trans (congrArg some (by kernel_rfl))
 f317 := Tryz.func195.trans (congrArg some (by kernel_rfl))
 f318 := Tryz.func196.trans (congrArg some (by kernel_rfl))
 f319 := Tryz.func197.trans (congrArg some (by kernel_rfl))
 f320 := Tryz.func198.trans (congrArg some (by kernel_rfl))
 f337 := Tryz.func200.trans (congrArg some (by kernel_rfl))
 f338 := Tryz.func201.trans (congrArg some (by kernel_rfl))
 t0 := Tryz.underlying0
 a0 := Tryz.isAgg0
 z0 := Tryz.sizeOf0
 v0 := Tryz.zeroValue0
 t2 := Tryz.underlying2
 a2 := Tryz.isAgg2
 z2 := Tryz.sizeOf2
 v2 := Tryz.zeroValue2
 t3 := Tryz.underlying3
 a3 := Tryz.isAgg3
 z3 := Tryz.sizeOf3
 v3 := Tryz.zeroValue3
 t4 := Tryz.underlying4
 a4 := Tryz.isAgg4
 z4 := Tryz.sizeOf4
 v4 := Tryz.zeroValue4
 t5 := Tryz.underlying5
 a5 := Tryz.isAgg5
 z5 := Tryz.sizeOf5
 v5 := Tryz.zeroValue5
 t9 := Tryz.underlying9
 a9 := Tryz.isAgg9
 z9 := Tryz.sizeOf9
 v9 := Tryz.zeroValue9
 t20 := Tryz.underlying20
 a20 := Tryz.isAgg20
 z20 := Tryz.sizeOf20
 v20 := Tryz.zeroValue20
 t37 := Tryz.underlying126
 a37 := Tryz.isAgg126
 z37 := Tryz.sizeOf126
 v37 := Tryz.zeroValue126
 t46 := Tryz.underlying194
 a46 := Tryz.isAgg194
 z46 := Tryz.sizeOf194
 v46 := Tryz.zeroValue194
 t51 := Tryz.underlying168
 a51 := Tryz.isAgg168
 z51 := Tryz.sizeOf168
 v51 := Tryz.zeroValue168
 t53 := Tryz.underlying150
 a53 := Tryz.isAgg150
 z53 := Tryz.sizeOf150
 v53 := Tryz.zeroValue150
 t171 := Tryz.underlying219
 a171 := Tryz.isAgg219
 z171 := Tryz.sizeOf219
 v171 := Tryz.zeroValue219
 t173 := Tryz.underlying221
 a173 := Tryz.isAgg221
 z173 := Tryz.sizeOf221
 v173 := Tryz.zeroValue221
 t212 := Tryz.underlying235
 a212 := Tryz.isAgg235
 z212 := Tryz.sizeOf235
 v212 := Tryz.zeroValue235
 t213 := Tryz.underlying236
 a213 := Tryz.isAgg236
 z213 := Tryz.sizeOf236
 t232 := Tryz.underlying240
 a232 := Tryz.isAgg240
 z232 := Tryz.sizeOf240
 v232 := Tryz.zeroValue240
 t233 := Tryz.underlying241
 a233 := Tryz.isAgg241
 z233 := Tryz.sizeOf241
 v233 := Tryz.zeroValue241
 g17 := by kernel_rfl
 g18 := by kernel_rfl
 g19 := by kernel_rfl
 i0 := by kernel_rfl
 i2 := by kernel_rfl
 i3 := by kernel_rfl
 i4 := by kernel_rfl
 i5 := by kernel_rfl
 i9 := by kernel_rfl
 i20 := by kernel_rfl
 i37 := by kernel_rfl
 i46 := by kernel_rfl
 i51 := by kernel_rfl
 i53 := by kernel_rfl
 i171 := by kernel_rfl
 i173 := by kernel_rfl
 i212 := by kernel_rfl
 i232 := by kernel_rfl
 i233 := by kernel_rfl
 m17 := by kernel_rfl
 m18 := by kernel_rfl
 m19 := by kernel_rfl }
open Go.RowKit Go.Sort Go.Lib in
theorem Tryz.strconv_Itoa (n : Int) (h0 : -9223372036854775808 ≤ n) (h1 : n ≤ 9223372036854775807) (w : World) (htab : Lib.TabIs Tryz.prog w "internal/strconv.uint64pow10" .u64 Lib.pow10Tab) :
  Calls Tryz.prog 96 #[.int .i64 n] w fun e w' => e = .returned (.string ⟨(Lib.itoa n).toArray⟩) ∧ ∃ k os, w' = grow (w.drewN k) os := Any.strconv_Itoa Tryz.laysM171 n h0 h1 w htab
def Tryz.laysPu14_ren : Go.Shelf.Ren := ⟨fun | 14 => 125 | 16 => 158 | 17 => 107 | 19 => 182 | 20 => 183 | 21 => 143 | 22 => 144 | 23 => 145 | 24 => 146 | 25 => 164 | 27 => 96 | 26 => 165 | 28 => 135 | 29 => 160 | 30 => 184 | 31 => 185 | 32 => 186 | 33 => 187 | 35 => 176 | 34 => 195 | 36 => 196 | 37 => 197 | 38 => 198 | 39 => 200 | 40 => 201 | n => n, fun | 9 => 9 | 3 => 3 | 22 => 150 | 24 => 89 | 25 => 166 | 4 => 4 | 34 => 183 | 5 => 5 | 36 => 194 | 37 => 126 | 0 => 0 | 39 => 186 | 21 => 21 | 44 => 201 | 47 => 223 | 50 => 226 | 48 => 224 | 2 => 2 | 52 => 219 | 55 => 221 | 59 => 235 | 60 => 168 | 20 => 20 | 61 => 236 | 65 => 240 | 66 => 241 | 67 => 92 | n => n, fun | 0 => 0 | 1 => 1 | 2 => 4 | 3 => 5 | 4 => 6 | n => n⟩
theorem Tryz.laysPu14 : Go.Proofs.LaysPu.n14 Tryz.prog Tryz.laysPu14_ren := {
 mixed := by kernel_rfl
 f14 := Tryz.func125.trans (congrArg some (by kernel_rfl))
 f16 := Tryz.func158.trans (congrArg some (by kernel_rfl))
 f17 := Tryz.func107.trans (congrArg some (by kernel_rfl))
 f19 := Tryz.func182.trans (congrArg some (by kernel_rfl))
 f20 := Tryz.func183.trans (congrArg some (by kernel_rfl))
 f21 := Tryz.func143.trans (congrArg some (by kernel_rfl))
 f22 := Tryz.func144.trans (congrArg some (by kernel_rfl))
 f23 := Tryz.func145.trans (congrArg some (by kernel_rfl))
 f24 := Tryz.func146.trans (congrArg some (by kernel_rfl))
 f25 := Tryz.func164.trans (congrArg some (by kernel_rfl))
 f26 := Tryz.func165.trans (congrArg some (by kernel_rfl))
 f27 := Tryz.func96.trans (congrArg some (by kernel_rfl))
 f28 := Tryz.func135.trans (congrArg some (by kernel_rfl))
 f29 := Tryz.func160.trans (congrArg some (by kernel_rfl))
 f30 := Tryz.func184.trans (congrArg some (by kernel_rfl))
 f31 := Tryz.func185.trans (congrArg some (by kernel_rfl))
 f32 := Tryz.func186.trans (congrArg some (by kernel_rfl))
 f33 := Tryz.func187.trans (congrArg some (by kernel_rfl))
 f34 := Tryz.func195.trans (congrArg some (by kernel_rfl))
 f35 := Tryz.func176.trans (congrArg some (by kernel_rfl))
 f36 := Tryz.func196.trans (congrArg some (by kernel_rfl))
 f37 := Tryz.func197.trans (congrArg some (by kernel_rfl))
 f38 := Tryz.func198.trans (congrArg some (by kernel_rfl))
 f39 := Tryz.func200.trans (congrArg some (by kernel_rfl))
 f40 := Tryz.func201.trans (congrArg some (by kernel_rfl))
 t0 := Tryz.underlying0
 a0 := Tryz.isAgg0
 z0 := Tryz.sizeOf0
 v0 := Tryz.zeroValue0
 i0 := by kernel_rfl
 t2 := Tryz.underlying2
 a2 := Tryz.isAgg2
 z2 := Tryz.sizeOf2
 v2 := Tryz.zeroValue2
 i2 := by kernel_rfl
 t3 := Tryz.underlying3
 a3 := Tryz.isAgg3
 z3 := Tryz.sizeOf3
 v3 := Tryz.zeroValue3
 i3 := by kernel_rfl
 t4 := Tryz.underlying4
 a4 := Tryz.isAgg4
 z4 := Tryz.sizeOf4
 v4 := Tryz.zeroValue4
 i4 := by kernel_rfl
 t5 := Tryz.underlying5
 a5 := Tryz.isAgg5
 z5 := Tryz.sizeOf5
 v5 := Tryz.zeroValue5
 i5 := by kernel_rfl
 t9 := Tryz.underlying9
 a9 := Tryz.isAgg9
 z9 := Tryz.sizeOf9
 v9 := Tryz.zeroValue9
 i9 := by kernel_rfl
 t20 := Tryz.underlying20
 a20 := Tryz.isAgg20
 z20 := Tryz.sizeOf20
 v20 := Tryz.zeroValue20
 i20 := by kernel_rfl
 t21 := Tryz.underlying21
 a21 := Tryz.isAgg21
 z21 := Tryz.sizeOf21
 v21 := Tryz.zeroValue21
 i21 := by kernel_rfl
 t22 := Tryz.underlying150
 a22 := Tryz.isAgg150
 z22 := Tryz.sizeOf150
 v22 := Tryz.zeroValue150
 i22 := by kernel_rfl
 t24 := Tryz.underlying89
 a24 := Tryz.isAgg89
 z24 := Tryz.sizeOf89
 v24 := Tryz.zeroValue89
 i24 := by kernel_rfl
 t25 := Tryz.underlying166
 a25 := Tryz.isAgg166
 z25 := Tryz.sizeOf166
 v25 := Tryz.zeroValue166
 i25 := by kernel_rfl
 t34 := Tryz.underlying183
 a34 := Tryz.isAgg183
 z34 := Tryz.sizeOf183
 v34 := Tryz.zeroValue183
 i34 := by kernel_rfl
 c34 := by kernel_rfl
 t36 := Tryz.underlying194
 a36 := Tryz.isAgg194
 z36 := Tryz.sizeOf194
 v36 := Tryz.zeroValue194
 i36 := by kernel_rfl
 t37 := Tryz.underlying126
 a37 := Tryz.isAgg126
 z37 := Tryz.sizeOf126
 v37 := Tryz.zeroValue126
 i37 := by kernel_rfl
 t39 := Tryz.underlying186
 a39 := Tryz.isAgg186
 z39 := Tryz.sizeOf186
 v39 := Tryz.zeroValue186
 i39 := by kernel_rfl
 t44 := Tryz.underlying201
 a44 := Tryz.isAgg201
 z44 := Tryz.sizeOf201
 v44 := Tryz.zeroValue201
 i44 := by kernel_rfl
 t47 := Tryz.underlying223
 a47 := Tryz.isAgg223
 z47 := Tryz.sizeOf223
 v47 := Tryz.zeroValue223
 i47 := by kernel_rfl
 t48 := Tryz.underlying224
 a48 := Tryz.isAgg224
 z48 := Tryz.sizeOf224
 v48 := Tryz.zeroValue224
 i48 := by kernel_rfl
 t50 := Tryz.underlying226
 a50 := Tryz.isAgg226
 z50 := Tryz.sizeOf226
 v50 := Tryz.zeroValue226
 i50 := by kernel_rfl
 t52 := Tryz.underlying219
 a52 := Tryz.isAgg219
 z52 := Tryz.sizeOf219
 v52 := Tryz.zeroValue219
 i52 := by kernel_rfl
 t55 := Tryz.underlying221
 a55 := Tryz.isAgg221
 z55 := Tryz.sizeOf221
 v55 := Tryz.zeroValue221
 i55 := by kernel_rfl
 t59 := Tryz.underlying235
 a59 := Tryz.isAgg235
 z59 := Tryz.sizeOf235
 v59 := Tryz.zeroValue235
 i59 := by kernel_rfl
 t60 := Tryz.underlying168
 a60 := Tryz.isAgg168
 z60 := Tryz.sizeOf168
 v60 := Tryz.zeroValue168
 i60 := by kernel_rfl
 t61 := Tryz.underlying236
 a61 := Tryz.isAgg236
 z61 := Tryz.sizeOf236
 t65 := Tryz.underlying240
 a65 := Tryz.isAgg240
 z65 := Tryz.sizeOf240
 v65 := Tryz.zeroValue240
 i65 := by kernel_rfl
 t66 := Tryz.underlying241
 a66 := Tryz.isAgg241
 z66 := Tryz.sizeOf241
 v66 := Tryz.zeroValue241
 i66 := by kernel_rfl
 t67 := Tryz.underlying92
 a67 := Tryz.isAgg92
 z67 := Tryz.sizeOf92
 v67 := Tryz.zeroValue92
 i67 := by kernel_rfl
 g0 := by kernel_rfl
 m0 := by kernel_rfl
 g1 := by kernel_rfl
 m1 := by kernel_rfl
 g2 := by kernel_rfl
 m2 := by kernel_rfl
 g3 := by kernel_rfl
 m3 := by kernel_rfl
 g4 := by kernel_rfl
 m4 := by kernel_rfl }
open Go.RowKit in
theorem Tryz.strconv_ParseUint_10_at32_ok (s : ByteArray) (hmax : s.size ≤ 9223372036854775806) (u : Nat) (h : Lib.parseUintB 32 s.data.toList = .ok u) (w : World) :
  Calls Tryz.prog 125 #[.string s, .int .i64 10, .int .i64 32] w fun e w' => e = .returned (.tuple #[.int .u64 u, .nilIface]) ∧ (w' = w ∨ w' = Lib.bytesWorld w 5 s) := Any.strconv_ParseUint_10_at32_ok Tryz.laysPu14 s hmax u h w
end Go.Proofs

