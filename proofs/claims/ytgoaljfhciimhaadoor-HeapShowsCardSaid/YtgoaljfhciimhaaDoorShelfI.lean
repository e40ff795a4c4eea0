/- The library's contracts that are cited, laid by the shelf's own tools: Tryd.strconv_Itoa. -/
import Derived.Shelf.Strconv.Atoi
import Derived.Shelf.Strconv.Itoa0
import Derived.Shelf.Strconv.Itoa1
import Derived.Shelf.LaysM
import Derived.Shelf.Strconv.Itoa2
import Derived.Shelf.Strconv.Itoa3
import Derived.Shelf.Strconv.AtoiErrFast
import Derived.Shelf.Strconv.ParseIntEmpty
import Derived.Shelf.Strconv.Clone
import Derived.Shelf.Strconv.Lower
import Derived.Shelf.Strconv.ParseUint10Empty
import Derived.Shelf.Strconv.ParseUintEmpty
import Derived.Test.YtgoaljfhciimhaaDoorProg
namespace Go.Proofs

def Tryd.laysM171_ren : Go.Shelf.Ren := ⟨fun | 171 => 81 | 243 => 121 | 246 => 142 | 283 => 159 | 284 => 160 | 285 => 161 | 286 => 162 | 129 => 183 | 317 => 182 | 318 => 184 | 319 => 185 | 320 => 186 | 337 => 193 | 338 => 194 | n => n, fun | 3 => 3 | 9 => 9 | 2 => 2 | 4 => 4 | 171 => 241 | 0 => 0 | 53 => 242 | 37 => 151 | 5 => 5 | 173 => 245 | 212 => 266 | 51 => 267 | 20 => 20 | 213 => 268 | 46 => 254 | 232 => 277 | 233 => 278 | n => n, fun | 17 => 9 | 18 => 10 | 19 => 11 | n => n⟩
theorem Tryd.laysM171 : Go.Proofs.LaysM.n171 Tryd.prog Tryd.laysM171_ren := {
  mixed := by kernel_rfl
  f129 := Tryd.func183.trans (congrArg some (by kernel_rfl))
  f171 := Tryd.func81.trans (congrArg some (by kernel_rfl))
  f243 := Tryd.func121.trans (congrArg some (by kernel_rfl))
  f246 := Tryd.func142.trans (congrArg some (by kernel_rfl))
  f283 := Tryd.func159.trans (congrArg some (by kernel_rfl))
  f284 := Tryd.func160.trans (congrArg some (by kernel_rfl))
  f285 := Tryd.func161.trans (congrArg some (by kernel_rfl))
  f286 := Tryd.func162.trans (congrArg some (by kernel_rfl))
  f317 := Tryd.func182.trans (congrArg some (by kernel_rfl))
  f318 := Tryd.func184.trans (congrArg some (by kernel_rfl))
  f319 := Tryd.func185.trans (congrArg some (by kernel_rfl))
  f320 := Tryd.func186.trans (congrArg some (by kernel_rfl))
  f337 := Tryd.func193.trans (congrArg some (by kernel_rfl))
  f338 := Tryd.func194.trans (congrArg some (by kernel_rfl))
  t0 := Tryd.underlying0
  a0 := Tryd.isAgg0
  z0 := Tryd.sizeOf0
  v0 := Tryd.zeroValue0
  t2 := Tryd.underlying2
  a2 := Tryd.isAgg2
  z2 := Tryd.sizeOf2
  v2 := Tryd.zeroValue2
  t3 := Tryd.underlying3
  a3 := Tryd.isAgg3
  z3 := Tryd.sizeOf3
  v3 := Tryd.zeroValue3
  t4 := Tryd.underlying4
  a4 := Tryd.isAgg4
  z4 := Tryd.sizeOf4
  v4 := Tryd.zeroValue4
  t5 := Tryd.underlying5
  a5 := Tryd.isAgg5
  z5 := Tryd.sizeOf5
  v5 := Tryd.zeroValue5
  t9 := Tryd.underlying9
  a9 := Tryd.isAgg9
  z9 := Tryd.sizeOf9
  v9 := Tryd.zeroValue9
  t20 := Tryd.underlying20
  a20 := Tryd.isAgg20
  z20 := Tryd.sizeOf20
  v20 := Tryd.zeroValue20
  t37 := Tryd.underlying151
  a37 := Tryd.isAgg151
  z37 := Tryd.sizeOf151
  v37 := Tryd.zeroValue151
  t46 := Tryd.underlying254
  a46 := Tryd.isAgg254
  z46 := Tryd.sizeOf254
  v46 := Tryd.zeroValue254
  t51 := Tryd.underlying267
  a51 := Tryd.isAgg267
  z51 := Tryd.sizeOf267
  v51 := Tryd.zeroValue267
  t53 := Tryd.underlying242
  a53 := Tryd.isAgg242
  z53 := Tryd.sizeOf242
  v53 := Tryd.zeroValue242
  t171 := Tryd.underlying241
  a171 := Tryd.isAgg241
  z171 := Tryd.sizeOf241
  v171 := Tryd.zeroValue241
  t173 := Tryd.underlying245
  a173 := Tryd.isAgg245
  z173 := Tryd.sizeOf245
  v173 := Tryd.zeroValue245
  t212 := Tryd.underlying266
  a212 := Tryd.isAgg266
  z212 := Tryd.sizeOf266
  v212 := Tryd.zeroValue266
  t213 := Tryd.underlying268
  a213 := Tryd.isAgg268
  z213 := Tryd.sizeOf268
  t232 := Tryd.underlying277
  a232 := Tryd.isAgg277
  z232 := Tryd.sizeOf277
  v232 := Tryd.zeroValue277
  t233 := Tryd.underlying278
  a233 := Tryd.isAgg278
  z233 := Tryd.sizeOf278
  v233 := Tryd.zeroValue278
  g17 := by kernel_rfl
  g18 := by kernel_rfl
  g19 := by kernel_rfl
  i0 := by kernel_rfl
  i2 := by kernel_rfl
  i3 := by kernel_rfl
  i4 := by kernel_rfl
  i5 := by kernel_rfl
  i9 := by kernel_rfl
  i20 := by kernel_rfl
  i37 := by kernel_rfl
  i46 := by kernel_rfl
  i51 := by kernel_rfl
  i53 := by kernel_rfl
  i171 := by kernel_rfl
  i173 := by kernel_rfl
  i212 := by kernel_rfl
  i232 := by kernel_rfl
  i233 := by kernel_rfl
  m17 := by kernel_rfl
  m18 := by kernel_rfl
  m19 := by kernel_rfl }
open Go.RowKit Go.Sort Go.Lib in
theorem Tryd.strconv_Itoa (n : Int) (h0 : -9223372036854775808 ≤ n) (h1 : n ≤ 9223372036854775807) (w : World) (htab : Lib.TabIs Tryd.prog w "internal/strconv.uint64pow10" .u64 Lib.pow10Tab) :
    Calls Tryd.prog 81 #[.int .i64 n] w fun e w' => e = .returned (.string ⟨(Lib.itoa n).toArray⟩) ∧ ∃ k os, w' = grow (w.drewN k) os := Any.strconv_Itoa Tryd.laysM171 n h0 h1 w htab
end Go.Proofs
