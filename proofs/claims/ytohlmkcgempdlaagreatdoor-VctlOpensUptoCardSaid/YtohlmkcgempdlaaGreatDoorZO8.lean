/- Parts of the proof of vctlOpens_holds (8 of 22): what it says and shows stands at its declarations. -/
import Derived.Test.YtohlmkcgempdlaaGreatDoorZO7
import Derived.Shelf.Strconv.Itoa0
import Derived.Shelf.Strconv.Itoa1
import Derived.Shelf.LaysM
import Derived.Shelf.Strconv.Itoa2
import Derived.Shelf.Strconv.AppendUint10
import Derived.Shelf.Strconv.AppendInt10
import Derived.Shelf.Strconv.AppendIntPublic10
import Derived.Test.YtohlmkcgempdlaaGreatDoorProg
namespace Go.Proofs
open Go.Shelf
def Tryz.laysM288_ren : Go.Shelf.Ren := ⟨fun | 288 => 194 | 283 => 196 | 284 => 197 | 285 => 198 | 286 => 199 | 129 => 147 | 317 => 201 | 318 => 202 | 319 => 203 | 320 => 204 | 337 => 206 | 338 => 207 | n => n, fun | 37 => 246 | 53 => 35 | 3 => 3 | 4 => 4 | 9 => 9 | 171 => 256 | 0 => 0 | 173 => 258 | 212 => 265 | 51 => 34 | 5 => 5 | 20 => 20 | 213 => 266 | 46 => 165 | 232 => 272 | 233 => 273 | n => n, fun | 17 => 0 | 18 => 1 | 19 => 2 | n => n⟩
def Tryz.laysM249_ren : Go.Shelf.Ren := ⟨fun | 249 => 192 | 288 => 194 | 283 => 196 | 284 => 197 | 285 => 198 | 286 => 199 | 129 => 147 | 317 => 201 | 318 => 202 | 319 => 203 | 320 => 204 | 337 => 206 | 338 => 207 | n => n, fun | 37 => 246 | 2 => 2 | 3 => 3 | 53 => 35 | 4 => 4 | 9 => 9 | 171 => 256 | 0 => 0 | 173 => 258 | 212 => 265 | 51 => 34 | 5 => 5 | 20 => 20 | 213 => 266 | 46 => 165 | 232 => 272 | 233 => 273 | n => n, fun | 17 => 0 | 18 => 1 | 19 => 2 | n => n⟩
def Tryz.laysM176_ren : Go.Shelf.Ren := ⟨fun | 176 => 187 | 249 => 192 | 288 => 194 | 283 => 196 | 284 => 197 | 285 => 198 | 286 => 199 | 129 => 147 | 317 => 201 | 318 => 202 | 319 => 203 | 320 => 204 | 337 => 206 | 338 => 207 | n => n, fun | 37 => 246 | 2 => 2 | 3 => 3 | 53 => 35 | 4 => 4 | 9 => 9 | 171 => 256 | 0 => 0 | 173 => 258 | 212 => 265 | 51 => 34 | 5 => 5 | 20 => 20 | 213 => 266 | 46 => 165 | 232 => 272 | 233 => 273 | n => n, fun | 17 => 0 | 18 => 1 | 19 => 2 | n => n⟩
theorem Tryz.laysM176 : Go.Proofs.LaysM.n176 Tryz.prog Tryz.laysM176_ren := {
 mixed := by kernel_rfl
 f129 := Tryz.func147.trans (congrArg some (by kernel_rfl))
 f176 := Tryz.func187.trans (congrArg some (by kernel_rfl))
 f249 := Tryz.func192.trans (congrArg some (by kernel_rfl))
 f283 := Tryz.func196.trans (congrArg some (by kernel_rfl))
 f284 := Tryz.func197.trans (congrArg some (by kernel_rfl))
 f285 := Tryz.func198.trans (congrArg some (by kernel_rfl))
 f286 := Tryz.func199.trans (congrArg some (by kernel_rfl))
 f288 := Tryz.func194.trans (congrArg some (by kernel_rfl))
 f317 := Tryz.func201.trans (congrArg some (by kernel_rfl))
 f318 := Tryz.func202.trans (congrArg some (by kernel_rfl))
 f319 := Tryz.func203.trans (congrArg some (by kernel_rfl))
 f320 := Tryz.func204.trans (congrArg some (by kernel_rfl))
 f337 := Tryz.func206.trans (congrArg some (by kernel_rfl))
 f338 := Tryz.func207.trans (congrArg some (by kernel_rfl))
 t0 := Tryz.underlying0
 a0 := Tryz.isAgg0
 z0 := Tryz.sizeOf0
 v0 := Tryz.zeroValue0
 t2 := Tryz.underlying2
 a2 := Tryz.isAgg2
 z2 := Tryz.sizeOf2
 v2 := Tryz.zeroValue2
 t3 := Tryz.underlying3
 a3 := Tryz.isAgg3
 z3 := Tryz.sizeOf3
 v3 := Tryz.zeroValue3
 t4 := Tryz.underlying4
 a4 := Tryz.isAgg4
 z4 := Tryz.sizeOf4
 v4 := Tryz.zeroValue4
 t5 := Tryz.underlying5
 a5 := Tryz.isAgg5
 z5 := Tryz.sizeOf5
 v5 := Tryz.zeroValue5
 t9 := Tryz.underlying9
 a9 := Tryz.isAgg9
 z9 := Tryz.sizeOf9
 v9 := Tryz.zeroValue9
 t20 := Tryz.underlying20
 a20 := Tryz.isAgg20
 z20 := Tryz.sizeOf20
 v20 := Tryz.zeroValue20
 t37 := Tryz.underlying246
 a37 := Tryz.isAgg246
 z37 := Tryz.sizeOf246
 v37 := Tryz.zeroValue246
 t46 := Tryz.underlying165
 a46 := Tryz.isAgg165
 z46 := Tryz.sizeOf165
 v46 := Tryz.zeroValue165
 t51 := Tryz.underlying34
 a51 := Tryz.isAgg34
 z51 := Tryz.sizeOf34
 v51 := Tryz.zeroValue34
 t53 := Tryz.underlying35
 a53 := Tryz.isAgg35
 z53 := Tryz.sizeOf35
 v53 := Tryz.zeroValue35
 t171 := Tryz.underlying256
 a171 := Tryz.isAgg256
 z171 := Tryz.sizeOf256
 v171 := Tryz.zeroValue256
 t173 := Tryz.underlying258
 a173 := Tryz.isAgg258
 z173 := Tryz.sizeOf258
 v173 := Tryz.zeroValue258
 t212 := Tryz.underlying265
 a212 := Tryz.isAgg265
 z212 := Tryz.sizeOf265
 v212 := Tryz.zeroValue265
 t213 := Tryz.underlying266
 a213 := Tryz.isAgg266
 z213 := Tryz.sizeOf266
 t232 := Tryz.underlying272
 a232 := Tryz.isAgg272
 z232 := Tryz.sizeOf272
 v232 := Tryz.zeroValue272
 t233 := Tryz.underlying273
 a233 := Tryz.isAgg273
 z233 := Tryz.sizeOf273
 v233 := Tryz.zeroValue273
 g17 := by kernel_rfl
 g18 := by kernel_rfl
 g19 := by kernel_rfl
 i0 := by kernel_rfl
 i2 := by kernel_rfl
 i3 := by kernel_rfl
 i4 := by kernel_rfl
 i5 := by kernel_rfl
 i9 := by kernel_rfl
 i20 := by kernel_rfl
 i37 := by kernel_rfl
 i46 := by kernel_rfl
 i51 := by kernel_rfl
 i53 := by kernel_rfl
 i171 := by kernel_rfl
 i173 := by kernel_rfl
 i212 := by kernel_rfl
 i232 := by kernel_rfl
 i233 := by kernel_rfl
 m17 := by kernel_rfl
 m18 := by kernel_rfl
 m19 := by kernel_rfl }
open Go.RowKit Go.Sort Go.Lib in
theorem Tryz.strconv_AppendInt_10 (B n : Nat) (i : Int) (h0 : -9223372036854775808 ≤ i) (h1 : i ≤ 9223372036854775807) (sv : Value) (xs : List Value) (w : World) (hown : w.ownsRow B 5 1 sv n xs) (hBw : B ≤ w.heap.size) (hlim : n + 21 ≤ 140737488355328) (htab : Lib.TabBelow Tryz.prog B w "internal/strconv.uint64pow10" .u64 Lib.pow10Tab) :
  Calls Tryz.prog 187 #[sv, .int .i64 i, .int .i64 10] w fun e w' => ∃ v', e = .returned v' ∧ w'.ownsRow B 5 1 v' (n + (Lib.itoa i).length) (xs ++ Lib.byteCells (Lib.itoa i)) ∧ Below B w w' ∧ Lib.OthersKept 5 none w w' := Any.strconv_AppendInt_10 Tryz.laysM176 B n i h0 h1 sv xs w hown hBw hlim htab
end Go.Proofs
