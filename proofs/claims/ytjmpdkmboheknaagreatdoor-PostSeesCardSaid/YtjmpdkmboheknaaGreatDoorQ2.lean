/- Joined by program out of: Sf Ty D I A B Aq Co E F. -/
import Derived.Shelf.SlIter.Nil
import Derived.Shelf.SlIterI.Nil
import Derived.Shelf.SortM.Plain
import Derived.Shelf.SortM.SortNone
import Derived.Shelf.Slices.CompactS
import Derived.Test.YtjmpdkmboheknaaGreatDoorProg
import Derived.Test.YtjmpdkmboheknaaGreatDoorChecked
import Derived.Test.YtjmpdkmboheknaaGreatDoorQ1
set_option linter.unusedVariables false
set_option linter.unusedSimpArgs false
namespace Go.Proofs
open Go.Shelf
def Tryz.keys_agora_relation_set_string_bool_ren : Go.Shelf.Ren := ⟨fun | 7 => 226 | 10 => 259 | n => n,fun | 23 => 229 | 26 => 9 | 3 => 4 | 28 => 256 | 0 => 0 | 27 => 255 | 33 => 161 | 4 => 4 | n => n,fun | n => n⟩
theorem Tryz.keys_agora_relation_set_string_bool : Go.Proofs.SlLaysZ.n7 Tryz.prog Tryz.keys_agora_relation_set_string_bool_ren := {
  mixed := by kernel_rfl
  f7 := ⟨Tryz.f226.name,by decide,Tryz.func226.trans (congrArg some (by kernel_rfl))⟩
  f10 := ⟨Tryz.f259.name,by decide,Tryz.func259.trans (congrArg some (by kernel_rfl))⟩
  t0 := Tryz.underlying0
  a0 := Tryz.isAgg0
  z0 := Tryz.sizeOf0
  v0 := Tryz.zeroValue0
  t4 := Tryz.underlying4
  a4 := Tryz.isAgg4
  z4 := Tryz.sizeOf4
  v4 := Tryz.zeroValue4
  t23 := Tryz.underlying229
  a23 := Tryz.isAgg229
  z23 := Tryz.sizeOf229
  v23 := Tryz.zeroValue229
  t26 := Tryz.underlying9
  a26 := Tryz.isAgg9
  z26 := Tryz.sizeOf9
  v26 := Tryz.zeroValue9
  t27 := Tryz.underlying255
  a27 := Tryz.isAgg255
  z27 := Tryz.sizeOf255
  v27 := Tryz.zeroValue255
  t28 := Tryz.underlying256
  a28 := Tryz.isAgg256
  z28 := Tryz.sizeOf256
  v28 := Tryz.zeroValue256
  t33 := Tryz.underlying161
  a33 := Tryz.isAgg161
  z33 := Tryz.sizeOf161
  v33 := Tryz.zeroValue161 }
def Tryz.sortedS_ren : Go.Shelf.Ren := ⟨fun | 6 => 225 | 8 => 258 | 9 => 131 | 11 => 285 | 13 => 195 | 12 => 194 | 23 => 236 | 24 => 134 | 14 => 227 | 15 => 228 | 16 => 229 | 17 => 230 | 18 => 231 | 19 => 232 | 20 => 233 | 21 => 234 | 22 => 235 | 25 => 260 | 26 => 261 | 27 => 262 | 28 => 263 | 29 => 264 | 30 => 110 | 31 => 286 | n => n,fun | 26 => 9 | 28 => 256 | 24 => 23 | 0 => 0 | 3 => 3 | 37 => 134 | 48 => 130 | 50 => 187 | 4 => 4 | 40 => 260 | 39 => 259 | 45 => 31 | 5 => 5 | 9 => 9 | 51 => 287 | 55 => 291 | 57 => 307 | 58 => 308 | 33 => 161 | n => n,fun | n => n⟩
theorem Tryz.sortedS : Go.Proofs.SlLaysZ.n6 Tryz.prog Tryz.sortedS_ren := {
  mixed := by kernel_rfl
  f6 := ⟨Tryz.f225.name,by decide,Tryz.func225.trans (congrArg some (by kernel_rfl))⟩
  f8 := ⟨Tryz.f258.name,by decide,Tryz.func258.trans (congrArg some (by kernel_rfl))⟩
  f11 := ⟨Tryz.f285.name,by decide,Tryz.func285.trans (congrArg some (by kernel_rfl))⟩
  t0 := Tryz.underlying0
  a0 := Tryz.isAgg0
  z0 := Tryz.sizeOf0
  v0 := Tryz.zeroValue0
  t24 := Tryz.underlying23
  a24 := Tryz.isAgg23
  z24 := Tryz.sizeOf23
  v24 := Tryz.zeroValue23
  t26 := Tryz.underlying9
  a26 := Tryz.isAgg9
  z26 := Tryz.sizeOf9
  v26 := Tryz.zeroValue9
  t28 := Tryz.underlying256
  a28 := Tryz.isAgg256
  z28 := Tryz.sizeOf256
  v28 := Tryz.zeroValue256
  i26 := by kernel_rfl }
def Tryz.sortS_ren : Go.Shelf.Ren := ⟨fun | 6 => 131 | 8 => 195 | 9 => 194 | 19 => 236 | 20 => 134 | 21 => 227 | 22 => 228 | 23 => 229 | 24 => 230 | 25 => 231 | 26 => 232 | 27 => 233 | 28 => 234 | 29 => 235 | 36 => 260 | 31 => 261 | 32 => 262 | 37 => 263 | 38 => 264 | 39 => 110 | 41 => 286 | n => n,fun | 27 => 23 | 29 => 9 | 3 => 3 | 32 => 134 | 26 => 23 | 0 => 0 | 44 => 130 | 46 => 187 | 4 => 4 | 36 => 260 | 35 => 259 | 41 => 31 | 5 => 5 | 9 => 9 | 53 => 287 | 57 => 291 | 63 => 307 | 64 => 308 | n => n,fun | n => n⟩
theorem Tryz.sortS : Go.Proofs.SlLaysM.n6 Tryz.prog Tryz.sortS_ren := {
  mixed := by kernel_rfl
  f6 := ⟨Tryz.f131.name,by decide,Tryz.func131.trans (congrArg some (by kernel_rfl))⟩
  f8 := Tryz.func195.trans (congrArg some (by kernel_rfl))
  f9 := ⟨Tryz.f194.name,by decide,Tryz.func194.trans (congrArg some (by kernel_rfl))⟩
  f19 := Tryz.func236.trans (congrArg some (by kernel_rfl))
  f20 := Tryz.func134.trans (congrArg some (by kernel_rfl))
  f21 := ⟨Tryz.f227.name,by decide,Tryz.func227.trans (congrArg some (by kernel_rfl))⟩
  f22 := ⟨Tryz.f228.name,by decide,Tryz.func228.trans (congrArg some (by kernel_rfl))⟩
  f23 := ⟨Tryz.f229.name,by decide,Tryz.func229.trans (congrArg some (by kernel_rfl))⟩
  f24 := ⟨Tryz.f230.name,by decide,Tryz.func230.trans (congrArg some (by kernel_rfl))⟩
  f25 := ⟨Tryz.f231.name,by decide,Tryz.func231.trans (congrArg some (by kernel_rfl))⟩
  f26 := ⟨Tryz.f232.name,by decide,Tryz.func232.trans (congrArg some (by kernel_rfl))⟩
  f27 := ⟨Tryz.f233.name,by decide,Tryz.func233.trans (congrArg some (by kernel_rfl))⟩
  f28 := ⟨Tryz.f234.name,by decide,Tryz.func234.trans (congrArg some (by kernel_rfl))⟩
  f29 := ⟨Tryz.f235.name,by decide,Tryz.func235.trans (congrArg some (by kernel_rfl))⟩
  f31 := Tryz.func261.trans (congrArg some (by kernel_rfl))
  f32 := Tryz.func262.trans (congrArg some (by kernel_rfl))
  f36 := ⟨Tryz.f260.name,by decide,Tryz.func260.trans (congrArg some (by kernel_rfl))⟩
  f37 := ⟨Tryz.f263.name,by decide,Tryz.func263.trans (congrArg some (by kernel_rfl))⟩
  f38 := ⟨Tryz.f264.name,by decide,Tryz.func264.trans (congrArg some (by kernel_rfl))⟩
  f39 := ⟨Tryz.f110.name,by decide,Tryz.func110.trans (congrArg some (by kernel_rfl))⟩
  f41 := ⟨Tryz.f286.name,by decide,Tryz.func286.trans (congrArg some (by kernel_rfl))⟩
  t0 := Tryz.underlying0
  a0 := Tryz.isAgg0
  z0 := Tryz.sizeOf0
  v0 := Tryz.zeroValue0
  t3 := Tryz.underlying3
  a3 := Tryz.isAgg3
  z3 := Tryz.sizeOf3
  v3 := Tryz.zeroValue3
  t4 := Tryz.underlying4
  a4 := Tryz.isAgg4
  z4 := Tryz.sizeOf4
  v4 := Tryz.zeroValue4
  t5 := Tryz.underlying5
  a5 := Tryz.isAgg5
  z5 := Tryz.sizeOf5
  v5 := Tryz.zeroValue5
  t9 := Tryz.underlying9
  a9 := Tryz.isAgg9
  z9 := Tryz.sizeOf9
  v9 := Tryz.zeroValue9
  t26 := Tryz.underlying23
  a26 := Tryz.isAgg23
  z26 := Tryz.sizeOf23
  v26 := Tryz.zeroValue23
  t27 := Tryz.underlying23
  a27 := Tryz.isAgg23
  z27 := Tryz.sizeOf23
  v27 := Tryz.zeroValue23
  t29 := Tryz.underlying9
  a29 := Tryz.isAgg9
  z29 := Tryz.sizeOf9
  v29 := Tryz.zeroValue9
  t32 := Tryz.underlying134
  a32 := Tryz.isAgg134
  z32 := Tryz.sizeOf134
  v32 := Tryz.zeroValue134
  t35 := Tryz.underlying259
  a35 := Tryz.isAgg259
  z35 := Tryz.sizeOf259
  v35 := Tryz.zeroValue259
  t36 := Tryz.underlying260
  a36 := Tryz.isAgg260
  z36 := Tryz.sizeOf260
  v36 := Tryz.zeroValue260
  t41 := Tryz.underlying31
  a41 := Tryz.isAgg31
  z41 := Tryz.sizeOf31
  v41 := Tryz.zeroValue31
  t44 := Tryz.underlying130
  a44 := Tryz.isAgg130
  z44 := Tryz.sizeOf130
  v44 := Tryz.zeroValue130
  t46 := Tryz.underlying187
  a46 := Tryz.isAgg187
  z46 := Tryz.sizeOf187
  v46 := Tryz.zeroValue187
  t53 := Tryz.underlying287
  a53 := Tryz.isAgg287
  z53 := Tryz.sizeOf287
  v53 := Tryz.zeroValue287
  t57 := Tryz.underlying291
  a57 := Tryz.isAgg291
  z57 := Tryz.sizeOf291
  v57 := Tryz.zeroValue291
  t63 := Tryz.underlying307
  a63 := Tryz.isAgg307
  z63 := Tryz.sizeOf307
  v63 := Tryz.zeroValue307
  t64 := Tryz.underlying308
  a64 := Tryz.isAgg308
  z64 := Tryz.sizeOf308
  v64 := Tryz.zeroValue308 }
def Tryz.sortI_ren : Go.Shelf.Ren := ⟨fun | 5 => 246 | 8 => 195 | 7 => 272 | 19 => 236 | 20 => 134 | 10 => 292 | 11 => 293 | 12 => 294 | 13 => 295 | 14 => 296 | 15 => 297 | 16 => 298 | 17 => 299 | 18 => 300 | 30 => 312 | 31 => 261 | 32 => 262 | 33 => 313 | 34 => 314 | 35 => 242 | 40 => 325 | n => n,fun | 23 => 24 | 25 => 3 | 3 => 3 | 32 => 134 | 22 => 24 | 0 => 0 | 44 => 130 | 46 => 187 | 4 => 4 | 36 => 260 | 35 => 259 | 41 => 31 | 5 => 5 | 9 => 9 | 53 => 287 | 57 => 291 | 63 => 307 | 64 => 308 | n => n,fun | n => n⟩
theorem Tryz.sortI : Go.Proofs.SlLaysM.n5 Tryz.prog Tryz.sortI_ren := {
  mixed := by kernel_rfl
  f5 := ⟨Tryz.f246.name,by decide,Tryz.func246.trans (congrArg some (by kernel_rfl))⟩
  f7 := ⟨Tryz.f272.name,by decide,Tryz.func272.trans (congrArg some (by kernel_rfl))⟩
  f8 := Tryz.func195.trans (congrArg some (by kernel_rfl))
  f10 := ⟨Tryz.f292.name,by decide,Tryz.func292.trans (congrArg some (by kernel_rfl))⟩
  f11 := ⟨Tryz.f293.name,by decide,Tryz.func293.trans (congrArg some (by kernel_rfl))⟩
  f12 := ⟨Tryz.f294.name,by decide,Tryz.func294.trans (congrArg some (by kernel_rfl))⟩
  f13 := ⟨Tryz.f295.name,by decide,Tryz.func295.trans (congrArg some (by kernel_rfl))⟩
  f14 := ⟨Tryz.f296.name,by decide,Tryz.func296.trans (congrArg some (by kernel_rfl))⟩
  f15 := ⟨Tryz.f297.name,by decide,Tryz.func297.trans (congrArg some (by kernel_rfl))⟩
  f16 := ⟨Tryz.f298.name,by decide,Tryz.func298.trans (congrArg some (by kernel_rfl))⟩
  f17 := ⟨Tryz.f299.name,by decide,Tryz.func299.trans (congrArg some (by kernel_rfl))⟩
  f18 := ⟨Tryz.f300.name,by decide,Tryz.func300.trans (congrArg some (by kernel_rfl))⟩
  f19 := Tryz.func236.trans (congrArg some (by kernel_rfl))
  f20 := Tryz.func134.trans (congrArg some (by kernel_rfl))
  f30 := ⟨Tryz.f312.name,by decide,Tryz.func312.trans (congrArg some (by kernel_rfl))⟩
  f31 := Tryz.func261.trans (congrArg some (by kernel_rfl))
  f32 := Tryz.func262.trans (congrArg some (by kernel_rfl))
  f33 := ⟨Tryz.f313.name,by decide,Tryz.func313.trans (congrArg some (by kernel_rfl))⟩
  f34 := ⟨Tryz.f314.name,by decide,Tryz.func314.trans (congrArg some (by kernel_rfl))⟩
  f35 := ⟨Tryz.f242.name,by decide,Tryz.func242.trans (congrArg some (by kernel_rfl))⟩
  f40 := ⟨Tryz.f325.name,by decide,Tryz.func325.trans (congrArg some (by kernel_rfl))⟩
  t0 := Tryz.underlying0
  a0 := Tryz.isAgg0
  z0 := Tryz.sizeOf0
  v0 := Tryz.zeroValue0
  t3 := Tryz.underlying3
  a3 := Tryz.isAgg3
  z3 := Tryz.sizeOf3
  v3 := Tryz.zeroValue3
  t4 := Tryz.underlying4
  a4 := Tryz.isAgg4
  z4 := Tryz.sizeOf4
  v4 := Tryz.zeroValue4
  t5 := Tryz.underlying5
  a5 := Tryz.isAgg5
  z5 := Tryz.sizeOf5
  v5 := Tryz.zeroValue5
  t9 := Tryz.underlying9
  a9 := Tryz.isAgg9
  z9 := Tryz.sizeOf9
  v9 := Tryz.zeroValue9
  t22 := Tryz.underlying24
  a22 := Tryz.isAgg24
  z22 := Tryz.sizeOf24
  v22 := Tryz.zeroValue24
  t23 := Tryz.underlying24
  a23 := Tryz.isAgg24
  z23 := Tryz.sizeOf24
  v23 := Tryz.zeroValue24
  t25 := Tryz.underlying3
  a25 := Tryz.isAgg3
  z25 := Tryz.sizeOf3
  v25 := Tryz.zeroValue3
  t32 := Tryz.underlying134
  a32 := Tryz.isAgg134
  z32 := Tryz.sizeOf134
  v32 := Tryz.zeroValue134
  t35 := Tryz.underlying259
  a35 := Tryz.isAgg259
  z35 := Tryz.sizeOf259
  v35 := Tryz.zeroValue259
  t36 := Tryz.underlying260
  a36 := Tryz.isAgg260
  z36 := Tryz.sizeOf260
  v36 := Tryz.zeroValue260
  t41 := Tryz.underlying31
  a41 := Tryz.isAgg31
  z41 := Tryz.sizeOf31
  v41 := Tryz.zeroValue31
  t44 := Tryz.underlying130
  a44 := Tryz.isAgg130
  z44 := Tryz.sizeOf130
  v44 := Tryz.zeroValue130
  t46 := Tryz.underlying187
  a46 := Tryz.isAgg187
  z46 := Tryz.sizeOf187
  v46 := Tryz.zeroValue187
  t53 := Tryz.underlying287
  a53 := Tryz.isAgg287
  z53 := Tryz.sizeOf287
  v53 := Tryz.zeroValue287
  t57 := Tryz.underlying291
  a57 := Tryz.isAgg291
  z57 := Tryz.sizeOf291
  v57 := Tryz.zeroValue291
  t63 := Tryz.underlying307
  a63 := Tryz.isAgg307
  z63 := Tryz.sizeOf307
  v63 := Tryz.zeroValue307
  t64 := Tryz.underlying308
  a64 := Tryz.isAgg308
  z64 := Tryz.sizeOf308
  v64 := Tryz.zeroValue308 }
def Tryz.compS_ren : Go.Shelf.Ren := ⟨fun | 194 => 132 | n => n,fun | 31 => 23 | 9 => 9 | 3 => 3 | 4 => 4 | 0 => 0 | n => n,fun | n => n⟩
theorem Tryz.compS : Go.Proofs.Lays.n194 Tryz.prog Tryz.compS_ren := {
  mixed := by kernel_rfl
  f194 := Tryz.func132.trans (congrArg some (by kernel_rfl))
  t0 := Tryz.underlying0
  a0 := Tryz.isAgg0
  z0 := Tryz.sizeOf0
  v0 := Tryz.zeroValue0
  t3 := Tryz.underlying3
  a3 := Tryz.isAgg3
  z3 := Tryz.sizeOf3
  v3 := Tryz.zeroValue3
  t4 := Tryz.underlying4
  a4 := Tryz.isAgg4
  z4 := Tryz.sizeOf4
  v4 := Tryz.zeroValue4
  t9 := Tryz.underlying9
  a9 := Tryz.isAgg9
  z9 := Tryz.sizeOf9
  v9 := Tryz.zeroValue9
  t31 := Tryz.underlying23
  a31 := Tryz.isAgg23
  z31 := Tryz.sizeOf23
  v31 := Tryz.zeroValue23 }
end Go.Proofs

namespace Go.Proofs.YtjmpdkmboheknaaGreatDoor.Sy
open Go Go.Proofs
instance : TyOne Tryz.prog 3 := ⟨by kernel_rfl⟩
instance : TyInt Tryz.prog 3 .i64 := ⟨by kernel_rfl⟩
instance : TyZero Tryz.prog 3 (.int .i64 0) := ⟨by kernel_rfl⟩
instance : TyOne Tryz.prog 4 := ⟨by kernel_rfl⟩
instance : TyInt Tryz.prog 5 .u8 := ⟨by kernel_rfl⟩
instance : TyZero Tryz.prog 5 (.int .u8 0) := ⟨by kernel_rfl⟩
instance : TyOne Tryz.prog 9 := ⟨by kernel_rfl⟩
instance : TyStr Tryz.prog 9 := ⟨by kernel_rfl⟩
instance : TyZero Tryz.prog 9 (.string ⟨#[]⟩) := ⟨by kernel_rfl⟩
instance : TySl Tryz.prog 22 39 6 96 := ⟨by kernel_rfl⟩
instance : TyOne Tryz.prog 23 := ⟨by kernel_rfl⟩
instance : TySl Tryz.prog 23 9 1 16 := ⟨by kernel_rfl⟩
instance : TyOne Tryz.prog 24 := ⟨by kernel_rfl⟩
instance : TySl Tryz.prog 24 3 1 8 := ⟨by kernel_rfl⟩
instance : TyAgg Tryz.prog 26 11 := ⟨by kernel_rfl⟩
instance : TyFld Tryz.prog 26 0 0 := ⟨by kernel_rfl⟩
instance : TyFld Tryz.prog 26 1 1 := ⟨by kernel_rfl⟩
instance : TyFld Tryz.prog 26 2 2 := ⟨by kernel_rfl⟩
instance : TyFld Tryz.prog 26 4 4 := ⟨by kernel_rfl⟩
instance : TyFld Tryz.prog 26 5 5 := ⟨by kernel_rfl⟩
instance : TyFld Tryz.prog 26 6 6 := ⟨by kernel_rfl⟩
instance : TyFld Tryz.prog 26 9 9 := ⟨by kernel_rfl⟩
instance : TyFld Tryz.prog 26 10 10 := ⟨by kernel_rfl⟩
instance : TyPl Tryz.prog 26 [(0,1),(1,1),(2,1),(3,1),(4,1),(5,1),(6,1),(7,1),(8,1),(9,1),(10,1)] := ⟨by kernel_rfl⟩
instance : TyZero Tryz.prog 26 (.agg #[(.string ⟨#[]⟩),(.string ⟨#[]⟩),(.int .i64 0),(.int .i64 0),(.int .i64 0),(.string ⟨#[]⟩),(.slice none 0 0),(.string ⟨#[]⟩),(.int .i64 0),(.slice none 0 0),(.bool false)]) := ⟨by kernel_rfl⟩
instance : TyOne Tryz.prog 29 := ⟨by kernel_rfl⟩
instance : TySl Tryz.prog 29 26 11 152 := ⟨by kernel_rfl⟩
instance : TyOne Tryz.prog 36 := ⟨by kernel_rfl⟩
instance : TySl Tryz.prog 36 46 20 264 := ⟨by kernel_rfl⟩
instance : TyZero Tryz.prog 36 (.slice none 0 0) := ⟨by kernel_rfl⟩
instance : TyOne Tryz.prog 37 := ⟨by kernel_rfl⟩
instance : TySl Tryz.prog 37 152 3 24 := ⟨by kernel_rfl⟩
instance : TyAgg Tryz.prog 39 6 := ⟨by kernel_rfl⟩
instance : TyFld Tryz.prog 39 0 0 := ⟨by kernel_rfl⟩
instance : TyFld Tryz.prog 39 1 1 := ⟨by kernel_rfl⟩
instance : TyFld Tryz.prog 39 2 2 := ⟨by kernel_rfl⟩
instance : TyFld Tryz.prog 39 3 3 := ⟨by kernel_rfl⟩
instance : TyFld Tryz.prog 39 4 4 := ⟨by kernel_rfl⟩
instance : TyFld Tryz.prog 39 5 5 := ⟨by kernel_rfl⟩
instance : TyPl Tryz.prog 39 [(0,1),(1,1),(2,1),(3,1),(4,1),(5,1)] := ⟨by kernel_rfl⟩
instance : TyZero Tryz.prog 39 (.agg #[(.string ⟨#[]⟩),(.slice none 0 0),(.slice none 0 0),(.string ⟨#[]⟩),(.int .i64 0),(.bool false)]) := ⟨by kernel_rfl⟩
instance : TyAgg Tryz.prog 41 3 := ⟨by kernel_rfl⟩
instance : TyFld Tryz.prog 41 0 0 := ⟨by kernel_rfl⟩
instance : TyFld Tryz.prog 41 1 1 := ⟨by kernel_rfl⟩
instance : TyFld Tryz.prog 41 2 2 := ⟨by kernel_rfl⟩
instance : TyZero Tryz.prog 41 (.agg #[(.string ⟨#[]⟩),(.string ⟨#[]⟩),(.string ⟨#[]⟩)]) := ⟨by kernel_rfl⟩
instance : TyOne Tryz.prog 42 := ⟨by kernel_rfl⟩
instance : TySl Tryz.prog 42 93 5 64 := ⟨by kernel_rfl⟩
instance : TyAgg Tryz.prog 44 2 := ⟨by kernel_rfl⟩
instance : TyFld Tryz.prog 44 0 0 := ⟨by kernel_rfl⟩
instance : TyFld Tryz.prog 44 1 1 := ⟨by kernel_rfl⟩
instance : TyPl Tryz.prog 44 [(0,1),(1,1)] := ⟨by kernel_rfl⟩
instance : TyZero Tryz.prog 44 (.agg #[(.int .i64 0),(.int .i64 0)]) := ⟨by kernel_rfl⟩
instance : TyAgg Tryz.prog 46 20 := ⟨by kernel_rfl⟩
instance : TyFld Tryz.prog 46 0 0 := ⟨by kernel_rfl⟩
instance : TyFld Tryz.prog 46 1 1 := ⟨by kernel_rfl⟩
instance : TyFld Tryz.prog 46 2 2 := ⟨by kernel_rfl⟩
instance : TyFld Tryz.prog 46 3 3 := ⟨by kernel_rfl⟩
instance : TyFld Tryz.prog 46 4 4 := ⟨by kernel_rfl⟩
instance : TyFld Tryz.prog 46 5 5 := ⟨by kernel_rfl⟩
instance : TyFld Tryz.prog 46 6 6 := ⟨by kernel_rfl⟩
instance : TyFld Tryz.prog 46 7 7 := ⟨by kernel_rfl⟩
instance : TyFld Tryz.prog 46 8 8 := ⟨by kernel_rfl⟩
instance : TyFld Tryz.prog 46 9 9 := ⟨by kernel_rfl⟩
instance : TyFld Tryz.prog 46 10 10 := ⟨by kernel_rfl⟩
instance : TyFld Tryz.prog 46 11 11 := ⟨by kernel_rfl⟩
instance : TyFld Tryz.prog 46 12 14 := ⟨by kernel_rfl⟩
instance : TyFld Tryz.prog 46 13 15 := ⟨by kernel_rfl⟩
instance : TyFld Tryz.prog 46 14 16 := ⟨by kernel_rfl⟩
instance : TyFld Tryz.prog 46 15 17 := ⟨by kernel_rfl⟩
instance : TyFld Tryz.prog 46 16 18 := ⟨by kernel_rfl⟩
instance : TyPl Tryz.prog 46 [(0,1),(1,1),(2,1),(3,1),(4,1),(5,1),(6,1),(7,1),(8,1),(9,1),(10,1),(11,3),(14,1),(15,1),(16,1),(17,1),(18,2)] := ⟨by kernel_rfl⟩
instance : TyZero Tryz.prog 46 (.agg #[(.string ⟨#[]⟩),(.int .i64 0),(.string ⟨#[]⟩),(.int .i64 0),(.int .i64 0),(.string ⟨#[]⟩),(.string ⟨#[]⟩),(.int .i64 0),(.string ⟨#[]⟩),(.slice none 0 0),(.string ⟨#[]⟩),(.string ⟨#[]⟩),(.string ⟨#[]⟩),(.string ⟨#[]⟩),(.int .i64 0),(.slice none 0 0),(.int .i64 0),(.int .i64 0),(.int .i64 0),(.int .i64 0)]) := ⟨by kernel_rfl⟩
instance : TyAgg Tryz.prog 55 9 := ⟨by kernel_rfl⟩
instance : TyFld Tryz.prog 55 0 0 := ⟨by kernel_rfl⟩
instance : TyFld Tryz.prog 55 1 1 := ⟨by kernel_rfl⟩
instance : TyFld Tryz.prog 55 2 2 := ⟨by kernel_rfl⟩
instance : TyFld Tryz.prog 55 4 4 := ⟨by kernel_rfl⟩
instance : TyFld Tryz.prog 55 5 5 := ⟨by kernel_rfl⟩
instance : TyPl Tryz.prog 55 [(0,1),(1,1),(2,1),(3,1),(4,1),(5,1),(6,1),(7,2)] := ⟨by kernel_rfl⟩
instance : TyZero Tryz.prog 55 (.agg #[(.string ⟨#[]⟩),(.int .i64 0),(.string ⟨#[]⟩),(.int .i64 0),(.int .i64 0),(.int .i64 0),(.int .i64 0),(.int .i64 0),(.int .i64 0)]) := ⟨by kernel_rfl⟩
instance : TyAgg Tryz.prog 57 7 := ⟨by kernel_rfl⟩
instance : TyFld Tryz.prog 57 0 0 := ⟨by kernel_rfl⟩
instance : TyAgg Tryz.prog 59 12 := ⟨by kernel_rfl⟩
instance : TyFld Tryz.prog 59 0 0 := ⟨by kernel_rfl⟩
instance : TyFld Tryz.prog 59 1 1 := ⟨by kernel_rfl⟩
instance : TyFld Tryz.prog 59 2 2 := ⟨by kernel_rfl⟩
instance : TyFld Tryz.prog 59 3 3 := ⟨by kernel_rfl⟩
instance : TyFld Tryz.prog 59 4 4 := ⟨by kernel_rfl⟩
instance : TyFld Tryz.prog 59 5 5 := ⟨by kernel_rfl⟩
instance : TyFld Tryz.prog 59 6 6 := ⟨by kernel_rfl⟩
instance : TyFld Tryz.prog 59 7 7 := ⟨by kernel_rfl⟩
instance : TyFld Tryz.prog 59 8 8 := ⟨by kernel_rfl⟩
instance : TyFld Tryz.prog 59 9 9 := ⟨by kernel_rfl⟩
instance : TyFld Tryz.prog 59 10 10 := ⟨by kernel_rfl⟩
instance : TyAgg Tryz.prog 61 49 := ⟨by kernel_rfl⟩
instance : TyFld Tryz.prog 61 0 0 := ⟨by kernel_rfl⟩
instance : TyFld Tryz.prog 61 1 1 := ⟨by kernel_rfl⟩
instance : TyFld Tryz.prog 61 2 21 := ⟨by kernel_rfl⟩
instance : TyFld Tryz.prog 61 3 30 := ⟨by kernel_rfl⟩
instance : TyFld Tryz.prog 61 4 37 := ⟨by kernel_rfl⟩
instance : TyPl Tryz.prog 61 [(0,1),(1,20),(21,9),(30,7),(37,12)] := ⟨by kernel_rfl⟩
instance : TyZero Tryz.prog 61 (.agg #[(.int .i64 0),(.string ⟨#[]⟩),(.int .i64 0),(.string ⟨#[]⟩),(.int .i64 0),(.int .i64 0),(.string ⟨#[]⟩),(.string ⟨#[]⟩),(.int .i64 0),(.string ⟨#[]⟩),(.slice none 0 0),(.string ⟨#[]⟩),(.string ⟨#[]⟩),(.string ⟨#[]⟩),(.string ⟨#[]⟩),(.int .i64 0),(.slice none 0 0),(.int .i64 0),(.int .i64 0),(.int .i64 0),(.int .i64 0),(.string ⟨#[]⟩),(.int .i64 0),(.string ⟨#[]⟩),(.int .i64 0),(.int .i64 0),(.int .i64 0),(.int .i64 0),(.int .i64 0),(.int .i64 0),(.int .i64 0),(.string ⟨#[]⟩),(.int .i64 0),(.string ⟨#[]⟩),(.int .i64 0),(.int .i64 0),(.int .i64 0),(.int .i64 0),(.int .i64 0),(.int .i64 0),(.string ⟨#[]⟩),(.string ⟨#[]⟩),(.string ⟨#[]⟩),(.slice none 0 0),(.int .i64 0),(.int .i64 0),(.int .i64 0),(.int .i64 0),(.int .i64 0)]) := ⟨by kernel_rfl⟩
instance : TyAgg Tryz.prog 67 2 := ⟨by kernel_rfl⟩
instance : TyFld Tryz.prog 67 0 0 := ⟨by kernel_rfl⟩
instance : TyFld Tryz.prog 67 1 1 := ⟨by kernel_rfl⟩
instance : TyPl Tryz.prog 67 [(0,1),(1,1)] := ⟨by kernel_rfl⟩
instance : TyZero Tryz.prog 67 (.agg #[(.int .i64 0),(.int .i64 0)]) := ⟨by kernel_rfl⟩
instance : TyOne Tryz.prog 69 := ⟨by kernel_rfl⟩
instance : TySl Tryz.prog 69 61 49 568 := ⟨by kernel_rfl⟩
instance : TyAgg Tryz.prog 71 2 := ⟨by kernel_rfl⟩
instance : TyFld Tryz.prog 71 0 0 := ⟨by kernel_rfl⟩
instance : TyFld Tryz.prog 71 1 1 := ⟨by kernel_rfl⟩
instance : TyPl Tryz.prog 71 [(0,1),(1,1)] := ⟨by kernel_rfl⟩
instance : TyZero Tryz.prog 71 (.agg #[(.slice none 0 0),(.slice none 0 0)]) := ⟨by kernel_rfl⟩
instance : TyOne Tryz.prog 85 := ⟨by kernel_rfl⟩
instance : TyOne Tryz.prog 86 := ⟨by kernel_rfl⟩
instance : TyFld Tryz.prog 88 0 0 := ⟨by kernel_rfl⟩
instance : TyFld Tryz.prog 88 1 6 := ⟨by kernel_rfl⟩
instance : TyFld Tryz.prog 88 2 7 := ⟨by kernel_rfl⟩
instance : TyFld Tryz.prog 88 3 8 := ⟨by kernel_rfl⟩
instance : TyPl Tryz.prog 88 [(0,6),(6,1),(7,1),(8,1)] := ⟨by kernel_rfl⟩
instance : TyZero Tryz.prog 88 (.agg #[(.string ⟨#[]⟩),(.slice none 0 0),(.slice none 0 0),(.string ⟨#[]⟩),(.int .i64 0),(.bool false),(.slice none 0 0),(.map none),(.map none)]) := ⟨by kernel_rfl⟩
instance : TyAgg Tryz.prog 93 5 := ⟨by kernel_rfl⟩
instance : TyFld Tryz.prog 93 0 0 := ⟨by kernel_rfl⟩
instance : TyFld Tryz.prog 93 1 1 := ⟨by kernel_rfl⟩
instance : TyFld Tryz.prog 93 2 2 := ⟨by kernel_rfl⟩
instance : TyZero Tryz.prog 93 (.agg #[(.int .i64 0),(.int .i64 0),(.string ⟨#[]⟩),(.string ⟨#[]⟩),(.string ⟨#[]⟩)]) := ⟨by kernel_rfl⟩
instance : TyOne Tryz.prog 111 := ⟨by kernel_rfl⟩
instance : TyOne Tryz.prog 120 := ⟨by kernel_rfl⟩
instance : TySl Tryz.prog 120 5 1 1 := ⟨by kernel_rfl⟩
instance : TyFld Tryz.prog 122 0 0 := ⟨by kernel_rfl⟩
instance : TyZero Tryz.prog 122 (.agg #[(.slice none 0 0)]) := ⟨by kernel_rfl⟩
instance : TyOne Tryz.prog 130 := ⟨by kernel_rfl⟩
instance : TyInt Tryz.prog 130 .u32 := ⟨by kernel_rfl⟩
instance : TyAgg Tryz.prog 131 8 := ⟨by kernel_rfl⟩
instance : TyZero Tryz.prog 131 (.agg #[(.int .u32 0),(.int .u32 0),(.int .u32 0),(.int .u32 0),(.int .u32 0),(.int .u32 0),(.int .u32 0),(.int .u32 0)]) := ⟨by kernel_rfl⟩
instance : TyInt Tryz.prog 134 .u64 := ⟨by kernel_rfl⟩
instance : TyOne Tryz.prog 143 := ⟨by kernel_rfl⟩
instance : TyOne Tryz.prog 144 := ⟨by kernel_rfl⟩
instance : TyFld Tryz.prog 146 0 0 := ⟨by kernel_rfl⟩
instance : TyFld Tryz.prog 146 1 2 := ⟨by kernel_rfl⟩
instance : TyFld Tryz.prog 146 2 8 := ⟨by kernel_rfl⟩
instance : TyFld Tryz.prog 146 3 9 := ⟨by kernel_rfl⟩
instance : TyFld Tryz.prog 146 4 10 := ⟨by kernel_rfl⟩
instance : TyFld Tryz.prog 146 5 19 := ⟨by kernel_rfl⟩
instance : TyPl Tryz.prog 146 [(0,2),(2,6),(8,1),(9,1),(10,9),(19,1)] := ⟨by kernel_rfl⟩
instance : TyZero Tryz.prog 146 (.agg #[(.slice none 0 0),(.slice none 0 0),(.string ⟨#[]⟩),(.slice none 0 0),(.slice none 0 0),(.string ⟨#[]⟩),(.int .i64 0),(.bool false),(.map none),(.map none),(.string ⟨#[]⟩),(.int .i64 0),(.string ⟨#[]⟩),(.int .i64 0),(.int .i64 0),(.int .i64 0),(.int .i64 0),(.int .i64 0),(.int .i64 0),(.bool false)]) := ⟨by kernel_rfl⟩
instance : TyAgg Tryz.prog 149 2 := ⟨by kernel_rfl⟩
instance : TyPl Tryz.prog 149 [(0,1),(1,1)] := ⟨by kernel_rfl⟩
instance : TyZero Tryz.prog 149 (.agg #[(.int .i64 0),(.string ⟨#[]⟩)]) := ⟨by kernel_rfl⟩
instance : TyAgg Tryz.prog 152 3 := ⟨by kernel_rfl⟩
instance : TyFld Tryz.prog 152 0 0 := ⟨by kernel_rfl⟩
instance : TyFld Tryz.prog 152 1 1 := ⟨by kernel_rfl⟩
instance : TyPl Tryz.prog 152 [(0,1),(1,1),(2,1)] := ⟨by kernel_rfl⟩
instance : TyZero Tryz.prog 152 (.agg #[(.int .i64 0),(.int .i64 0),(.int .i64 0)]) := ⟨by kernel_rfl⟩
instance : TyAgg Tryz.prog 164 2 := ⟨by kernel_rfl⟩
instance : TyFld Tryz.prog 164 0 0 := ⟨by kernel_rfl⟩
instance : TyFld Tryz.prog 164 1 1 := ⟨by kernel_rfl⟩
instance : TyPl Tryz.prog 164 [(0,1),(1,1)] := ⟨by kernel_rfl⟩
instance : TyZero Tryz.prog 164 (.agg #[(.int .i64 0),.nilFunc]) := ⟨by kernel_rfl⟩
instance : TyAgg Tryz.prog 184 64 := ⟨by kernel_rfl⟩
instance : TyZero Tryz.prog 184 (.agg #[(.int .u32 0),(.int .u32 0),(.int .u32 0),(.int .u32 0),(.int .u32 0),(.int .u32 0),(.int .u32 0),(.int .u32 0),(.int .u32 0),(.int .u32 0),(.int .u32 0),(.int .u32 0),(.int .u32 0),(.int .u32 0),(.int .u32 0),(.int .u32 0),(.int .u32 0),(.int .u32 0),(.int .u32 0),(.int .u32 0),(.int .u32 0),(.int .u32 0),(.int .u32 0),(.int .u32 0),(.int .u32 0),(.int .u32 0),(.int .u32 0),(.int .u32 0),(.int .u32 0),(.int .u32 0),(.int .u32 0),(.int .u32 0),(.int .u32 0),(.int .u32 0),(.int .u32 0),(.int .u32 0),(.int .u32 0),(.int .u32 0),(.int .u32 0),(.int .u32 0),(.int .u32 0),(.int .u32 0),(.int .u32 0),(.int .u32 0),(.int .u32 0),(.int .u32 0),(.int .u32 0),(.int .u32 0),(.int .u32 0),(.int .u32 0),(.int .u32 0),(.int .u32 0),(.int .u32 0),(.int .u32 0),(.int .u32 0),(.int .u32 0),(.int .u32 0),(.int .u32 0),(.int .u32 0),(.int .u32 0),(.int .u32 0),(.int .u32 0),(.int .u32 0),(.int .u32 0)]) := ⟨by kernel_rfl⟩
instance : TyInt Tryz.prog 187 .u64 := ⟨by kernel_rfl⟩
instance : TyAgg Tryz.prog 188 4 := ⟨by kernel_rfl⟩
instance : TyFld Tryz.prog 188 1 1 := ⟨by kernel_rfl⟩
instance : TyFld Tryz.prog 188 2 2 := ⟨by kernel_rfl⟩
instance : TyPl Tryz.prog 188 [(0,1),(1,1),(2,1),(3,1)] := ⟨by kernel_rfl⟩
instance : TyZero Tryz.prog 188 (.agg #[(.slice none 0 0),(.slice none 0 0),(.slice none 0 0),(.slice none 0 0)]) := ⟨by kernel_rfl⟩
instance : TyOne Tryz.prog 229 := ⟨by kernel_rfl⟩
instance : TyAgg Tryz.prog 231 4 := ⟨by kernel_rfl⟩
instance : TyFld Tryz.prog 231 0 0 := ⟨by kernel_rfl⟩
instance : TyFld Tryz.prog 231 1 1 := ⟨by kernel_rfl⟩
instance : TyFld Tryz.prog 231 2 2 := ⟨by kernel_rfl⟩
instance : TyFld Tryz.prog 231 3 3 := ⟨by kernel_rfl⟩
instance : TyPl Tryz.prog 231 [(0,1),(1,1),(2,1),(3,1)] := ⟨by kernel_rfl⟩
instance : TyZero Tryz.prog 231 (.agg #[(.map none),(.map none),(.map none),(.map none)]) := ⟨by kernel_rfl⟩
instance : TySl Tryz.prog 239 242 22 288 := ⟨by kernel_rfl⟩
instance : TyAgg Tryz.prog 242 22 := ⟨by kernel_rfl⟩
instance : TyFld Tryz.prog 242 2 2 := ⟨by kernel_rfl⟩
instance : TyPl Tryz.prog 242 [(0,1),(1,1),(2,20)] := ⟨by kernel_rfl⟩
instance : TyZero Tryz.prog 242 (.agg #[(.int .i64 0),(.string ⟨#[]⟩),(.string ⟨#[]⟩),(.int .i64 0),(.string ⟨#[]⟩),(.int .i64 0),(.int .i64 0),(.string ⟨#[]⟩),(.string ⟨#[]⟩),(.int .i64 0),(.string ⟨#[]⟩),(.slice none 0 0),(.string ⟨#[]⟩),(.string ⟨#[]⟩),(.string ⟨#[]⟩),(.string ⟨#[]⟩),(.int .i64 0),(.slice none 0 0),(.int .i64 0),(.int .i64 0),(.int .i64 0),(.int .i64 0)]) := ⟨by kernel_rfl⟩
instance : TySl Tryz.prog 246 55 9 88 := ⟨by kernel_rfl⟩
instance : TySl Tryz.prog 296 299 11 112 := ⟨by kernel_rfl⟩
instance : TyAgg Tryz.prog 299 11 := ⟨by kernel_rfl⟩
instance : TyFld Tryz.prog 299 2 2 := ⟨by kernel_rfl⟩
instance : TyPl Tryz.prog 299 [(0,1),(1,1),(2,9)] := ⟨by kernel_rfl⟩
instance : TyZero Tryz.prog 299 (.agg #[(.int .i64 0),(.string ⟨#[]⟩),(.string ⟨#[]⟩),(.int .i64 0),(.string ⟨#[]⟩),(.int .i64 0),(.int .i64 0),(.int .i64 0),(.int .i64 0),(.int .i64 0),(.int .i64 0)]) := ⟨by kernel_rfl⟩
instance : FnBody Tryz.prog 6 := ⟨by kernel_rfl⟩
instance : FnBody Tryz.prog 7 := ⟨by kernel_rfl⟩
instance : FnBody Tryz.prog 9 := ⟨by kernel_rfl⟩
instance : FnBody Tryz.prog 11 := ⟨by kernel_rfl⟩
instance : FnBody Tryz.prog 12 := ⟨by kernel_rfl⟩
instance : FnBody Tryz.prog 14 := ⟨by kernel_rfl⟩
instance : FnBody Tryz.prog 15 := ⟨by kernel_rfl⟩
instance : FnBody Tryz.prog 16 := ⟨by kernel_rfl⟩
instance : FnBody Tryz.prog 19 := ⟨by kernel_rfl⟩
instance : FnBody Tryz.prog 20 := ⟨by kernel_rfl⟩
instance : FnBody Tryz.prog 21 := ⟨by kernel_rfl⟩
instance : FnBody Tryz.prog 22 := ⟨by kernel_rfl⟩
instance : FnBody Tryz.prog 23 := ⟨by kernel_rfl⟩
instance : FnBody Tryz.prog 24 := ⟨by kernel_rfl⟩
instance : FnBody Tryz.prog 25 := ⟨by kernel_rfl⟩
instance : FnBody Tryz.prog 26 := ⟨by kernel_rfl⟩
instance : FnBody Tryz.prog 27 := ⟨by kernel_rfl⟩
instance : FnBody Tryz.prog 29 := ⟨by kernel_rfl⟩
instance : FnBody Tryz.prog 32 := ⟨by kernel_rfl⟩
instance : FnBody Tryz.prog 33 := ⟨by kernel_rfl⟩
instance : FnBody Tryz.prog 34 := ⟨by kernel_rfl⟩
instance : FnBody Tryz.prog 35 := ⟨by kernel_rfl⟩
instance : FnBody Tryz.prog 36 := ⟨by kernel_rfl⟩
instance : FnBody Tryz.prog 37 := ⟨by kernel_rfl⟩
instance : FnBody Tryz.prog 38 := ⟨by kernel_rfl⟩
instance : FnBody Tryz.prog 39 := ⟨by kernel_rfl⟩
instance : FnBody Tryz.prog 40 := ⟨by kernel_rfl⟩
instance : FnBody Tryz.prog 41 := ⟨by kernel_rfl⟩
instance : FnBody Tryz.prog 42 := ⟨by kernel_rfl⟩
instance : FnBody Tryz.prog 43 := ⟨by kernel_rfl⟩
instance : FnBody Tryz.prog 44 := ⟨by kernel_rfl⟩
instance : FnBody Tryz.prog 45 := ⟨by kernel_rfl⟩
instance : FnBody Tryz.prog 46 := ⟨by kernel_rfl⟩
instance : FnBody Tryz.prog 47 := ⟨by kernel_rfl⟩
instance : FnBody Tryz.prog 48 := ⟨by kernel_rfl⟩
instance : FnBody Tryz.prog 49 := ⟨by kernel_rfl⟩
instance : FnBody Tryz.prog 50 := ⟨by kernel_rfl⟩
instance : FnBody Tryz.prog 51 := ⟨by kernel_rfl⟩
instance : FnBody Tryz.prog 52 := ⟨by kernel_rfl⟩
instance : FnBody Tryz.prog 53 := ⟨by kernel_rfl⟩
instance : FnBody Tryz.prog 54 := ⟨by kernel_rfl⟩
instance : FnBody Tryz.prog 57 := ⟨by kernel_rfl⟩
instance : FnBody Tryz.prog 59 := ⟨by kernel_rfl⟩
instance : FnBody Tryz.prog 60 := ⟨by kernel_rfl⟩
instance : FnBody Tryz.prog 61 := ⟨by kernel_rfl⟩
instance : FnBody Tryz.prog 62 := ⟨by kernel_rfl⟩
instance : FnBody Tryz.prog 63 := ⟨by kernel_rfl⟩
instance : FnBody Tryz.prog 71 := ⟨by kernel_rfl⟩
instance : FnBody Tryz.prog 72 := ⟨by kernel_rfl⟩
instance : FnBody Tryz.prog 73 := ⟨by kernel_rfl⟩
instance : FnBody Tryz.prog 74 := ⟨by kernel_rfl⟩
instance : FnBody Tryz.prog 76 := ⟨by kernel_rfl⟩
instance : FnBody Tryz.prog 77 := ⟨by kernel_rfl⟩
instance : FnBody Tryz.prog 78 := ⟨by kernel_rfl⟩
instance : FnBody Tryz.prog 79 := ⟨by kernel_rfl⟩
instance : FnBody Tryz.prog 80 := ⟨by kernel_rfl⟩
instance : FnBody Tryz.prog 81 := ⟨by kernel_rfl⟩
instance : FnBody Tryz.prog 82 := ⟨by kernel_rfl⟩
instance : FnBody Tryz.prog 83 := ⟨by kernel_rfl⟩
instance : FnBody Tryz.prog 84 := ⟨by kernel_rfl⟩
instance : FnBody Tryz.prog 85 := ⟨by kernel_rfl⟩
instance : FnBody Tryz.prog 86 := ⟨by kernel_rfl⟩
instance : FnBody Tryz.prog 87 := ⟨by kernel_rfl⟩
instance : FnBody Tryz.prog 88 := ⟨by kernel_rfl⟩
instance : FnBody Tryz.prog 89 := ⟨by kernel_rfl⟩
instance : FnBody Tryz.prog 90 := ⟨by kernel_rfl⟩
instance : FnBody Tryz.prog 91 := ⟨by kernel_rfl⟩
instance : FnBody Tryz.prog 92 := ⟨by kernel_rfl⟩
instance : FnBody Tryz.prog 93 := ⟨by kernel_rfl⟩
instance : FnBody Tryz.prog 94 := ⟨by kernel_rfl⟩
instance : FnBody Tryz.prog 95 := ⟨by kernel_rfl⟩
instance : FnBody Tryz.prog 96 := ⟨by kernel_rfl⟩
instance : FnBody Tryz.prog 98 := ⟨by kernel_rfl⟩
instance : FnBody Tryz.prog 99 := ⟨by kernel_rfl⟩
instance : FnBody Tryz.prog 102 := ⟨by kernel_rfl⟩
instance : FnBody Tryz.prog 103 := ⟨by kernel_rfl⟩
instance : FnBody Tryz.prog 104 := ⟨by kernel_rfl⟩
instance : FnBody Tryz.prog 105 := ⟨by kernel_rfl⟩
instance : FnBody Tryz.prog 106 := ⟨by kernel_rfl⟩
instance : FnBody Tryz.prog 107 := ⟨by kernel_rfl⟩
instance : FnBody Tryz.prog 108 := ⟨by kernel_rfl⟩
instance : FnBody Tryz.prog 109 := ⟨by kernel_rfl⟩
instance : FnBody Tryz.prog 110 := ⟨by kernel_rfl⟩
instance : FnBody Tryz.prog 123 := ⟨by kernel_rfl⟩
instance : FnBody Tryz.prog 127 := ⟨by kernel_rfl⟩
instance : FnBody Tryz.prog 128 := ⟨by kernel_rfl⟩
instance : FnBody Tryz.prog 129 := ⟨by kernel_rfl⟩
instance : FnBody Tryz.prog 130 := ⟨by kernel_rfl⟩
instance : FnBody Tryz.prog 131 := ⟨by kernel_rfl⟩
instance : FnBody Tryz.prog 132 := ⟨by kernel_rfl⟩
instance : FnBody Tryz.prog 133 := ⟨by kernel_rfl⟩
instance : FnBody Tryz.prog 134 := ⟨by kernel_rfl⟩
instance : FnBody Tryz.prog 135 := ⟨by kernel_rfl⟩
instance : FnBody Tryz.prog 139 := ⟨by kernel_rfl⟩
instance : FnBody Tryz.prog 140 := ⟨by kernel_rfl⟩
instance : FnBody Tryz.prog 141 := ⟨by kernel_rfl⟩
instance : FnBody Tryz.prog 142 := ⟨by kernel_rfl⟩
instance : FnBody Tryz.prog 143 := ⟨by kernel_rfl⟩
instance : FnBody Tryz.prog 145 := ⟨by kernel_rfl⟩
instance : FnBody Tryz.prog 146 := ⟨by kernel_rfl⟩
instance : FnBody Tryz.prog 147 := ⟨by kernel_rfl⟩
instance : FnBody Tryz.prog 148 := ⟨by kernel_rfl⟩
instance : FnBody Tryz.prog 149 := ⟨by kernel_rfl⟩
instance : FnBody Tryz.prog 150 := ⟨by kernel_rfl⟩
instance : FnBody Tryz.prog 151 := ⟨by kernel_rfl⟩
instance : FnBody Tryz.prog 154 := ⟨by kernel_rfl⟩
instance : FnBody Tryz.prog 155 := ⟨by kernel_rfl⟩
instance : FnBody Tryz.prog 156 := ⟨by kernel_rfl⟩
instance : FnBody Tryz.prog 157 := ⟨by kernel_rfl⟩
instance : FnBody Tryz.prog 158 := ⟨by kernel_rfl⟩
instance : FnBody Tryz.prog 159 := ⟨by kernel_rfl⟩
instance : FnBody Tryz.prog 160 := ⟨by kernel_rfl⟩
instance : FnBody Tryz.prog 161 := ⟨by kernel_rfl⟩
instance : FnBody Tryz.prog 162 := ⟨by kernel_rfl⟩
instance : FnBody Tryz.prog 163 := ⟨by kernel_rfl⟩
instance : FnBody Tryz.prog 164 := ⟨by kernel_rfl⟩
instance : FnBody Tryz.prog 165 := ⟨by kernel_rfl⟩
instance : FnBody Tryz.prog 166 := ⟨by kernel_rfl⟩
instance : FnBody Tryz.prog 167 := ⟨by kernel_rfl⟩
instance : FnBody Tryz.prog 168 := ⟨by kernel_rfl⟩
instance : FnBody Tryz.prog 169 := ⟨by kernel_rfl⟩
instance : FnBody Tryz.prog 170 := ⟨by kernel_rfl⟩
instance : FnBody Tryz.prog 171 := ⟨by kernel_rfl⟩
instance : FnBody Tryz.prog 172 := ⟨by kernel_rfl⟩
instance : FnBody Tryz.prog 173 := ⟨by kernel_rfl⟩
instance : FnBody Tryz.prog 174 := ⟨by kernel_rfl⟩
instance : FnBody Tryz.prog 175 := ⟨by kernel_rfl⟩
instance : FnBody Tryz.prog 188 := ⟨by kernel_rfl⟩
instance : FnBody Tryz.prog 189 := ⟨by kernel_rfl⟩
instance : FnBody Tryz.prog 191 := ⟨by kernel_rfl⟩
instance : FnBody Tryz.prog 192 := ⟨by kernel_rfl⟩
instance : FnBody Tryz.prog 193 := ⟨by kernel_rfl⟩
instance : FnBody Tryz.prog 196 := ⟨by kernel_rfl⟩
instance : FnBody Tryz.prog 199 := ⟨by kernel_rfl⟩
instance : FnBody Tryz.prog 200 := ⟨by kernel_rfl⟩
instance : FnBody Tryz.prog 202 := ⟨by kernel_rfl⟩
instance : FnBody Tryz.prog 206 := ⟨by kernel_rfl⟩
instance : FnBody Tryz.prog 207 := ⟨by kernel_rfl⟩
instance : FnBody Tryz.prog 208 := ⟨by kernel_rfl⟩
instance : FnBody Tryz.prog 211 := ⟨by kernel_rfl⟩
instance : FnBody Tryz.prog 212 := ⟨by kernel_rfl⟩
instance : FnBody Tryz.prog 213 := ⟨by kernel_rfl⟩
instance : FnBody Tryz.prog 214 := ⟨by kernel_rfl⟩
instance : FnBody Tryz.prog 215 := ⟨by kernel_rfl⟩
instance : FnBody Tryz.prog 221 := ⟨by kernel_rfl⟩
instance : FnBody Tryz.prog 222 := ⟨by kernel_rfl⟩
instance : FnBody Tryz.prog 223 := ⟨by kernel_rfl⟩
instance : FnBody Tryz.prog 224 := ⟨by kernel_rfl⟩
instance : FnBody Tryz.prog 225 := ⟨by kernel_rfl⟩
instance : FnBody Tryz.prog 226 := ⟨by kernel_rfl⟩
instance : FnBody Tryz.prog 237 := ⟨by kernel_rfl⟩
instance : FnBody Tryz.prog 238 := ⟨by kernel_rfl⟩
instance : FnBody Tryz.prog 241 := ⟨by kernel_rfl⟩
instance : FnBody Tryz.prog 243 := ⟨by kernel_rfl⟩
instance : FnBody Tryz.prog 244 := ⟨by kernel_rfl⟩
instance : FnBody Tryz.prog 248 := ⟨by kernel_rfl⟩
instance : FnBody Tryz.prog 265 := ⟨by kernel_rfl⟩
instance : FnBody Tryz.prog 266 := ⟨by kernel_rfl⟩
instance : FnBody Tryz.prog 268 := ⟨by kernel_rfl⟩
instance : FnBody Tryz.prog 287 := ⟨by kernel_rfl⟩
instance : FnBody Tryz.prog 289 := ⟨by kernel_rfl⟩
instance : FnBody Tryz.prog 308 := ⟨by kernel_rfl⟩
end Go.Proofs.YtjmpdkmboheknaaGreatDoor.Sy

namespace Go.Proofs.YtjmpdkmboheknaaGreatDoor
open Go Go.Proofs Sy

def strs (l : List ByteArray) : List (List Value) := l.map fun s => [.string s]
def Strs (w : World) (s : SlV) (l : List ByteArray) : Prop := RowsD w 1 s (strs l)
theorem Strs.at_ {w : World} {s : SlV} {l : List ByteArray} (h : Strs w s l) {i : Nat} {x : ByteArray} (hx : l[i]? = some x) : CellAt w s.p i (.string x) := by
  have := (RowsD.row h i [.string x] (by simp [strs,hx])).2.2 0 (.string x) rfl
  simpa using this
theorem Strs.len_ {w : World} {s : SlV} {l : List ByteArray} (h : Strs w s l) : s.n = l.length := by have := RowsD.len h;simpa [strs] using this
theorem Strs.some_ {w : World} {s : SlV} {l : List ByteArray} (h : Strs w s l) (hl : 0 < l.length) : s.p.isSome = true := by
  have hx : l[0]? = some l[0] := List.getElem?_eq_getElem hl
  exact (RowsD.row h 0 [.string l[0]] (by simp [strs,hx])).2.1
theorem Strs.get {w : World} {s : SlV} {l : List ByteArray} (h : Strs w s l) {i : Nat} (hi : i < l.length) : CellAt w s.p i (.string (l.getD i .empty)) := h.at_ (by simp [hi])

structure BoxD where
  nonce : ByteArray
  data : ByteArray
  tag : ByteArray
structure WrapD where
  to : Int
  eph : Int
  box : BoxD
structure ActD where
  author : ByteArray
  seq : Int
  prev : ByteArray
  kind : Int
  time : Int
  object : ByteArray
  target : ByteArray
  scope : Int
  group : ByteArray
  to : SlV
  text : ByteArray
  body : BoxD
  epoch : Int
  wraps : SlV
  n : Int
  m : Int
  e : Int
  s : Int
  toL : List ByteArray
  wrapsL : List WrapD
def BoxD.cells (b : BoxD) : List Value := [.string b.nonce,.string b.data,.string b.tag]
def BoxD.v (b : BoxD) : Value := .agg b.cells.toArray
theorem BoxD.v_cells (b : BoxD) : b.v.cells.toList = b.cells := rfl
def BoxD.zero : BoxD := ⟨⟨#[]⟩,⟨#[]⟩,⟨#[]⟩⟩
def WrapD.cells (w : WrapD) : List Value := [.int .i64 w.to,.int .i64 w.eph,.string w.box.nonce,.string w.box.data,.string w.box.tag]
theorem WrapD.cells_box (w : WrapD) : (w.cells.drop 2).take 3 = w.box.cells := rfl
def ActD.cells (a : ActD) : List Value := [.string a.author,.int .i64 a.seq,.string a.prev,.int .i64 a.kind,.int .i64 a.time,.string a.object,.string a.target,.int .i64 a.scope,.string a.group,a.to.v,
  .string a.text,.string a.body.nonce,.string a.body.data,.string a.body.tag,.int .i64 a.epoch,a.wraps.v,.int .i64 a.n,.int .i64 a.m,.int .i64 a.e,.int .i64 a.s]
def ActD.v (a : ActD) : Value := .agg a.cells.toArray
theorem ActD.v_cells (a : ActD) : a.v.cells.toList = a.cells := rfl
theorem ActD.cells_body (a : ActD) : (a.cells.drop 11).take 3 = a.body.cells := rfl

def Wraps (w : World) (s : SlV) (l : List WrapD) : Prop := RowsD w 5 s (l.map WrapD.cells)
theorem Wraps.len_ {w : World} {s : SlV} {l : List WrapD} (h : Wraps w s l) : s.n = l.length := by have := RowsD.len h;simpa using this
theorem Wraps.some_ {w : World} {s : SlV} {l : List WrapD} (h : Wraps w s l) (hl : 0 < l.length) : s.p.isSome = true := by
  have hx : l[0]? = some l[0] := List.getElem?_eq_getElem hl
  exact (RowsD.row h 0 l[0].cells (by simp [hx])).2.1
theorem Wraps.get {w : World} {s : SlV} {l : List WrapD} (h : Wraps w s l) {i : Nat} {x : WrapD} (hx : l[i]? = some x) : x.cells.length = 5 ∧ s.p.isSome = true ∧ ∀ j u,x.cells[j]? = some u → CellAt w s.p (i * 5 + j) u :=
  RowsD.row h i x.cells (by simp [hx])

def ActD.at_ (w : World) (a : ActD) : Prop := Strs w a.to a.toL ∧ Wraps w a.wraps a.wrapsL
end Go.Proofs.YtjmpdkmboheknaaGreatDoor

namespace Go.Proofs.YtjmpdkmboheknaaGreatDoor
open Go Go.Proofs Sy

def dig (c : Int) : Bool := decide (48 ≤ c) && decide (c ≤ 57)
theorem isDigit_pu (c : Int) : Pu Tryz.prog 154 #[.int .i32 c] (fun _ => True) (.bool (dig c)) := by
  refine pu_of_cw (args:=[_]) _ Tryz.func154 rfl Tryz.ntmps154 rfl fun av bor w0 => ?_
  repeat' (first | apply sw_nil | apply cw_seq | apply cw_reg | refine sy_move (h:=?_) | refine sy_assign (h:=?_) | refine sy_pick_t (h:=?_) | refine sy_pick_f (h:=?_) | refine sy_leq (h:=?_) | refine sw_skipT (h:=?_) | apply cw_ret | ((fail_if_success (refine sw_chk (h:=?_)));refine sw_guard (ht:=?_) (hf:=?_);all_goals (intro hx_;first | have := of_decide_eq_true hx_ | have := of_decide_eq_false hx_)) | fail)
  (all_goals (apply ends_ret;apply res_tmp;rfl;rfl));all_goals (simp only [dig, *,decide_true,decide_false,cond_true,cond_false,Bool.and_true,Bool.true_and,Bool.and_false,Bool.false_and,Bool.not_true,Bool.not_false,Bool.or_true,Bool.true_or,Bool.or_false,Bool.false_or];done)

theorem width_pos (s : ByteArray) (q : Nat) : 1 ≤ (Utf8.decode s q).2 := by
  unfold Utf8.decode
  simp only
  repeat' split
  all_goals simp

def runes (bad : Nat → Int → Bool) (s : ByteArray) : Nat → Nat → Bool
  | 0,_ => true
  | f + 1,q => bif decide (q < s.size) then (bif bad q (Utf8.decode s q).1 then false else runes bad s f (q + (Utf8.decode s q).2)) else true
structure At0 (bad : Nat → Int → Bool) (s : ByteArray) where
  f : Nat
  q : Nat
  h : s.size ≤ f + q
  e : runes bad s f q = runes bad s s.size 0
theorem runes_end {bad : Nat → Int → Bool} {s : ByteArray} (i : At0 bad s) (h : s.size ≤ i.q) : runes bad s s.size 0 = true := by
  rw [← i.e]
  cases hf : i.f with
  | zero => rfl
  | succ f =>
    have : decide (i.q < s.size) = false := by simp;omega
    simp only [runes,this,cond_false]
theorem runes_bad {bad : Nat → Int → Bool} {s : ByteArray} (i : At0 bad s) (h : i.q < s.size) (hb : bad i.q (Utf8.decode s i.q).1 = true) : runes bad s s.size 0 = false := by
  rw [← i.e]
  cases hf : i.f with
  | zero => have := i.h;omega
  | succ f => simp only [runes,decide_eq_true h,hb,cond_true]
def runes_next {bad : Nat → Int → Bool} {s : ByteArray} (i : At0 bad s) (h : i.q < s.size) (hb : bad i.q (Utf8.decode s i.q).1 = false) : At0 bad s :=
  ⟨i.f - 1,i.q + (Utf8.decode s i.q).2,by have := width_pos s i.q;have := i.h;omega,by
    rw [← i.e]
    cases hf : i.f with
    | zero => have := i.h;omega
    | succ f => simp only [runes,decide_eq_true h,hb,cond_true,cond_false,Nat.add_sub_cancel]⟩

def badId (_ : Nat) (c : Int) : Bool := !dig c && (decide (c < 97) || decide (102 < c))
def isId (s : ByteArray) : Bool := decide ((s.size : Int) = 16) && runes badId s s.size 0
theorem right_pu (s : ByteArray) : Pu Tryz.prog 102 #[.string s] (fun _ => True) (.bool (isId s)) := by
  refine pu_of_cw (args:=[_]) _ Tryz.func102 rfl Tryz.ntmps102 rfl fun av bor w0 => ?_
  repeat' (first | apply sw_nil | apply cw_seq | apply cw_reg | refine sy_move (h:=?_) | refine sy_assign (h:=?_) | refine sy_neq (h:=?_) | refine sy_slen (h:=?_) | refine sw_rangeS (h:=fun _ => ?_) | apply cw_skip | apply cw_block | apply cw_ret | (refine cw_cond (ht:=?_) (hf:=?_);all_goals (intro hx_;skip)))
  · (all_goals (apply ends_ret;apply res_tmp;rfl;rfl));all_goals (simp_all [isId];done)
  rename_i b
  refine cw_loop (ι:=At0 badId s) (fun i => ⟨[(0,.string s),(9,.pointer (some ⟨b,0,none⟩))], [sit b s i.q],fun _ => True⟩) (fun i => i.f) ⟨s.size,0,by omega,rfl⟩ (ok_sub ⟨rfl,rfl,trivial⟩ (List.Sublist.refl _) fun _ h => h) fun i => ?_
  repeat' (first | apply sw_nil | apply cw_seq | apply cw_reg | refine sy_move (h:=?_) | refine sy_assign (h:=?_) | refine sy_pick_t (h:=?_) | refine sy_pick_f (h:=?_) | refine sy_not (h:=?_) | refine sy_lss (h:=?_) | refine sy_gtr (h:=?_) | refine sy_extract (h:=?_) | refine sw_skipT (h:=?_) | refine sw_skipF (h:=?_) | refine sw_skipU (h:=?_) | refine sw_nextS (h1:=fun _ => ?_) (h2:=fun _ => ?_) | refine cw_cond_t (ht:=?_) | refine cw_cond_f (hf:=?_) | apply cw_skip | apply cw_block | apply cw_ret | apply cw_exit | refine sw_pu (hc:=isDigit_pu _) (h:=?_) | ((fail_if_success (refine sw_chk (h:=?_)));refine sw_guard (ht:=?_) (hf:=?_);all_goals (intro hx_;first | have := of_decide_eq_true hx_ | have := of_decide_eq_false hx_ | skip)) | (refine cw_cond (ht:=?_) (hf:=?_);all_goals (intro hx_;first | have := of_decide_eq_true hx_ | have := of_decide_eq_false hx_)))
  all_goals first
    | (apply ends_ret;apply res_tmp;rfl;rfl;rw [isId,runes_bad i (by assumption) (by simp only [badId, *,decide_true,decide_false,cond_true,cond_false,Bool.and_true,Bool.true_and,Bool.and_false,Bool.false_and,Bool.not_true,Bool.not_false,Bool.or_true,Bool.true_or,Bool.or_false,Bool.false_or]),Bool.and_false])
    | (apply ends_ret;apply res_tmp;rfl;rfl;rw [isId,runes_end i (by assumption)];simp_all;done)
    | exact ⟨runes_next i (by assumption) (by simp only [badId, *,decide_true,decide_false,cond_true,cond_false,Bool.and_true,Bool.true_and,Bool.and_false,Bool.false_and,Bool.not_true,Bool.not_false,Bool.or_true,Bool.true_or,Bool.or_false,Bool.false_or]),(by show i.f - 1 < i.f;have := i.h;omega),ok_sub ⟨rfl,rfl,trivial⟩ (List.Sublist.refl _) fun _ h => h⟩

def badName (q : Nat) (c : Int) : Bool := !(decide (97 ≤ c) && decide (c ≤ 122)) && (decide ((q : Int) = 0) || !dig c && !decide (c = 95))
def isName (s : ByteArray) : Bool := !(seqB s ⟨#[]⟩) && !decide (24 < (s.size : Int)) && runes badName s s.size 0
theorem name_pu (s : ByteArray) : Pu Tryz.prog 163 #[.string s] (fun _ => True) (.bool (isName s)) := by
  refine pu_of_cw (args:=[_]) _ Tryz.func163 rfl Tryz.ntmps163 rfl fun av bor w0 => ?_
  repeat' (first | apply sw_nil | apply cw_seq | apply cw_reg | refine sy_move (h:=?_) | refine sy_assign (h:=?_) | refine sy_pick_t (h:=?_) | refine sy_pick_f (h:=?_) | refine sy_gtr (h:=?_) | refine sy_seql (h:=?_) | refine sy_slen (h:=?_) | refine sw_skipF (h:=?_) | refine sw_rangeS (h:=fun _ => ?_) | refine cw_cond_t (ht:=?_) | apply cw_skip | apply cw_block | apply cw_ret | ((fail_if_success (refine sw_chk (h:=?_)));refine sw_guard (ht:=?_) (hf:=?_);all_goals (intro hx_;skip)) | (refine cw_cond (ht:=?_) (hf:=?_);all_goals (intro hx_;first | have := of_decide_eq_true hx_ | have := of_decide_eq_false hx_)))
  all_goals try ((all_goals (apply ends_ret;apply res_tmp;rfl;rfl));all_goals (simp only [isName, *,decide_true,decide_false,cond_true,cond_false,Bool.and_true,Bool.true_and,Bool.and_false,Bool.false_and,Bool.not_true,Bool.not_false,Bool.or_true,Bool.true_or,Bool.or_false,Bool.false_or];done))
  rename_i b
  refine cw_loop (ι:=At0 badName s) (fun i => ⟨[(0,.string s),(14,.pointer (some ⟨b,0,none⟩))], [sit b s i.q],fun _ => True⟩) (fun i => i.f) ⟨s.size,0,by omega,rfl⟩ (ok_sub ⟨rfl,rfl,trivial⟩ (List.Sublist.refl _) fun _ h => h) fun i => ?_
  repeat' (first | apply sw_nil | apply cw_seq | apply cw_reg | refine sy_move (h:=?_) | refine sy_assign (h:=?_) | refine sy_pick_t (h:=?_) | refine sy_pick_f (h:=?_) | refine sy_not (h:=?_) | refine sy_eql (h:=?_) | refine sy_neq (h:=?_) | refine sy_leq (h:=?_) | refine sy_extract (h:=?_) | refine sw_skipT (h:=?_) | refine sw_skipF (h:=?_) | refine sw_skipU (h:=?_) | refine sw_nextS (h1:=fun _ => ?_) (h2:=fun _ => ?_) | refine cw_cond_t (ht:=?_) | refine cw_cond_f (hf:=?_) | apply cw_skip | apply cw_block | apply cw_ret | apply cw_exit | refine sw_pu (hc:=isDigit_pu _) (h:=?_) | ((fail_if_success (refine sw_chk (h:=?_)));refine sw_guard (ht:=?_) (hf:=?_);all_goals (intro hx_;first | have := of_decide_eq_true hx_ | have := of_decide_eq_false hx_ | skip)) | (refine cw_cond (ht:=?_) (hf:=?_);all_goals (intro hx_;skip)))
  all_goals first
    | (apply ends_ret;apply res_tmp;rfl;rfl;rw [isName,runes_bad i (by assumption) (by simp only [badName, *,decide_true,decide_false,cond_true,cond_false,Bool.and_true,Bool.true_and,Bool.and_false,Bool.false_and,Bool.not_true,Bool.not_false,Bool.or_true,Bool.true_or,Bool.or_false,Bool.false_or]),Bool.and_false])
    | (apply ends_ret;apply res_tmp;rfl;rfl;rw [isName,runes_end i (by assumption)];simp only [*,decide_true,decide_false,cond_true,cond_false,Bool.and_true,Bool.true_and,Bool.and_false,Bool.false_and,Bool.not_true,Bool.not_false,Bool.or_true,Bool.true_or,Bool.or_false,Bool.false_or];done)
    | exact ⟨runes_next i (by assumption) (by simp only [badName, *,decide_true,decide_false,cond_true,cond_false,Bool.and_true,Bool.true_and,Bool.and_false,Bool.false_and,Bool.not_true,Bool.not_false,Bool.or_true,Bool.true_or,Bool.or_false,Bool.false_or]),(by show i.f - 1 < i.f;have := i.h;omega),ok_sub ⟨rfl,rfl,trivial⟩ (List.Sublist.refl _) fun _ h => h⟩

def allB (n : Nat) (bad : Nat → Bool) : Bool := (List.range n).all fun k => !bad k
theorem allB_true {n : Nat} {bad : Nat → Bool} (h : ∀ j,j < n → bad j = false) : allB n bad = true := by
  simp only [allB,List.all_eq_true,List.mem_range]
  intro j hj
  rw [h j hj]
  rfl
theorem allB_false {n k : Nat} {bad : Nat → Bool} (hk : k < n) (h : bad k = true) : allB n bad = false := by
  simp only [allB,List.all_eq_false,List.mem_range]
  exact ⟨k,hk,by simp [h]⟩
structure Upto (n : Nat) (bad : Nat → Bool) where
  k : Nat
  hk : k ≤ n
  ok : ∀ j,j < k → bad j = false
def Upto.zero (n : Nat) (bad : Nat → Bool) : Upto n bad := ⟨0,Nat.zero_le _,fun j h => absurd h (Nat.not_lt_zero _)⟩
def Upto.next {n : Nat} {bad : Nat → Bool} (i : Upto n bad) (h : i.k < n) (hb : bad i.k = false) : Upto n bad := ⟨i.k + 1,h,fun j hj => by
  by_cases e : j = i.k
  · rw [e];exact hb
  · exact i.ok j (by omega)⟩
theorem Upto.all {n : Nat} {bad : Nat → Bool} (i : Upto n bad) (h : ¬ i.k < n) : allB n bad = true := allB_true fun j hj => i.ok j (by have := i.hk;omega)

def badIds (l : List ByteArray) (k : Nat) : Bool := !isId (l.getD k .empty) || decide (0 < (k : Int)) && (Op.bytesLess (l.getD k .empty).toList (l.getD (k - 1) .empty).toList || seqB (l.getD k .empty) (l.getD (k - 1) .empty))
def isIds (l : List ByteArray) : Bool := !decide (64 < (l.length : Int)) && allB l.length (badIds l)
theorem ids_pu (s : SlV) (l : List ByteArray) : Pu Tryz.prog 166 #[s.v] (fun w => Strs w s l) (.bool (isIds l)) := by
  refine pu_of_cw (args:=[_]) _ Tryz.func166 rfl Tryz.ntmps166 rfl fun av bor w0 => ?_
  refine cw_know (p:=s.n = l.length ∧ s.n ≤ maxLen ∧ (0 < l.length → s.p.isSome = true)) (fun w h => ⟨h.len_,Nat.le_trans (RowsD.cap h) (RowsD.max h),h.some_⟩) fun ⟨hl,hm,hp⟩ => ?_
  simp only [maxLen] at hm
  repeat' (first | apply sw_nil | apply cw_seq | apply cw_reg | refine sy_move (h:=?_) | refine sy_assign (h:=?_) | refine sy_gtr (h:=?_) | refine sy_len (h:=?_) | apply cw_skip | apply cw_block | apply cw_ret | (refine cw_cond (ht:=?_) (hf:=?_);all_goals (intro hx_;first | have := of_decide_eq_true hx_ | have := of_decide_eq_false hx_)))
  · simp only [*] at *
    (all_goals (apply ends_ret;apply res_tmp;rfl;rfl));all_goals (simp only [isIds, *,decide_true,decide_false,cond_true,cond_false,Bool.and_true,Bool.true_and,Bool.and_false,Bool.false_and,Bool.not_true,Bool.not_false,Bool.or_true,Bool.true_or,Bool.or_false,Bool.false_or];done)
  refine cw_loop (ι:=Upto l.length (badIds l)) (fun i => ⟨[(0,s.v),(8,s.v),(9,.int .i64 s.n),(10,.int .i64 i.k)], [],fun w => Strs w s l⟩) (fun i => l.length - i.k) (Upto.zero _ _) (ok_sub ⟨rfl,rfl,rfl,rfl,trivial⟩ (List.Sublist.refl _) fun _ h => h) fun i => ?_
  have hik := i.hk
  repeat' (first | apply sw_nil | apply cw_seq | apply cw_reg | refine sy_move (h:=?_) | refine sy_assign (h:=?_) | refine sy_lss (h:=?_) | apply cw_skip | apply cw_block | apply cw_ret | apply cw_exit | (refine cw_cond (ht:=?_) (hf:=?_);all_goals (intro hx_;first | have := of_decide_eq_true hx_ | have := of_decide_eq_false hx_)))
  · have hlt : i.k < l.length := by omega
    have hp' := hp (by omega)
    repeat' (first | apply sw_nil | apply cw_seq | apply cw_reg | refine sy_move (h:=?_) | refine sy_assign (h:=?_) | refine sy_pick_t (h:=?_) | refine sy_pick_f (h:=?_) | refine sy_not (h:=?_) | refine sy_gtr (h:=?_) | refine sy_add (h:=?_) | refine sy_sub (h:=?_) | refine sw_skipT (h:=?_) | refine sw_skipF (h:=?_) | refine sw_skipU (h:=?_) | refine cw_cond_t (ht:=?_) | refine cw_cond_f (hf:=?_) | apply cw_skip | apply cw_ret | refine sw_pu (hc:=right_pu _) (h:=?_) | (refine sy_idxX (q:=i.k) (h:=?_)) | (refine sy_idxX (q:=i.k - 1) (h:=?_)) | (refine sy_ldX (hF:=fun w h => Strs.get h hlt) (h:=?_)) | (refine sy_ldX (hF:=fun w h => Strs.get h (by omega : i.k - 1 < l.length)) (h:=?_)) | (refine sy_sleq (h:=?_)) | ((fail_if_success (refine sw_chk (h:=?_)));refine sw_guard (ht:=?_) (hf:=?_);all_goals (intro hx_;first | have := of_decide_eq_true hx_ | have := of_decide_eq_false hx_ | skip)) | (refine cw_cond (ht:=?_) (hf:=?_);all_goals (intro hx_;skip)))
    all_goals first
      | (apply ends_ret;apply res_tmp;rfl;rfl;rw [isIds,allB_false hlt (by simp only [badIds, *,decide_true,decide_false,cond_true,cond_false,Bool.and_true,Bool.true_and,Bool.and_false,Bool.false_and,Bool.not_true,Bool.not_false,Bool.or_true,Bool.true_or,Bool.or_false,Bool.false_or]),Bool.and_false])
      | exact ⟨i.next hlt (by simp only [badIds, *,decide_true,decide_false,cond_true,cond_false,Bool.and_true,Bool.true_and,Bool.and_false,Bool.false_and,Bool.not_true,Bool.not_false,Bool.or_true,Bool.true_or,Bool.or_false,Bool.false_or]),(by show l.length - (i.k + 1) < l.length - i.k;omega),ok_sub ⟨rfl,rfl,rfl,rfl,trivial⟩ (List.Sublist.refl _) fun _ h => h⟩
      | skip
  · apply ends_ret;apply res_tmp;rfl;rfl
    rw [isIds,i.all (by omega)]
    simp only [← hl, ‹decide (64 < (s.n : Int)) = false›,decide_true,decide_false,cond_true,cond_false,Bool.and_true,Bool.true_and,Bool.and_false,Bool.false_and,Bool.not_true,Bool.not_false,Bool.or_true,Bool.true_or,Bool.or_false,Bool.false_or]
end Go.Proofs.YtjmpdkmboheknaaGreatDoor

namespace Go.Proofs.YtjmpdkmboheknaaGreatDoor
open Go Go.Proofs Sy

theorem y_build0 {N : Nat} {av bor : List Nat} {w0 : World} {E : Env} {loc : List Res} {X : World → Prop} {ty : TypeId} : Sy.Yields Tryz.prog N av bor w0 ⟨E,loc,X⟩ (.build 41 #[]) ty BoxD.zero.v := Sy.Yields.mk fun a w ok d pos af g => by
  simp [execOp,Instr.build,run_zero (TyZero.out (P:=Tryz.prog) (t:=41)),run_underlying Tryz.underlying41,Instr.fill,Value.cells,BoxD.zero,BoxD.v,BoxD.cells,run_sizeOf]
def boxEq (a b : BoxD) : Bool := seqB a.nonce b.nonce && seqB a.data b.data && seqB a.tag b.tag
theorem box_fields : Tryz.prog.underlying 41 = some (.struct (Tryz.prog.fieldsOf 41)) := by kernel_rfl
theorem box_stood : Tryz.prog.stoodInHeld 41 = false := by kernel_rfl
theorem box_guard : Tryz.prog.eqGuardType Tryz.prog.depth 41 = false := by kernel_rfl
theorem run_boxEq (w : World) (a b : BoxD) : (Op.equalIn 10000 41 a.v b.v).run Tryz.prog w = .ok (boxEq a b) w := by
  have e : (10000 : Nat) = 9999 + 1 := rfl
  have e2 : (9999 : Nat) = 9998 + 1 := rfl
  rw [BoxD.v,BoxD.v,e,run_equalIn_agg _ _ _ _ _ box_fields box_stood]
  have hf : (Tryz.prog.fieldsOf 41).toList.map (fun f => (f.name,f.type,f.offset)) = [("Nonce",9,0),("Data",9,1),("Tag",9,2)] := by kernel_rfl
  generalize (Tryz.prog.fieldsOf 41).toList = l at hf
  rcases l with _ | ⟨f1,_ | ⟨f2,_ | ⟨f3,_ | ⟨f4,l⟩⟩⟩⟩
  case cons.cons.cons.nil =>
    simp only [List.map_cons,List.map_nil,List.cons.injEq,Prod.mk.injEq,and_true] at hf
    obtain ⟨⟨n1,t1,o1⟩,⟨n2,t2,o2⟩,n3,t3,o3⟩ := hf
    have hag := fun w => (oneCell_spec (TyOne.out (P:=Tryz.prog) (t:=9)) w).1
    have hst := fun (x y : ByteArray) (w : World) => run_equalIn_string (P:=Tryz.prog) w 9998 9 x y TyStr.out
    cases h1 : seqB a.nonce b.nonce <;> cases h2 : seqB a.data b.data <;> cases h3 : seqB a.tag b.tag <;>
    · simp only [seqB] at h1 h2 h3
      simp [Op.eqFields,n1,n2,n3,t1,t2,t3,o1,o2,o3,part,hag,BoxD.cells,e2,hst,h1,h2,h3,boxEq,seqB]
  all_goals (have:=congrArg List.length hf;simp at this)
theorem y_boxEq {N : Nat} {av bor : List Nat} {w0 : World} {E : Env} {loc : List Res} {X : World → Prop} {ty t2 : TypeId} {x y : Operand} {a b : BoxD} (hx : ev E x = some a.v) (hy : ev E y = some b.v) :
    Sy.Yields Tryz.prog N av bor w0 ⟨E,loc,X⟩ (.binOp .eql 41 x y t2) ty (.bool (boxEq a b)) := Sy.Yields.mk fun A w ok d pos af g => by
  have h1 := run_eql_struct (P:=Tryz.prog) w 41 a.cells.toArray b.cells.toArray
  have h2 := run_boxEq w a b
  simp only [BoxD.v] at h2
  rw [h2] at h1
  simp [execOp,ok.eval (st:=⟨E,loc,X⟩) hx,ok.eval (st:=⟨E,loc,X⟩) hy,BoxD.v,run_eqGuard_agg _ _ _ _ _ _ _ box_guard,h1]
section
variable {N : Nat} {av bor : List Nat} {w0 : World} {ops : Array Oper} {rest : List Oper} {kk : St → Prop} {E : Env} {loc : List Res} {X : World → Prop} {n : Nat} {ty t2 : TypeId} {pos : String} {af : Array Edge} {g : Option (Nat × Bool)} {bb want : Bool} {x y : Operand} {a b : BoxD}
theorem sy_build0 (hg : gdB ops E g = some (bb,want) := by rfl) (hbb : bb = want := by (first | with_reducible rfl | with_reducible assumption | with_reducible exact Bool.not_false | with_reducible exact Bool.not_true)) (hd : Nat.blt n N = true := by rfl) (h : Sw Tryz.prog N av bor w0 ops rest ⟨(n,BoxD.zero.v) :: E,loc,X⟩ kk) :
    Sw Tryz.prog N av bor w0 ops (⟨some n,.build 41 #[],ty,pos,af,g⟩ :: rest) ⟨E,loc,X⟩ kk := sw_yield y_build0 hg hbb hd h
theorem sy_boxEq (hx : ev E x = some a.v := by rfl) (hy : ev E y = some b.v := by rfl) (hg : gdB ops E g = some (bb,want) := by rfl) (hbb : bb = want := by (first | with_reducible rfl | with_reducible assumption | with_reducible exact Bool.not_false | with_reducible exact Bool.not_true)) (hd : Nat.blt n N = true := by rfl) (h : Sw Tryz.prog N av bor w0 ops rest ⟨(n,.bool (boxEq a b)) :: E,loc,X⟩ kk) :
    Sw Tryz.prog N av bor w0 ops (⟨some n,.binOp .eql 41 x y t2,ty,pos,af,g⟩ :: rest) ⟨E,loc,X⟩ kk := sw_yield (y_boxEq hx hy) hg hbb hd h
end
def withinB (n l h : Int) : Bool := decide (l ≤ n) && decide (n ≤ h)
theorem within_pu (n l h : Int) : Pu Tryz.prog 104 #[.int .i64 n,.int .i64 l,.int .i64 h] (fun _ => True) (.bool (withinB n l h)) := by
  refine pu_of_cw (args:=[_,_,_]) _ Tryz.func104 rfl Tryz.ntmps104 rfl fun av bor w0 => ?_
  repeat' (first | apply sw_nil | apply cw_seq | apply cw_reg | refine sy_move (h:=?_) | refine sy_assign (h:=?_) | refine sy_pick_t (h:=?_) | refine sy_pick_f (h:=?_) | refine sy_leq (h:=?_) | refine sw_skipT (h:=?_) | apply cw_ret | ((fail_if_success (refine sw_chk (h:=?_)));refine sw_guard (ht:=?_) (hf:=?_);all_goals (intro hx_;first | have := of_decide_eq_true hx_ | have := of_decide_eq_false hx_)) | fail)
  (all_goals (apply ends_ret;apply res_tmp;rfl;rfl));all_goals (simp only [withinB, *,decide_true,decide_false,cond_true,cond_false,Bool.and_true,Bool.true_and,Bool.and_false,Bool.false_and,Bool.not_true,Bool.not_false,Bool.or_true,Bool.true_or,Bool.or_false,Bool.false_or];done)
def isDigestB (s : ByteArray) : Bool := decide ((s.size : Int) = 32)
theorem isDigest_pu (s : ByteArray) : Pu Tryz.prog 155 #[.string s] (fun _ => True) (.bool (isDigestB s)) := by
  refine pu_of_cw (args:=[_]) _ Tryz.func155 rfl Tryz.ntmps155 rfl fun av bor w0 => ?_
  repeat' (first | apply sw_nil | apply cw_seq | apply cw_reg | refine sy_move (h:=?_) | refine sy_assign (h:=?_) | refine sy_eql (h:=?_) | refine sy_slen (h:=?_) | apply cw_ret | fail)
  (all_goals (apply ends_ret;apply res_tmp;rfl;rfl));all_goals rfl
def isShortB (s : ByteArray) : Bool := decide ((s.size : Int) ≤ 500)
theorem isShort_pu (s : ByteArray) : Pu Tryz.prog 161 #[.string s] (fun _ => True) (.bool (isShortB s)) := by
  refine pu_of_cw (args:=[_]) _ Tryz.func161 rfl Tryz.ntmps161 rfl fun av bor w0 => ?_
  repeat' (first | apply sw_nil | apply cw_seq | apply cw_reg | refine sy_move (h:=?_) | refine sy_assign (h:=?_) | refine sy_leq (h:=?_) | refine sy_slen (h:=?_) | apply cw_ret | fail)
  (all_goals (apply ends_ret;apply res_tmp;rfl;rfl));all_goals rfl
def isPublicB (n : Int) : Bool := withinB n 1 2305843009213693950
theorem isPublic_pu (n : Int) : Pu Tryz.prog 213 #[.int .i64 n] (fun _ => True) (.bool (isPublicB n)) := by
  refine pu_of_cw (args:=[_]) _ Tryz.func213 rfl Tryz.ntmps213 rfl fun av bor w0 => ?_
  repeat' (first | apply sw_nil | apply cw_seq | apply cw_reg | refine sy_move (h:=?_) | refine sy_assign (h:=?_) | apply cw_ret | refine sw_pu (hc:=within_pu _ _ _) (h:=?_) | fail)
  (all_goals (apply ends_ret;apply res_tmp;rfl;rfl));all_goals rfl
def isSealedB (b : BoxD) : Bool := decide ((b.nonce.size : Int) = 32) && decide ((b.tag.size : Int) = 16) && isShortB b.data
theorem isSealed_pu (b : BoxD) : Pu Tryz.prog 212 #[b.v] (fun _ => True) (.bool (isSealedB b)) := by
  refine pu_of_cw (args:=[_]) _ Tryz.func212 rfl Tryz.ntmps212 rfl fun av bor w0 => ?_
  repeat' (first | apply sw_nil | apply cw_seq | apply cw_reg | refine sy_move (h:=?_) | refine sy_assign (h:=?_) | refine sy_fld (h:=?_) | refine sy_ld (h:=?_) | refine sy_pick_t (h:=?_) | refine sy_pick_f (h:=?_) | refine sy_eql (h:=?_) | refine sy_slen (h:=?_) | refine sw_skipT (h:=?_) | refine sw_box (h:=fun _ => ?_) | apply cw_ret | refine sw_pu (hc:=isShort_pu _) (h:=?_) | ((fail_if_success (refine sw_chk (h:=?_)));refine sw_guard (ht:=?_) (hf:=?_);all_goals (intro hx_;first | have := of_decide_eq_true hx_ | have := of_decide_eq_false hx_)) | fail)
  (all_goals (apply ends_ret;apply res_tmp;rfl;rfl));all_goals (simp only [isSealedB, *,decide_true,decide_false,cond_true,cond_false,Bool.and_true,Bool.true_and,Bool.and_false,Bool.false_and,Bool.not_true,Bool.not_false,Bool.or_true,Bool.true_or,Bool.or_false,Bool.false_or];done)
def sealedScopeB (scope : Int) (group : ByteArray) : Bool := bif decide (scope = 2) then isName group else bif decide (scope = 1) then seqB group ⟨#[]⟩ else bif decide (scope = 3) then seqB group ⟨#[]⟩ else false
theorem sealedScope_pu (scope : Int) (group : ByteArray) : Pu Tryz.prog 211 #[.int .i64 scope,.string group] (fun _ => True) (.bool (sealedScopeB scope group)) := by
  refine pu_of_cw (args:=[_,_]) _ Tryz.func211 rfl Tryz.ntmps211 rfl fun av bor w0 => ?_
  repeat' (first | apply sw_nil | apply cw_seq | apply cw_reg | refine sy_move (h:=?_) | refine sy_assign (h:=?_) | refine sy_eql (h:=?_) | refine sy_seql (h:=?_) | refine cw_cond_t (ht:=?_) | apply cw_skip | apply cw_block | apply cw_ret | refine sw_pu (hc:=name_pu _) (h:=?_) | (refine cw_cond (ht:=?_) (hf:=?_);all_goals (intro hx_;first | have := of_decide_eq_true hx_ | have := of_decide_eq_false hx_)))
  (all_goals (apply ends_ret;apply res_tmp;rfl;rfl));all_goals first | (simp only [sealedScopeB, *,decide_true,decide_false,cond_true,cond_false,Bool.and_true,Bool.true_and,Bool.and_false,Bool.false_and,Bool.not_true,Bool.not_false,Bool.or_true,Bool.true_or,Bool.or_false,Bool.false_or];done) | (simp_all [sealedScopeB];done)
def placedB (a : ActD) : Bool := bif decide (a.seq = 0) then decide (a.kind = 0) && seqB a.prev ⟨#[]⟩ else withinB a.seq 1 1073741824 && !decide (a.kind = 0) && isDigestB a.prev
theorem placed_pu (a : ActD) : Pu Tryz.prog 103 #[a.v] (fun _ => True) (.bool (placedB a)) := by
  refine pu_of_cw (args:=[_]) _ Tryz.func103 rfl Tryz.ntmps103 rfl fun av bor w0 => ?_
  repeat' (first | apply sw_nil | apply cw_seq | apply cw_reg | refine sy_move (h:=?_) | refine sy_assign (h:=?_) | refine sy_fld (h:=?_) | refine sy_ld (h:=?_) | refine sy_pick_t (h:=?_) | refine sy_pick_f (h:=?_) | refine sy_eql (h:=?_) | refine sy_neq (h:=?_) | refine sy_seql (h:=?_) | refine sw_skipT (h:=?_) | refine sw_box (h:=fun _ => ?_) | apply cw_skip | apply cw_ret | refine sw_pu (hc:=within_pu _ _ _) (h:=?_) | refine sw_pu (hc:=isDigest_pu _) (h:=?_) | ((fail_if_success (refine sw_chk (h:=?_)));refine sw_guard (ht:=?_) (hf:=?_);all_goals (intro hx_;first | have := of_decide_eq_true hx_ | have := of_decide_eq_false hx_ | skip)) | (refine cw_cond (ht:=?_) (hf:=?_);all_goals (intro hx_;first | have := of_decide_eq_true hx_ | have := of_decide_eq_false hx_)))
  (all_goals (apply ends_ret;apply res_tmp;rfl;rfl));all_goals (simp only [placedB, *,decide_true,decide_false,cond_true,cond_false,Bool.and_true,Bool.true_and,Bool.and_false,Bool.false_and,Bool.not_true,Bool.not_false,Bool.or_true,Bool.true_or,Bool.or_false,Bool.false_or];done)
def objectB (a : ActD) : Bool := isDigestB a.object
theorem object_pu (a : ActD) : Pu Tryz.prog 157 #[a.v] (fun _ => True) (.bool (objectB a)) := by
  refine pu_of_cw (args:=[_]) _ Tryz.func157 rfl Tryz.ntmps157 rfl fun av bor w0 => ?_
  repeat' (first | apply sw_nil | apply cw_seq | apply cw_reg | refine sy_assign (h:=?_) | refine sy_fld (h:=?_) | refine sy_ld (h:=?_) | refine sw_box (h:=fun _ => ?_) | apply cw_ret | refine sw_pu (hc:=isDigest_pu _) (h:=?_) | fail)
  (all_goals (apply ends_ret;apply res_tmp;rfl;rfl));all_goals rfl
def targetB (a : ActD) : Bool := isId a.target
theorem target_pu (a : ActD) : Pu Tryz.prog 159 #[a.v] (fun _ => True) (.bool (targetB a)) := by
  refine pu_of_cw (args:=[_]) _ Tryz.func159 rfl Tryz.ntmps159 rfl fun av bor w0 => ?_
  repeat' (first | apply sw_nil | apply cw_seq | apply cw_reg | refine sy_assign (h:=?_) | refine sy_fld (h:=?_) | refine sy_ld (h:=?_) | refine sw_box (h:=fun _ => ?_) | apply cw_ret | refine sw_pu (hc:=right_pu _) (h:=?_) | fail)
  (all_goals (apply ends_ret;apply res_tmp;rfl;rfl));all_goals rfl
def homeB (a : ActD) : Bool := isPublicB a.n && withinB a.m 0 19
theorem home_pu (a : ActD) : Pu Tryz.prog 164 #[a.v] (fun _ => True) (.bool (homeB a)) := by
  refine pu_of_cw (args:=[_]) _ Tryz.func164 rfl Tryz.ntmps164 rfl fun av bor w0 => ?_
  repeat' (first | apply sw_nil | apply cw_seq | apply cw_reg | refine sy_move (h:=?_) | refine sy_assign (h:=?_) | refine sy_fld (h:=?_) | refine sy_ld (h:=?_) | refine sy_pick_t (h:=?_) | refine sy_pick_f (h:=?_) | refine sw_skipT (h:=?_) | refine sw_box (h:=fun _ => ?_) | apply cw_ret | refine sw_pu (hc:=isPublic_pu _) (h:=?_) | refine sw_pu (hc:=within_pu _ _ _) (h:=?_) | ((fail_if_success (refine sw_chk (h:=?_)));refine sw_guard (ht:=?_) (hf:=?_);all_goals (intro hx_;skip)) | fail)
  (all_goals (apply ends_ret;apply res_tmp;rfl;rfl));all_goals (simp only [homeB, *,decide_true,decide_false,cond_true,cond_false,Bool.and_true,Bool.true_and,Bool.and_false,Bool.false_and,Bool.not_true,Bool.not_false,Bool.or_true,Bool.true_or,Bool.or_false,Bool.false_or];done)
def labelB (a : ActD) : Bool := bif !isName a.text then false else objectB a && seqB a.target ⟨#[]⟩ || targetB a && seqB a.object ⟨#[]⟩
theorem label_pu (a : ActD) : Pu Tryz.prog 168 #[a.v] (fun _ => True) (.bool (labelB a)) := by
  refine pu_of_cw (args:=[_]) _ Tryz.func168 rfl Tryz.ntmps168 rfl fun av bor w0 => ?_
  repeat' (first | apply sw_nil | apply cw_seq | apply cw_reg | refine sy_move (h:=?_) | refine sy_assign (h:=?_) | refine sy_fld (h:=?_) | refine sy_ld (h:=?_) | refine sy_ldAll (h:=?_) | refine sy_pick_t (h:=?_) | refine sy_pick_f (h:=?_) | refine sy_not (h:=?_) | refine sy_seql (h:=?_) | refine sw_skipT (h:=?_) | refine sw_skipF (h:=?_) | refine sw_skipU (h:=?_) | refine sw_box (h:=fun _ => ?_) | apply cw_skip | apply cw_ret | refine sw_pu (hc:=name_pu _) (h:=?_) | refine sw_pu (hc:=object_pu a) (h:=?_) | refine sw_pu (hc:=target_pu a) (h:=?_) | ((fail_if_success (refine sw_chk (h:=?_)));refine sw_guard (ht:=?_) (hf:=?_);all_goals (intro hx_;first | have := of_decide_eq_true hx_ | have := of_decide_eq_false hx_ | skip)) | (refine cw_cond (ht:=?_) (hf:=?_);all_goals (intro hx_;skip)))
  (all_goals (apply ends_ret;apply res_tmp;rfl;rfl));all_goals (simp only [labelB, *,decide_true,decide_false,cond_true,cond_false,Bool.and_true,Bool.true_and,Bool.and_false,Bool.false_and,Bool.not_true,Bool.not_false,Bool.or_true,Bool.true_or,Bool.or_false,Bool.false_or];done)
def audienceB (a : ActD) : Bool := bif !isIds a.toL then false else bif decide (a.scope = 0) then seqB a.group ⟨#[]⟩ && decide (a.epoch = 0) && isShortB a.text && boxEq a.body BoxD.zero
  else bif decide (0 < (a.to.n : Int)) && !decide (a.scope = 3) then false else sealedScopeB a.scope a.group && withinB a.epoch 0 1073741824 && seqB a.text ⟨#[]⟩ && isSealedB a.body
theorem audience_pu (a : ActD) : Pu Tryz.prog 158 #[a.v] (ActD.at_ · a) (.bool (audienceB a)) := by
  refine pu_of_cw (args:=[_]) _ Tryz.func158 rfl Tryz.ntmps158 rfl fun av bor w0 => ?_
  repeat' (first | apply sw_nil | apply cw_seq | apply cw_reg | refine sy_move (h:=?_) | refine sy_assign (h:=?_) | refine sy_fld (h:=?_) | refine sy_ld (h:=?_) | refine sy_pick_t (h:=?_) | refine sy_pick_f (h:=?_) | refine sy_not (h:=?_) | refine sy_eql (h:=?_) | refine sy_neq (h:=?_) | refine sy_gtr (h:=?_) | refine sy_seql (h:=?_) | refine sy_len (h:=?_) | refine sw_skipT (h:=?_) | refine sw_box (h:=fun _ => ?_) | refine cw_cond_f (hf:=?_) | apply cw_skip | apply cw_ret | refine sw_pu (hc:=ids_pu a.to a.toL) (h:=?_) | refine sw_pu (hc:=isShort_pu _) (h:=?_) | refine sw_pu (hc:=sealedScope_pu _ _) (h:=?_) | refine sw_pu (hc:=within_pu _ _ _) (h:=?_) | refine sw_pu (hc:=isSealed_pu a.body) (h:=?_) | (refine sy_build0 (h:=?_)) | (refine sy_boxEq (h:=?_)) | (refine sy_ldSub (h:=?_)) | ((fail_if_success (refine sw_chk (h:=?_)));refine sw_guard (ht:=?_) (hf:=?_);all_goals (intro hx_;first | have := of_decide_eq_true hx_ | have := of_decide_eq_false hx_ | skip)) | (refine cw_cond (ht:=?_) (hf:=?_);all_goals (intro hx_;first | have := of_decide_eq_true hx_ | have := of_decide_eq_false hx_ | skip)))
  (all_goals (apply ends_ret;apply res_tmp;rfl;rfl));all_goals (simp only [audienceB, *,decide_true,decide_false,cond_true,cond_false,Bool.and_true,Bool.true_and,Bool.and_false,Bool.false_and,Bool.not_true,Bool.not_false,Bool.or_true,Bool.true_or,Bool.or_false,Bool.false_or];done)
end Go.Proofs.YtjmpdkmboheknaaGreatDoor

namespace Go.Proofs.YtjmpdkmboheknaaGreatDoor
open Go Go.Proofs Sy

def badW (l : List WrapD) (k : Nat) : Bool :=
  match l[k]? with
  | some x => !isPublicB x.to || (!isPublicB x.eph || !isSealedB x.box)
  | none => false
theorem badW_at {l : List WrapD} {k : Nat} {x : WrapD} (h : l[k]? = some x) : badW l k = (!isPublicB x.to || (!isPublicB x.eph || !isSealedB x.box)) := by simp only [badW,h]
def wrappedB (a : ActD) : Bool := allB a.wrapsL.length (badW a.wrapsL) && decide ((a.wraps.n : Int) = (a.to.n : Int))
theorem wrapped_pu (a : ActD) : Pu Tryz.prog 214 #[a.v] (ActD.at_ · a) (.bool (wrappedB a)) := by
  refine pu_of_cw (args:=[_]) _ Tryz.func214 rfl Tryz.ntmps214 rfl fun av bor w0 => ?_
  refine cw_know (p:=a.wraps.n = a.wrapsL.length ∧ a.wraps.n ≤ maxLen ∧ (0 < a.wrapsL.length → a.wraps.p.isSome = true)) (fun w h => ⟨h.2.len_,Nat.le_trans (RowsD.cap h.2) (RowsD.max h.2),h.2.some_⟩) fun ⟨hl,hm,hp⟩ => ?_
  simp only [maxLen] at hm
  repeat' (first | apply sw_nil | apply cw_seq | apply cw_reg | refine sy_move (h:=?_) | refine sy_assign (h:=?_) | refine sy_fld (h:=?_) | refine sy_ld (h:=?_) | refine sy_len (h:=?_) | refine sw_box (h:=fun _ => ?_) | apply cw_block | fail)
  rename_i b
  refine cw_loop (ι:=Upto a.wrapsL.length (badW a.wrapsL)) (fun i => ⟨[(1,.pointer (some ⟨b,0,none⟩)),(6,a.wraps.v),(7,.int .i64 a.wraps.n),(8,.int .i64 i.k)], [cel b 46 a.cells],(ActD.at_ · a)⟩) (fun i => a.wrapsL.length - i.k) (Upto.zero _ _) (ok_sub ⟨rfl,rfl,rfl,rfl,trivial⟩ (List.Sublist.refl _) fun _ h => h) fun i => ?_
  have hik := i.hk
  repeat' (first | apply sw_nil | apply cw_seq | apply cw_reg | refine sy_assign (h:=?_) | refine sy_fld (h:=?_) | refine sy_ld (h:=?_) | refine sy_eql (h:=?_) | refine sy_lss (h:=?_) | refine sy_len (h:=?_) | apply cw_skip | apply cw_block | apply cw_ret | apply cw_exit | (refine cw_cond (ht:=?_) (hf:=?_);all_goals (intro hx_;first | have := of_decide_eq_true hx_ | have := of_decide_eq_false hx_)))
  · have hlt : i.k < a.wrapsL.length := by omega
    have hp' := hp (by omega)
    obtain ⟨x,hx⟩ : ∃ x,a.wrapsL[i.k]? = some x := ⟨_,List.getElem?_eq_getElem hlt⟩
    repeat' (first | apply sw_nil | apply cw_seq | apply cw_reg | refine sy_move (h:=?_) | refine sy_assign (h:=?_) | refine sy_fld (h:=?_) | refine sy_ld (h:=?_) | refine sy_pick_t (h:=?_) | refine sy_pick_f (h:=?_) | refine sy_not (h:=?_) | refine sy_add (h:=?_) | refine sw_skipF (h:=?_) | refine sw_alloc (h:=fun _ => ?_) | refine sw_stAll (h:=?_) | refine cw_cond_t (ht:=?_) | apply cw_skip | apply cw_ret | refine sw_pu (hc:=isPublic_pu _) (h:=?_) | refine sw_pu (hc:=isSealed_pu x.box) (h:=?_) | (refine sy_idxX (q:=i.k * 5) (h:=?_)) | (refine sy_ldXs (cs:=x.cells) (hF:=fun w h => Wraps.get h.2 hx) (h:=?_)) | (refine sy_ldSub (h:=?_)) | ((fail_if_success (refine sw_chk (h:=?_)));refine sw_guard (ht:=?_) (hf:=?_);all_goals (intro hx_;skip)) | (refine cw_cond (ht:=?_) (hf:=?_);all_goals (intro hx_;skip)))
    all_goals first
      | (apply ends_ret;apply res_tmp;rfl;rfl;rw [wrappedB,allB_false hlt (by simp only [badW_at hx, *,decide_true,decide_false,cond_true,cond_false,Bool.and_true,Bool.true_and,Bool.and_false,Bool.false_and,Bool.not_true,Bool.not_false,Bool.or_true,Bool.true_or,Bool.or_false,Bool.false_or]),Bool.false_and])
      | exact ⟨i.next hlt (by simp only [badW_at hx, *,decide_true,decide_false,cond_true,cond_false,Bool.and_true,Bool.true_and,Bool.and_false,Bool.false_and,Bool.not_true,Bool.not_false,Bool.or_true,Bool.true_or,Bool.or_false,Bool.false_or]),(by show a.wrapsL.length - (i.k + 1) < a.wrapsL.length - i.k;omega),ok_sub ⟨rfl,rfl,rfl,rfl,trivial⟩ (List.Sublist.cons _ (List.Sublist.refl _)) fun _ h => h⟩
  · apply ends_ret;apply res_tmp;rfl;rfl
    rw [wrappedB,i.all (by omega),Bool.true_and]
def grantB (a : ActD) : Bool := sealedScopeB a.scope a.group && withinB a.epoch 0 1073741824 && isIds a.toL && wrappedB a
theorem grant_pu (a : ActD) : Pu Tryz.prog 167 #[a.v] (ActD.at_ · a) (.bool (grantB a)) := by
  refine pu_of_cw (args:=[_]) _ Tryz.func167 rfl Tryz.ntmps167 rfl fun av bor w0 => ?_
  repeat' (first | apply sw_nil | apply cw_seq | apply cw_reg | refine sy_move (h:=?_) | refine sy_assign (h:=?_) | refine sy_fld (h:=?_) | refine sy_ld (h:=?_) | refine sy_ldAll (h:=?_) | refine sy_pick_t (h:=?_) | refine sy_pick_f (h:=?_) | refine sw_skipT (h:=?_) | refine sw_box (h:=fun _ => ?_) | apply cw_ret | refine sw_pu (hc:=sealedScope_pu _ _) (h:=?_) | refine sw_pu (hc:=within_pu _ _ _) (h:=?_) | refine sw_pu (hc:=ids_pu a.to a.toL) (h:=?_) | refine sw_pu (hc:=wrapped_pu a) (h:=?_) | ((fail_if_success (refine sw_chk (h:=?_)));refine sw_guard (ht:=?_) (hf:=?_);all_goals (intro hx_;skip)) | fail)
  (all_goals (apply ends_ret;apply res_tmp;rfl;rfl));all_goals (simp only [grantB, *,decide_true,decide_false,cond_true,cond_false,Bool.and_true,Bool.true_and,Bool.and_false,Bool.false_and,Bool.not_true,Bool.not_false,Bool.or_true,Bool.true_or,Bool.or_false,Bool.false_or];done)
def setupB (a : ActD) : Bool := decide (0 < (a.to.n : Int)) && isIds a.toL && wrappedB a && withinB a.n 1 a.to.n && isPublicB a.m
theorem setup_pu (a : ActD) : Pu Tryz.prog 169 #[a.v] (ActD.at_ · a) (.bool (setupB a)) := by
  refine pu_of_cw (args:=[_]) _ Tryz.func169 rfl Tryz.ntmps169 rfl fun av bor w0 => ?_
  repeat' (first | apply sw_nil | apply cw_seq | apply cw_reg | refine sy_move (h:=?_) | refine sy_assign (h:=?_) | refine sy_fld (h:=?_) | refine sy_ld (h:=?_) | refine sy_ldAll (h:=?_) | refine sy_pick_t (h:=?_) | refine sy_pick_f (h:=?_) | refine sy_gtr (h:=?_) | refine sy_len (h:=?_) | refine sw_skipT (h:=?_) | refine sw_box (h:=fun _ => ?_) | apply cw_ret | refine sw_pu (hc:=within_pu _ _ _) (h:=?_) | refine sw_pu (hc:=ids_pu a.to a.toL) (h:=?_) | refine sw_pu (hc:=wrapped_pu a) (h:=?_) | refine sw_pu (hc:=isPublic_pu _) (h:=?_) | ((fail_if_success (refine sw_chk (h:=?_)));refine sw_guard (ht:=?_) (hf:=?_);all_goals (intro hx_;first | have := of_decide_eq_true hx_ | have := of_decide_eq_false hx_ | skip)) | fail)
  (all_goals (apply ends_ret;apply res_tmp;rfl;rfl));all_goals (simp only [setupB, *,decide_true,decide_false,cond_true,cond_false,Bool.and_true,Bool.true_and,Bool.and_false,Bool.false_and,Bool.not_true,Bool.not_false,Bool.or_true,Bool.true_or,Bool.or_false,Bool.false_or];done)
def rule1B (a : ActD) : Bool := objectB a && audienceB a
theorem rule1_pu (a : ActD) : Pu Tryz.prog 156 #[a.v] (ActD.at_ · a) (.bool (rule1B a)) := by
  refine pu_of_cw (args:=[_]) _ Tryz.func156 rfl Tryz.ntmps156 rfl fun av bor w0 => ?_
  repeat' (first | apply sw_nil | apply cw_seq | apply cw_reg | refine sy_move (h:=?_) | refine sy_assign (h:=?_) | refine sy_ldAll (h:=?_) | refine sy_pick_t (h:=?_) | refine sy_pick_f (h:=?_) | refine sw_skipT (h:=?_) | refine sw_box (h:=fun _ => ?_) | apply cw_ret | refine sw_pu (hc:=object_pu a) (h:=?_) | refine sw_pu (hc:=audience_pu a) (h:=?_) | ((fail_if_success (refine sw_chk (h:=?_)));refine sw_guard (ht:=?_) (hf:=?_);all_goals (intro hx_;first | have := of_decide_eq_true hx_ | have := of_decide_eq_false hx_)) | fail)
  (all_goals (apply ends_ret;apply res_tmp;rfl;rfl));all_goals (simp only [rule1B, *,decide_true,decide_false,cond_true,cond_false,Bool.and_true,Bool.true_and,Bool.and_false,Bool.false_and,Bool.not_true,Bool.not_false,Bool.or_true,Bool.true_or,Bool.or_false,Bool.false_or];done)
def rule2B (a : ActD) : Bool := objectB a && isShortB a.text
theorem rule2_pu (a : ActD) : Pu Tryz.prog 160 #[a.v] (fun _ => True) (.bool (rule2B a)) := by
  refine pu_of_cw (args:=[_]) _ Tryz.func160 rfl Tryz.ntmps160 rfl fun av bor w0 => ?_
  repeat' (first | apply sw_nil | apply cw_seq | apply cw_reg | refine sy_move (h:=?_) | refine sy_assign (h:=?_) | refine sy_fld (h:=?_) | refine sy_ld (h:=?_) | refine sy_ldAll (h:=?_) | refine sy_pick_t (h:=?_) | refine sy_pick_f (h:=?_) | refine sw_skipT (h:=?_) | refine sw_box (h:=fun _ => ?_) | apply cw_ret | refine sw_pu (hc:=object_pu a) (h:=?_) | refine sw_pu (hc:=isShort_pu _) (h:=?_) | ((fail_if_success (refine sw_chk (h:=?_)));refine sw_guard (ht:=?_) (hf:=?_);all_goals (intro hx_;first | have := of_decide_eq_true hx_ | have := of_decide_eq_false hx_)) | fail)
  (all_goals (apply ends_ret;apply res_tmp;rfl;rfl));all_goals (simp only [rule2B, *,decide_true,decide_false,cond_true,cond_false,Bool.and_true,Bool.true_and,Bool.and_false,Bool.false_and,Bool.not_true,Bool.not_false,Bool.or_true,Bool.true_or,Bool.or_false,Bool.false_or];done)
def rule3B (a : ActD) : Bool := isName a.text && homeB a
theorem rule3_pu (a : ActD) : Pu Tryz.prog 162 #[a.v] (fun _ => True) (.bool (rule3B a)) := by
  refine pu_of_cw (args:=[_]) _ Tryz.func162 rfl Tryz.ntmps162 rfl fun av bor w0 => ?_
  repeat' (first | apply sw_nil | apply cw_seq | apply cw_reg | refine sy_move (h:=?_) | refine sy_assign (h:=?_) | refine sy_fld (h:=?_) | refine sy_ld (h:=?_) | refine sy_ldAll (h:=?_) | refine sy_pick_t (h:=?_) | refine sy_pick_f (h:=?_) | refine sw_skipT (h:=?_) | refine sw_box (h:=fun _ => ?_) | apply cw_ret | refine sw_pu (hc:=name_pu _) (h:=?_) | refine sw_pu (hc:=home_pu a) (h:=?_) | ((fail_if_success (refine sw_chk (h:=?_)));refine sw_guard (ht:=?_) (hf:=?_);all_goals (intro hx_;skip)) | fail)
  (all_goals (apply ends_ret;apply res_tmp;rfl;rfl));all_goals (simp only [rule3B, *,decide_true,decide_false,cond_true,cond_false,Bool.and_true,Bool.true_and,Bool.and_false,Bool.false_and,Bool.not_true,Bool.not_false,Bool.or_true,Bool.true_or,Bool.or_false,Bool.false_or];done)
def rule4B (a : ActD) : Bool := isName a.group && isIds a.toL
theorem rule4_pu (a : ActD) : Pu Tryz.prog 165 #[a.v] (ActD.at_ · a) (.bool (rule4B a)) := by
  refine pu_of_cw (args:=[_]) _ Tryz.func165 rfl Tryz.ntmps165 rfl fun av bor w0 => ?_
  repeat' (first | apply sw_nil | apply cw_seq | apply cw_reg | refine sy_move (h:=?_) | refine sy_assign (h:=?_) | refine sy_fld (h:=?_) | refine sy_ld (h:=?_) | refine sy_pick_t (h:=?_) | refine sy_pick_f (h:=?_) | refine sw_skipT (h:=?_) | refine sw_box (h:=fun _ => ?_) | apply cw_ret | refine sw_pu (hc:=name_pu _) (h:=?_) | refine sw_pu (hc:=ids_pu a.to a.toL) (h:=?_) | ((fail_if_success (refine sw_chk (h:=?_)));refine sw_guard (ht:=?_) (hf:=?_);all_goals (intro hx_;skip)) | fail)
  (all_goals (apply ends_ret;apply res_tmp;rfl;rfl));all_goals (simp only [rule4B, *,decide_true,decide_false,cond_true,cond_false,Bool.and_true,Bool.true_and,Bool.and_false,Bool.false_and,Bool.not_true,Bool.not_false,Bool.or_true,Bool.true_or,Bool.or_false,Bool.false_or];done)
def rule5B (a : ActD) : Bool := objectB a && withinB a.n 0 1
theorem rule5_pu (a : ActD) : Pu Tryz.prog 170 #[a.v] (fun _ => True) (.bool (rule5B a)) := by
  refine pu_of_cw (args:=[_]) _ Tryz.func170 rfl Tryz.ntmps170 rfl fun av bor w0 => ?_
  repeat' (first | apply sw_nil | apply cw_seq | apply cw_reg | refine sy_move (h:=?_) | refine sy_assign (h:=?_) | refine sy_fld (h:=?_) | refine sy_ld (h:=?_) | refine sy_ldAll (h:=?_) | refine sy_pick_t (h:=?_) | refine sy_pick_f (h:=?_) | refine sw_skipT (h:=?_) | refine sw_box (h:=fun _ => ?_) | apply cw_ret | refine sw_pu (hc:=object_pu a) (h:=?_) | refine sw_pu (hc:=within_pu _ _ _) (h:=?_) | ((fail_if_success (refine sw_chk (h:=?_)));refine sw_guard (ht:=?_) (hf:=?_);all_goals (intro hx_;first | have := of_decide_eq_true hx_ | have := of_decide_eq_false hx_)) | fail)
  (all_goals (apply ends_ret;apply res_tmp;rfl;rfl));all_goals (simp only [rule5B, *,decide_true,decide_false,cond_true,cond_false,Bool.and_true,Bool.true_and,Bool.and_false,Bool.false_and,Bool.not_true,Bool.not_false,Bool.or_true,Bool.true_or,Bool.or_false,Bool.false_or];done)
def rule6B (a : ActD) : Bool := targetB a && isShortB a.text && withinB a.n 0 1099511627776
theorem rule6_pu (a : ActD) : Pu Tryz.prog 171 #[a.v] (fun _ => True) (.bool (rule6B a)) := by
  refine pu_of_cw (args:=[_]) _ Tryz.func171 rfl Tryz.ntmps171 rfl fun av bor w0 => ?_
  repeat' (first | apply sw_nil | apply cw_seq | apply cw_reg | refine sy_move (h:=?_) | refine sy_assign (h:=?_) | refine sy_fld (h:=?_) | refine sy_ld (h:=?_) | refine sy_ldAll (h:=?_) | refine sy_pick_t (h:=?_) | refine sy_pick_f (h:=?_) | refine sw_skipT (h:=?_) | refine sw_box (h:=fun _ => ?_) | apply cw_ret | refine sw_pu (hc:=target_pu a) (h:=?_) | refine sw_pu (hc:=isShort_pu _) (h:=?_) | refine sw_pu (hc:=within_pu _ _ _) (h:=?_) | ((fail_if_success (refine sw_chk (h:=?_)));refine sw_guard (ht:=?_) (hf:=?_);all_goals (intro hx_;first | have := of_decide_eq_true hx_ | have := of_decide_eq_false hx_ | skip)) | fail)
  (all_goals (apply ends_ret;apply res_tmp;rfl;rfl));all_goals (simp only [rule6B, *,decide_true,decide_false,cond_true,cond_false,Bool.and_true,Bool.true_and,Bool.and_false,Bool.false_and,Bool.not_true,Bool.not_false,Bool.or_true,Bool.true_or,Bool.or_false,Bool.false_or];done)
end Go.Proofs.YtjmpdkmboheknaaGreatDoor

namespace Go.Proofs.YtjmpdkmboheknaaGreatDoor.Sy
open Go Go.RowKit

section
variable {P : Program} {N : Nat} {av bor : List Nat} {w0 : World} {ops : Array Oper} {rest : List Oper} {k : St → Prop} {E : Env} {loc loc' : List Res} {X : World → Prop}
variable {d : Option Tmp} {ty : TypeId} {pos : String} {af : Array Edge} {g : Option (Nat × Bool)} {bb want : Bool} {K : Exit → St → Prop}

theorem fill_ones : ∀ (vs pre z : List Value),(∀ v ∈ vs,v.oneCell' = true) → z.length = vs.length →
    Instr.fill (fun i => some (i * 1,1)) (pre ++ z).toArray ((vs.zipIdx pre.length).map fun p => (p.2,p.1)) = some (pre ++ vs).toArray
  | [],pre,z,_,hz => by
    have : z = [] := List.eq_nil_of_length_eq_zero (by simpa using hz)
    subst this
    simp [Instr.fill]
  | v :: vs,pre,z,h1,hz => by
    cases z with
    | nil => simp at hz
    | cons y z =>
      have hv : v.cells = #[v] := by
        have := h1 v List.mem_cons_self
        cases v <;> first | rfl | (simp [Value.oneCell'] at this)
      have ih := fill_ones vs (pre ++ [v]) z (fun u hu => h1 u (List.mem_cons_of_mem _ hu)) (by simpa using hz)
      simp only [List.zipIdx_cons,List.map_cons,Instr.fill,hv]
      have e : ((pre ++ y :: z).toArray.setIfInBounds pre.length v) = (pre ++ [v] ++ z).toArray := by
        apply Array.ext'
        simp
      simp only [List.length_append,List.length_cons,List.length_nil,Nat.zero_add] at ih
      simp [e]
      simpa using ih
def partsOf (E : Env) : Nat → List (Nat × Operand) → Option (List Value)
  | _, [] => some []
  | i,(j,x) :: r =>
    bif Nat.beq i j then
      match ev E x,partsOf E (i + 1) r with
      | some v,some l => some (v :: l)
      | _,_ => none
    else none
theorem partsOf_spec {a : Act} {w : World} (ok : Ok N av bor w0 ⟨E,loc,X⟩ a w) : ∀ (l : List (Nat × Operand)) (i : Nat) (vs : List Value),partsOf E i l = some vs → (l.map fun p => (p.1,a.eval p.2)) = (vs.zipIdx i).map fun p => (p.2,p.1)
  | [],i,vs,h => by simp [partsOf] at h;subst h;rfl
  | (j,x) :: r,i,vs,h => by
    unfold partsOf at h
    cases hb : Nat.beq i j with
    | false => simp [hb] at h
    | true =>
      have e : i = j := Nat.eq_of_beq_eq_true hb
      subst e
      simp only [hb,cond_true] at h
      split at h
      · rename_i v l' hv hl
        simp at h
        subst h
        simp [ok.eval (st:=⟨E,loc,X⟩) hv,partsOf_spec ok r (i + 1) l' hl]
      · cases h
theorem sw_bsl {n len : Nat} {t e b' : Nat} [hs : TySl P t e 1 b'] {z : Value} [hz : TyZero P e z] {parts : List (Nat × Operand)} {vs : List Value} (hp : partsOf E 0 parts = some vs := by rfl) (hl : vs.length = len := by rfl) (h1 : vs.all (·.oneCell') = true := by rfl)
    (hpos : Nat.ble len 1000000 = true := by rfl) (hg : gdB ops E g = some (bb,want) := by rfl) (hb : bb = want := by (first | with_reducible rfl | with_reducible assumption | with_reducible exact Bool.not_false | with_reducible exact Bool.not_true)) (hd : Nat.blt n N = true := by rfl)
    (h : ∀ b,Sw P N av bor w0 ops rest ⟨(n,.slice (some ⟨b,0,none⟩) len len) :: E,cel b e vs :: loc,X⟩ k) : Sw P N av bor w0 ops (⟨some n,.buildSlice t len parts.toArray,ty,pos,af,g⟩ :: rest) ⟨E,loc,X⟩ k := Sw.mk fun a w ok => by
  have hd' : inB N (some n) = true := by have h1 : n < N := Nat.le_of_ble_eq_true hd;simpa [inB] using h1
  have hle : len ≤ 1000000 := Nat.le_of_ble_eq_true hpos
  obtain ⟨ht,inf,hi,hi1,hi2⟩ := slOf_spec hs.out
  have hsz : (sizeOf e).run P w = .ok 1 w := by simp [sizeOf,typeInfo,hi,hi1]
  have hzr : (zeroValue e).run P w = .ok z w := run_zero hz.out w
  simp only [wpList]
  rw [wanted_of ok (o:=⟨some n,.buildSlice t len parts.toArray,ty,pos,af,g⟩) hg]
  subst hb
  simp only [beq_self_eq_true,if_true]
  left
  unfold Oper.wp
  have hfill : ∀ Z : Array Value,Z.size = len → Instr.fill (fun i => some (i * 1,1)) Z (parts.map fun p => (p.1,a.eval p.2)) = some vs.toArray := fun Z hZ => by
    rw [partsOf_spec ok parts 0 vs hp]
    have := fill_ones vs [] Z.toList (by simpa using h1) (by simp [hZ,hl])
    simpa using this
  have hr : (execOp a.eval ⟨some n,.buildSlice t len parts.toArray,ty,pos,af,g⟩).run P w = .ok (.value (.slice (some ⟨w.heap.size,0,none⟩) len len)) (w.alloc (.cells vs.toArray e)) := by
    have hn : ¬ (16777216 < len) := by omega
    by_cases h0 : len = 0
    · subst h0
      have hf := hfill #[] rfl
      have hr0 : ∀ f : Nat → Value,Array.map f (Array.range 0) = #[] := fun f => Array.eq_empty_of_size_eq_zero (by simp)
      simp at hf
      simp [execOp,Instr.buildSlice,run_underlying ht,hsz,hf,hr0,run_newRow']
    · have hf := hfill ((Array.range len).map (fun x => z.cells[x % z.cells.size]!)) (by simp)
      simp at hf
      simp [execOp,Instr.buildSlice,run_underlying ht,hsz,hzr,h0,hn,hf,run_newRow']
  rw [hr]
  have ok' : Ok N av bor w0 ⟨E,cel w.heap.size e vs :: loc,X⟩ a (w.alloc (.cells vs.toArray e)) := (ok.via fun M G => G.new _ _ fun _ h => h)
  exact (h _).run _ _ (put_eq (some n) _ ▸ ok'.put hd' _)
end
end Go.Proofs.YtjmpdkmboheknaaGreatDoor.Sy

namespace Go.Proofs.YtjmpdkmboheknaaGreatDoor
open Go Go.Proofs Sy

def lowD (n : Int) : Int := IntKind.u8.wrap (128 + n.tmod 128)
def numD : Nat → Int → List Int
  | 0,_ => []
  | f + 1,n => bif decide (128 ≤ n) then lowD n :: numD f (n.tdiv 128) else [IntKind.u8.wrap n]
def numV (n : Int) : ByteArray := bif decide (n < 0) then ⟨#[]⟩ else ofInts (numD 10 n)
structure NumAt (n0 : Int) where
  f : Nat
  acc : List Int
  n : Int
  h : acc ++ numD (f + 1) n = numD 10 n0
  hl : acc.length + f = 9
  h0 : 0 ≤ n
  h1 : n < 128 ^ f
theorem numD_small {f : Nat} {n : Int} (h : ¬ 128 ≤ n) : numD (f + 1) n = [IntKind.u8.wrap n] := by
  have : decide (128 ≤ n) = false := decide_eq_false h
  simp only [numD,this,cond_false]
theorem numD_big {f : Nat} {n : Int} (h : 128 ≤ n) : numD (f + 1) n = lowD n :: numD f (n.tdiv 128) := by
  simp only [numD,decide_eq_true h,cond_true]
def NumAt.next {n0 : Int} (i : NumAt n0) (h : 128 ≤ i.n) : NumAt n0 :=
  ⟨i.f - 1,i.acc ++ [lowD i.n],i.n.tdiv 128,by
    have hf : i.f ≠ 0 := fun e => by have := i.h1;rw [e] at this;simp at this;omega
    have := i.h
    rw [numD_big h] at this
    rw [show i.f - 1 + 1 = i.f from by omega]
    simpa using this,by
    have hf : i.f ≠ 0 := fun e => by have := i.h1;rw [e] at this;simp at this;omega
    have := i.hl
    simp
    omega,by
    rw [Int.tdiv_eq_ediv_of_nonneg i.h0]
    have := i.h0
    omega,by
    have hf : i.f ≠ 0 := fun e => by have := i.h1;rw [e] at this;simp at this;omega
    rw [Int.tdiv_eq_ediv_of_nonneg i.h0]
    have h1 := i.h1
    obtain ⟨f,hf'⟩ : ∃ f,i.f = f + 1 := ⟨i.f - 1,by omega⟩
    rw [hf'] at h1 ⊢
    rw [Int.pow_succ] at h1
    simp only [Nat.add_sub_cancel]
    omega⟩
theorem NumAt.f_pos {n0 : Int} (i : NumAt n0) (h : 128 ≤ i.n) : 0 < i.f := by
  rcases Nat.eq_zero_or_pos i.f with e | e
  · have := i.h1;rw [e] at this;simp at this;omega
  · exact e
theorem NumAt.lt {n0 : Int} (i : NumAt n0) : i.n < 9223372036854775808 := by
  have h1 := i.h1
  have h2 := i.hl
  have h3 : i.f ≤ 9 := by omega
  have h4 : (128 : Int) ^ i.f ≤ 128 ^ 9 := by
    have := Nat.pow_le_pow_right (n:=128) (by omega) h3
    exact_mod_cast this
  have h5 : (128 : Int) ^ 9 = 9223372036854775808 := by decide
  omega
structure NumS (n0 : Int) where
  i : NumAt n0
  A : Option Addr
  c : Nat
def NumS.v {n0 : Int} (s : NumS n0) : Value := .slice s.A s.i.acc.length s.c
def NumS.st {n0 : Int} (s : NumS n0) : St := ⟨[(0,.int .i64 s.i.n),(3,s.v)], [orow 5 1 s.v s.i.acc.length (u8s s.i.acc)],fun _ => True⟩
theorem num_pu (n : Int) (hn : n < 9223372036854775808) : Pu Tryz.prog 57 #[.int .i64 n] (fun _ => True) (.string (numV n)) := by
  refine pu_of_cw (args:=[_]) _ Tryz.func57 rfl Tryz.ntmps57 rfl fun av bor w0 => ?_
  repeat' (first | apply sw_nil | apply cw_seq | apply cw_reg | refine sy_move (h:=?_) | refine sy_assign (h:=?_) | refine sy_lss (h:=?_) | apply cw_skip | apply cw_block | apply cw_ret | (refine cw_cond (ht:=?_) (hf:=?_);all_goals (intro hx_;first | have := of_decide_eq_true hx_ | have := of_decide_eq_false hx_)))
  · (all_goals (apply ends_ret;apply res_tmp;rfl;rfl));all_goals (simp only [numV, *,decide_true,decide_false,cond_true,cond_false,Bool.and_true,Bool.true_and,Bool.and_false,Bool.false_and,Bool.not_true,Bool.not_false,Bool.or_true,Bool.true_or,Bool.or_false,Bool.false_or];done)
  have hn0 : 0 ≤ n := by omega
  refine cw_nilRow 5 1 ?_
  refine cw_loop (ι:=NumS n) NumS.st (fun s => s.i.f) ⟨⟨9, [],n,rfl,rfl,by omega,by omega⟩,none,0⟩ (ok_sub ⟨rfl,rfl,trivial⟩ (List.Sublist.refl _) fun _ h => h) fun s => ?_
  unfold NumS.st
  repeat' (first | apply sw_nil | apply cw_seq | apply cw_reg | refine sy_move (h:=?_) | refine sy_geq (h:=?_) | refine sw_bsl (h:=fun _ => ?_) | apply cw_skip | apply cw_block | apply cw_exit | refine sy_int (h:=?_) | (refine cw_cond (ht:=?_) (hf:=?_);all_goals (intro hx_;first | have := of_decide_eq_true hx_ | have := of_decide_eq_false hx_)))
  · have hl := s.i.hl
    refine sy_rem (hc:=rfl) (h:=?_)
    refine sy_add (hc:=IntWalk.i64_in _ (by have := Int.tmod_lt_of_pos s.i.n (b:=128) (by omega);have := Int.tmod_nonneg 128 s.i.h0;omega)) (h:=?_)
    refine sy_int (hc:=rfl) (h:=?_)
    refine sw_bsl (h:=fun b => ?_)
    refine sw_append (size:=1) (z:=.int .u8 0) (news:=u8s [lowD s.i.n]) (q:=1) rfl rfl rfl rfl (fun _ => At.there _ (At.here _)) (fun w G => src_cel G List.mem_cons_self rfl rfl 1) ?_ ?_ rfl ?_ rfl ?_
    · omega
    · simp only [maxLen];omega
    · rfl
    intro A c
    repeat' (first | apply sw_nil | apply cw_reg | refine sy_move (h:=?_) | refine sy_assign (h:=?_) | fail)
    refine sy_quo (hc:=IntWalk.i64_in _ (by rw [Int.tdiv_eq_ediv_of_nonneg s.i.h0];have := s.i.lt;have := s.i.h0;omega)) (h:=?_)
    repeat' (first | apply sw_nil | refine sy_assign (h:=?_) | fail)
    have e1 : (s.i.next this).acc = s.i.acc ++ [lowD s.i.n] := rfl
    have e2 : (s.i.next this).acc.length = s.i.acc.length + 1 := by rw [e1];simp
    refine ⟨(⟨s.i.next this,A,c⟩ : NumS n), ?_,ok_sub ⟨?_, ?_,trivial⟩ ?_ fun _ h => h⟩
    · have := s.i.f_pos this
      show s.i.f - 1 < s.i.f
      omega
    · rfl
    · simp only [NumS.v,e2];rfl
    · simp only [NumS.v,e1,u8s_append]
      refine List.Sublist.cons _ ?_
      simp only [List.length_append,List.length_cons,List.length_nil,Nat.zero_add]
      exact List.Sublist.refl _
  · have hl := s.i.hl
    refine sw_append (size:=1) (z:=.int .u8 0) (news:=u8s [IntKind.u8.wrap s.i.n]) (q:=1) rfl rfl rfl rfl (fun _ => At.there _ (At.here _)) (fun w G => src_cel G List.mem_cons_self rfl rfl 1) ?_ ?_ rfl ?_ rfl ?_
    · omega
    · simp only [maxLen];omega
    · rfl
    intro A c
    rw [← u8s_append]
    refine sy_b2s (hm:=List.mem_cons_of_mem _ List.mem_cons_self) (h:=?_)
    repeat' (first | apply sw_nil | refine sy_assign (h:=?_) | apply cw_ret | fail)
    apply ends_ret;apply res_tmp;rfl;rfl
    have h0 : decide (n < 0) = false := decide_eq_false (by omega)
    have h1 := s.i.h
    rw [numD_small this] at h1
    simp only [numV,h0,cond_false,h1]
theorem ofInts_push : ∀ (ns : List Int) (r : ByteArray),(ns.foldl (fun r n => r.push (UInt8.ofNat n.toNat)) r).size = r.size + ns.length
  | [],r => rfl
  | n :: ns,r => by rw [List.foldl_cons,ofInts_push ns];simp [ByteArray.size_push];omega
theorem size_ofInts (ns : List Int) : (ofInts ns).size = ns.length := by rw [ofInts,ofInts_push];simp
theorem numD_len : ∀ (f : Nat) (n : Int),(numD f n).length ≤ f
  | 0,n => by simp [numD]
  | f + 1,n => by
    have := numD_len f (n.tdiv 128)
    unfold numD
    cases decide (128 ≤ n) <;> simp <;> omega
theorem numV_size (n : Int) : (numV n).size ≤ 10 := by
  unfold numV
  cases decide (n < 0) with
  | true => simp [ByteArray.size]
  | false => rw [cond_false,size_ofInts];exact numD_len _ _
theorem ofInts_bytesI (s : ByteArray) : ofInts (bytesI s) = s := by
  have key : ∀ (l : List UInt8) (r : ByteArray),((l.map fun b => (b.toNat : Int)).foldl (fun r n => r.push (UInt8.ofNat n.toNat)) r) = ⟨(r.data.toList ++ l).toArray⟩ := by
    intro l
    induction l with
    | nil => intro r;simp
    | cons b l ih =>
      intro r
      rw [List.map_cons,List.foldl_cons,ih]
      simp [ByteArray.push]
  rw [ofInts,bytesI,key]
  simp
theorem bytesI_append (a b : ByteArray) : bytesI (a ++ b) = bytesI a ++ bytesI b := by simp [bytesI,ByteArray.data_append]
theorem bytesI_len (a : ByteArray) : (bytesI a).length = a.size := by simp [bytesI]
def textV (s : ByteArray) : ByteArray := numV s.size ++ s
theorem text_pu (s : ByteArray) (hs : s.size ≤ 1099511627776) : Pu Tryz.prog 46 #[.string s] (fun _ => True) (.string (textV s)) := by
  refine pu_of_cw (args:=[_]) _ Tryz.func46 rfl Tryz.ntmps46 rfl fun av bor w0 => ?_
  have := numV_size s.size
  repeat' (first | apply sw_nil | apply cw_seq | apply cw_reg | refine sy_move (h:=?_) | refine sy_assign (h:=?_) | refine sy_slen (h:=?_) | apply cw_ret | refine sw_pu (hc:=num_pu _ (by omega)) (h:=?_) | (refine sy_cat (h:=?_)) | fail)
  (all_goals (apply ends_ret;apply res_tmp;rfl;rfl));all_goals rfl
def cats : List ByteArray → ByteArray
  | [] => ByteArray.empty
  | a :: l => a ++ cats l
theorem cats_append : ∀ (a b : List ByteArray),cats (a ++ b) = cats a ++ cats b
  | [],b => by simp [cats]
  | x :: a,b => by simp [cats,cats_append a b,ByteArray.append_assoc]
theorem cats_succ (l : List ByteArray) {k : Nat} (h : k < l.length) : cats (l.take (k + 1)) = cats (l.take k) ++ l.getD k .empty := by
  rw [List.take_add_one,cats_append]
  simp [h,cats]
theorem cats_take (l : List ByteArray) (k : Nat) : (cats (l.take k)).size ≤ (cats l).size := by
  have : cats l = cats (l.take k) ++ cats (l.drop k) := by rw [← cats_append,List.take_append_drop]
  rw [this,ByteArray.size_append]
  omega
def listV (l : List ByteArray) : ByteArray := numV l.length ++ cats (l.map textV)
structure ListS (m : Nat) where
  k : Nat
  hk : k ≤ m
  A : Option Addr
  c : Nat
def ListS.out {l : List ByteArray} (i : ListS l.length) : ByteArray := numV l.length ++ cats ((l.map textV).take i.k)
def ListS.v {l : List ByteArray} (i : ListS l.length) : Value := .slice i.A i.out.size i.c
def ListS.st (s : SlV) (l : List ByteArray) (i : ListS l.length) : St :=
  ⟨[(1,.func (.func 46) #[] #[]),(5,i.v),(12,s.v),(13,.int .i64 s.n),(14,.int .i64 i.k)], [orow 5 1 i.v i.out.size (u8s (bytesI i.out))],fun w => Strs w s l⟩
theorem writeList_pu (s : SlV) (l : List ByteArray) (hs : (listV l).size ≤ 1099511627776) :
    Pu Tryz.prog 200 #[s.v,.func (.func 46) #[] #[]] (fun w => Strs w s l) (.string (listV l)) := by
  refine pu_of_cw (args:=[_,_]) _ Tryz.func200 rfl Tryz.ntmps200 rfl fun av bor w0 => ?_
  refine cw_know (p:=s.n = l.length ∧ s.n ≤ maxLen ∧ (0 < l.length → s.p.isSome = true)) (fun w h => ⟨h.len_,Nat.le_trans (RowsD.cap h) (RowsD.max h),h.some_⟩) fun ⟨hl,hm,hp⟩ => ?_
  simp only [maxLen] at hm
  have hn10 := numV_size s.n
  repeat' (first | apply sw_nil | apply cw_seq | apply cw_reg | refine sy_move (h:=?_) | refine sy_assign (h:=?_) | refine sy_len (h:=?_) | apply cw_block | refine sw_pu (hc:=num_pu _ (by omega)) (h:=?_) | (refine sw_s2b (h:=fun A c => ?_)) | fail)
  have hle := cats_take (l.map textV)
  have hsz : (numV l.length).size + (cats (l.map textV)).size ≤ 1099511627776 := by rw [← ByteArray.size_append];exact hs
  have h0 : ListS.out (l:=l) ⟨0,Nat.zero_le _,A,c⟩ = numV s.n := by simp [ListS.out,cats,hl]
  refine cw_loop (ι:=ListS l.length) (ListS.st s l) (fun i => l.length - i.k) ⟨0,Nat.zero_le _,A,c⟩ (ok_sub ⟨rfl, ?_,rfl,rfl,rfl,trivial⟩ ?_ fun _ h => h) fun i => ?_
  · simp only [ListS.v,h0];rfl
  · simp only [ListS.v,h0];exact List.Sublist.refl _
  have hik := i.hk
  have hout : i.out.size ≤ 1099511627776 := by simp only [ListS.out,ByteArray.size_append];have := hle i.k;omega
  unfold ListS.st
  repeat' (first | apply sw_nil | apply cw_seq | apply cw_reg | refine sy_move (h:=?_) | refine sy_lss (h:=?_) | apply cw_skip | apply cw_block | apply cw_exit | (refine cw_cond (ht:=?_) (hf:=?_);all_goals (intro hx_;first | have := of_decide_eq_true hx_ | have := of_decide_eq_false hx_)))
  · have hlt : i.k < l.length := by omega
    have hp' := hp (by omega)
    have hsucc := cats_succ (l.map textV) (k:=i.k) (by simpa using hlt)
    have hget : (l.map textV).getD i.k .empty = textV (l.getD i.k .empty) := by simp [hlt]
    rw [hget] at hsucc
    have hnext : (numV l.length ++ cats ((l.map textV).take (i.k + 1))) = i.out ++ textV (l.getD i.k .empty) := by rw [hsucc, ← ByteArray.append_assoc];rfl
    have hb : i.out.size + (textV (l.getD i.k .empty)).size ≤ 1099511627776 := by
      rw [← ByteArray.size_append, ← hnext,ByteArray.size_append]
      have := hle (i.k + 1)
      omega
    have hb2 : (l.getD i.k .empty).size ≤ 1099511627776 := by simp only [textV,ByteArray.size_append] at hb;omega
    repeat' (first | apply sw_nil | apply cw_reg | refine sy_move (h:=?_) | refine sy_assign (h:=?_) | refine sw_pu (hc:=text_pu _ (by omega)) (h:=?_) | (refine sy_idxX (q:=i.k) (h:=?_)) | (refine sy_ldX (hF:=fun w h => Strs.get h hlt) (h:=?_)) | fail)
    refine sw_append (size:=1) (z:=.int .u8 0) rfl rfl rfl rfl (fun _ => At.here _) (fun w G => src_str (by omega)) ?_ ?_ rfl ?_ rfl ?_
    · omega
    · simp only [maxLen];omega
    · rfl
    intro A c
    repeat' (first | apply sw_nil | apply cw_reg | refine sy_move (h:=?_) | refine sy_assign (h:=?_) | refine sy_add (h:=?_) | fail)
    have e2 : ListS.out (l:=l) ⟨i.k + 1,hlt,A,c⟩ = i.out ++ textV (l.getD i.k .empty) := hnext
    refine ⟨(⟨i.k + 1,hlt,A,c⟩ : ListS l.length),(by show l.length - (i.k + 1) < l.length - i.k;omega),ok_sub ⟨rfl, ?_,rfl,rfl,rfl,trivial⟩ ?_ fun _ h => h⟩
    · simp only [ListS.v,e2,ByteArray.size_append];rfl
    · simp only [ListS.v,e2,ByteArray.size_append,bytesI_append,u8s_append];exact List.Sublist.refl _
  · have hk : i.k = l.length := by omega
    repeat' (first | apply sw_nil | fail)
    refine sy_b2s (hm:=List.mem_cons_self) (h:=?_)
    repeat' (first | apply sw_nil | refine sy_assign (h:=?_) | apply cw_ret | fail)
    apply ends_ret;apply res_tmp;rfl;rfl
    rw [ofInts_bytesI,ListS.out,hk,List.take_of_length_le (by simp),listV]
theorem list_pu (s : SlV) (l : List ByteArray) (hs : (listV l).size ≤ 1099511627776) : Pu Tryz.prog 142 #[s.v] (fun w => Strs w s l) (.string (listV l)) := by
  refine pu_of_cw (args:=[_]) _ Tryz.func142 rfl Tryz.ntmps142 rfl fun av bor w0 => ?_
  repeat' (first | apply sw_nil | apply cw_seq | apply cw_reg | refine sy_move (h:=?_) | refine sy_assign (h:=?_) | apply cw_ret | refine sw_pu (hc:=writeList_pu s l hs) (h:=?_) | fail)
  (all_goals (apply ends_ret;apply res_tmp;rfl;rfl));all_goals rfl
end Go.Proofs.YtjmpdkmboheknaaGreatDoor

namespace Go.Proofs.YtjmpdkmboheknaaGreatDoor
open Go Go.Proofs Sy

theorem textV_size (s : ByteArray) : (textV s).size ≤ 10 + s.size := by have := numV_size s.size;rw [textV,ByteArray.size_append];omega
structure BoxD.Fit (b : BoxD) : Prop where
  nonce : b.nonce.size ≤ 1073741824
  data : b.data.size ≤ 1073741824
  tag : b.tag.size ≤ 1073741824
def boxV (b : BoxD) : ByteArray := textV b.nonce ++ textV b.data ++ textV b.tag
theorem boxV_size {b : BoxD} (h : b.Fit) : (boxV b).size ≤ 4294967296 := by
  have h1 := textV_size b.nonce
  have h2 := textV_size b.data
  have h3 := textV_size b.tag
  have := h.nonce
  have := h.data
  have := h.tag
  simp only [boxV,ByteArray.size_append]
  omega
theorem boxBytes_pu (b : BoxD) (hb : b.Fit) : Pu Tryz.prog 143 #[b.v] (fun _ => True) (.string (boxV b)) := by
  refine pu_of_cw (args:=[_]) _ Tryz.func143 rfl Tryz.ntmps143 rfl fun av bor w0 => ?_
  have h1 := textV_size b.nonce
  have h2 := textV_size b.data
  have h3 := textV_size b.tag
  have := hb.nonce
  have := hb.data
  have := hb.tag
  repeat' (first | apply sw_nil | apply cw_seq | apply cw_reg | refine sy_assign (h:=?_) | refine sw_box (h:=fun _ => ?_) | fail)
  (apply cw_draw0;kernel_rfl)
  all_goals (refine aw_take 0 (h:=?_))
  all_goals (refine aw_take 1 (h:=?_))
  all_goals (refine aw_take 3 (h:=?_))
  all_goals (refine aw_take 4 (h:=?_))
  all_goals (refine aw_take 7 (h:=?_))
  all_goals (refine aw_take 8 (h:=?_))
  all_goals (refine aw_step 2 (h:=?_);(refine sw_pu (hc:=text_pu _ (by omega)) (h:=?_));apply sw_nil;refine aw_fin (h:=?_))
  all_goals (refine aw_step 5 (h:=?_);(refine sw_pu (hc:=text_pu _ (by omega)) (h:=?_));apply sw_nil;refine aw_fin (h:=?_))
  all_goals (refine aw_take 6 (hy:=by (apply y_cat;rfl;rfl;(try simp only [ByteArray.size_append]);omega)) (h:=?_))
  all_goals (refine aw_step 9 (h:=?_);(refine sw_pu (hc:=text_pu _ (by omega)) (h:=?_));apply sw_nil;refine aw_fin (h:=?_))
  all_goals (refine aw_take 10 (hy:=by (apply y_cat;rfl;rfl;(try simp only [ByteArray.size_append]);omega)) (h:=?_))
  all_goals (refine aw_take 11 (h:=?_))
  all_goals (refine aw_done (h:=?_))
  repeat' (first | apply cw_ret | fail)
  (all_goals (apply ends_ret;apply res_tmp;rfl;rfl));all_goals rfl
end Go.Proofs.YtjmpdkmboheknaaGreatDoor

namespace Go.Proofs.YtjmpdkmboheknaaGreatDoor.Sy
open Go Go.RowKit
section
variable {P : Program} {N : Nat} {av bor : List Nat} {w0 : World} {ops : Array Oper} {rest : List Oper} {k : St → Prop} {E : Env} {loc loc' : List Res} {X : World → Prop}
variable {d : Option Tmp} {ty : TypeId} {pos : String} {af : Array Edge} {g : Option (Nat × Bool)} {bb want : Bool} {K : Exit → St → Prop}
theorem y_makeFunc {st : St} {fn : Fn} {xs : List Operand} {vs : List Value} (hx : evs st.env xs = some vs) : Sy.Yields P N av bor w0 st (.makeFunc fn #[] xs.toArray) ty (.func fn #[] vs.toArray) := Sy.Yields.mk fun A w ok d pos af g => by
  have e := evs_eval (E:=st.env) (loc:=st.loc) (X:=st.ext) ok xs vs hx
  have e1 : xs.toArray.map A.eval = vs.toArray := by rw [List.map_toArray,e]
  simp [execOp,Instr.makeFunc,e1,e]
theorem sy_makeFunc {n : Nat} {fn : Fn} {xs : List Operand} {vs : List Value} (hx : evs E xs = some vs := by rfl) (hg : gdB ops E g = some (bb,want) := by rfl) (hbb : bb = want := by (first | with_reducible rfl | with_reducible assumption | with_reducible exact Bool.not_false | with_reducible exact Bool.not_true)) (hd : Nat.blt n N = true := by rfl) (h : Sw P N av bor w0 ops rest ⟨(n,.func fn #[] vs.toArray) :: E,loc,X⟩ k) :
    Sw P N av bor w0 ops (⟨some n,.makeFunc fn #[] xs.toArray,ty,pos,af,g⟩ :: rest) ⟨E,loc,X⟩ k := sw_yield (y_makeFunc hx) hg hbb hd h
theorem sw_turn {x : Operand} {xs : List Operand} {ats : Array TypeId} {f : FuncId} {first caps : Array Value} {args all : List Value} {X1 : World → Prop} {v : Value} {r r' : Res}
    (hx : ev E x = some (.func (.func f) first caps) := by rfl) (ha : evs E xs = some args := by rfl) (hall : first.toList ++ args ++ caps.toList = all := by rfl) (hg : gdB ops E g = some (bb,want) := by rfl) (hb : bb = want := by (first | with_reducible rfl | with_reducible assumption | with_reducible exact Bool.not_false | with_reducible exact Bool.not_true)) (hd : inB N d = true := by rfl) (hf : FnBody P f := by infer_instance)
    (hc : Ct P f all.toArray [r] X1 fun u R _ => u = v ∧ R = [r']) (hA : At r r' loc loc' := by (repeat (first | exact At.here _ | apply At.there))) (hX : ∀ w,X w → X1 w := by (first | exact fun _ _ => trivial | exact fun _ h => h | exact fun _ h => h.1 | exact fun _ h => h.2))
    (h : Sw P N av bor w0 ops rest ⟨putE E d v,loc',X⟩ k) :
    Sw P N av bor w0 ops (⟨d,.call ⟨.value x,xs.toArray,ats⟩,ty,pos,af,g⟩ :: rest) ⟨E,loc,X⟩ k := by
  obtain ⟨f',h1,h2⟩ := hA.perm
  refine sw_perm h1 ?_
  refine sw_fn (pre:=[r]) (fr:=f') (Post:=fun u R _ => u = v ∧ R = [r']) hx ha hall hg hb hd hf hc hX fun u R X' ⟨h3,h4⟩ => ?_
  subst h3;subst h4
  refine sw_to (fun a w ok => ?_) h
  exact ok.via fun M G => (G.imp fun _ h => h.1).perm (h2.symm.append_right M)
end
end Go.Proofs.YtjmpdkmboheknaaGreatDoor.Sy
namespace Go.Proofs.YtjmpdkmboheknaaGreatDoor
open Go Go.Proofs Sy
def noteV (n f : Int) (z : Bool) : Int := bif !z then bitsV .or .i64 n f else n
theorem used1_ct (b : Nat) (f : Int) (z : Bool) (n : Int) : Ct Tryz.prog 172 #[.int .i64 f,.bool z,.pointer (some ⟨b,0,none⟩)] [cel b 3 [.int .i64 n]] (fun _ => True) fun u R _ => u = .tuple #[] ∧ R = [cel b 3 [.int .i64 (noteV n f z)]] := by
  refine ct_of_cw (args:=[_,_,_]) _ Tryz.func172 rfl Tryz.ntmps172 rfl fun av bor w0 => ?_
  repeat' (first | apply sw_nil | apply cw_seq | apply cw_reg | refine sy_move (h:=?_) | refine sy_ld (h:=?_) | refine sy_not (h:=?_) | refine sw_st1 (h:=?_) | apply cw_skip | refine sy_or (h:=?_) | (refine cw_cond (ht:=?_) (hf:=?_);all_goals (intro hx_;skip)))
  · refine ends_end (res_none rfl) ⟨rfl, ?_⟩
    simp only [noteV, *,decide_true,decide_false,cond_true,cond_false,Bool.and_true,Bool.true_and,Bool.and_false,Bool.false_and,Bool.not_true,Bool.not_false,Bool.or_true,Bool.true_or,Bool.or_false,Bool.false_or]
    rfl
  · refine ends_end (res_none rfl) ⟨rfl, ?_⟩
    simp only [noteV, *,decide_true,decide_false,cond_true,cond_false,Bool.and_true,Bool.true_and,Bool.and_false,Bool.false_and,Bool.not_true,Bool.not_false,Bool.or_true,Bool.true_or,Bool.or_false,Bool.false_or]
def usedV (a : ActD) : Int :=
  noteV (noteV (noteV (noteV (noteV (noteV (noteV (noteV (noteV (noteV (noteV 0 1 (seqB a.object ⟨#[]⟩)) 2 (seqB a.target ⟨#[]⟩)) 4 (decide (a.scope = 0))) 8 (seqB a.group ⟨#[]⟩)) 16 (decide ((a.to.n : Int) = 0))) 32 (seqB a.text ⟨#[]⟩))
    64 (boxEq a.body BoxD.zero)) 128 (decide (a.epoch = 0))) 256 (decide ((a.wraps.n : Int) = 0))) 512 (decide (a.n = 0))) 1024 (decide (a.m = 0))
theorem used_pu (a : ActD) : Pu Tryz.prog 106 #[a.v] (fun _ => True) (.int .i64 (usedV a)) := by
  refine pu_of_cw (args:=[_]) _ Tryz.func106 rfl Tryz.ntmps106 rfl fun av bor w0 => ?_
  repeat' (first | apply sw_nil | apply cw_seq | apply cw_reg | refine sy_move (h:=?_) | refine sy_assign (h:=?_) | refine sy_fld (h:=?_) | refine sy_ld (h:=?_) | refine sy_eql (h:=?_) | refine sy_seql (h:=?_) | refine sy_len (h:=?_) | refine sw_alloc (h:=fun _ => ?_) | refine sw_box (h:=fun _ => ?_) | refine sw_st1 (h:=?_) | apply cw_ret | (refine sy_makeFunc (h:=?_)) | (refine sy_build0 (h:=?_)) | (refine sy_boxEq (h:=?_)) | (refine sy_ldSub (h:=?_)) | (refine sw_turn (hc:=used1_ct _ _ _ _) (hX:=fun _ _ => trivial) (h:=?_)))
  (all_goals (apply ends_ret;apply res_tmp;rfl;rfl));all_goals rfl
end Go.Proofs.YtjmpdkmboheknaaGreatDoor
