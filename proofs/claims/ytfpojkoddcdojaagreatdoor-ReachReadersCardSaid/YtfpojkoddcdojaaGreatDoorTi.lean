/- What the type table says, by hand: arrays, bools, maps. -/
import Derived.Test.YtfpojkoddcdojaaGreatDoorIt
import Derived.Test.YtfpojkoddcdojaaGreatDoorOq
set_option linter.unusedVariables false
namespace Go.Proofs.YtfpojkoddcdojaaGreatDoor
open Go Go.Proofs Sy
instance : TyArr Tryz.prog 157 8 141 := ⟨by kernel_rfl⟩
instance : TyArr Tryz.prog 179 64 141 := ⟨by kernel_rfl⟩
instance : TyBool Tryz.prog 4 := ⟨by kernel_rfl⟩
end Go.Proofs.YtfpojkoddcdojaaGreatDoor
