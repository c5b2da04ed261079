/-
  The library's contracts laid at this program, in plain words (written by the kit's lay-plain.mjs). No conditions.
-/
import Derived.Ground.SlgnProg
import Derived.Shelf.SlicesE.Clone
import Derived.Shelf.SlGeneric
import Derived.Test.YtgglcebaanomhaaProg
namespace Go.Proofs
open Go.Shelf
def Ytgglcebaanomhaa.clJ_ren : Go.Shelf.Ren := ⟨fun | 41 => 81 | n => n, fun | 22 => 36 | 23 => 2 | 4 => 4 | n => n, fun | n => n⟩
theorem Ytgglcebaanomhaa.clJ : Go.Proofs.SlLaysE0.n41 Try.prog Ytgglcebaanomhaa.clJ_ren := {
  mixed := by kernel_rfl
  f41 := ⟨Try.f81.name, by decide, Try.func81.trans (congrArg some (by kernel_rfl))⟩
  t4 := Try.underlying4
  a4 := Try.isAgg4
  z4 := Try.sizeOf4
  v4 := Try.zeroValue4
  t22 := Try.underlying36
  a22 := Try.isAgg36
  z22 := Try.sizeOf36
  v22 := Try.zeroValue36 }
end Go.Proofs
