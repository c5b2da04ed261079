/-
  The library's contracts laid at this program, in plain words (written by the kit's lay-plain.mjs). No conditions.
-/
import Derived.Ground.SlgnProg
import Derived.Shelf.SlicesE.Clone
import Derived.Shelf.SlGeneric
import Derived.Test.YtldlaohefgianaaProg
namespace Go.Proofs
open Go.Shelf
def Ytldlaohefgianaa.clJ_ren : Go.Shelf.Ren := ⟨fun | 41 => 56 | n => n, fun | 22 => 40 | 23 => 2 | 4 => 4 | n => n, fun | n => n⟩
theorem Ytldlaohefgianaa.clJ : Go.Proofs.SlLaysE0.n41 Try.prog Ytldlaohefgianaa.clJ_ren := {
  mixed := by kernel_rfl
  f41 := ⟨Try.f56.name, by decide, Try.func56.trans (congrArg some (by kernel_rfl))⟩
  t4 := Try.underlying4
  a4 := Try.isAgg4
  z4 := Try.sizeOf4
  v4 := Try.zeroValue4
  t22 := Try.underlying40
  a22 := Try.isAgg40
  z22 := Try.sizeOf40
  v22 := Try.zeroValue40 }
end Go.Proofs
