/-
  The library's contracts laid at this program, in plain words (written by the kit's lay-plain.mjs). No conditions.
-/
import Derived.Ground.SlgnProg
import Derived.Shelf.SlicesE.Clone
import Derived.Shelf.SlicesE.Reverse
import Derived.Shelf.SlGeneric
import Derived.Test.YtldlaohefgianaaProg
namespace Go.Proofs
open Go.Shelf
def Ytldlaohefgianaa.clB_ren : Go.Shelf.Ren := ⟨fun | 41 => 22 | n => n, fun | 22 => 29 | 23 => 24 | 4 => 4 | n => n, fun | n => n⟩
theorem Ytldlaohefgianaa.clB : Go.Proofs.SlLaysE0.n41 Try.prog Ytldlaohefgianaa.clB_ren := {
  mixed := by kernel_rfl
  f41 := ⟨Try.f22.name, by decide, Try.func22.trans (congrArg some (by kernel_rfl))⟩
  t4 := Try.underlying4
  a4 := Try.isAgg4
  z4 := Try.sizeOf4
  v4 := Try.zeroValue4
  t22 := Try.underlying29
  a22 := Try.isAgg29
  z22 := Try.sizeOf29
  v22 := Try.zeroValue29 }
def Ytldlaohefgianaa.rvB_ren : Go.Shelf.Ren := ⟨fun | 35 => 23 | n => n, fun | 22 => 29 | 23 => 24 | 3 => 3 | 4 => 4 | 0 => 0 | n => n, fun | n => n⟩
theorem Ytldlaohefgianaa.rvB : Go.Proofs.SlLaysE.n35 Try.prog Ytldlaohefgianaa.rvB_ren := {
  mixed := by kernel_rfl
  f35 := ⟨Try.f23.name, by decide, Try.func23.trans (congrArg some (by kernel_rfl))⟩
  t0 := Try.underlying0
  a0 := Try.isAgg0
  z0 := Try.sizeOf0
  v0 := Try.zeroValue0
  t3 := Try.underlying3
  a3 := Try.isAgg3
  z3 := Try.sizeOf3
  v3 := Try.zeroValue3
  t4 := Try.underlying4
  a4 := Try.isAgg4
  z4 := Try.sizeOf4
  v4 := Try.zeroValue4
  t22 := Try.underlying29
  a22 := Try.isAgg29
  z22 := Try.sizeOf29
  v22 := Try.zeroValue29
  a23 := Try.isAgg24
  z23 := Try.sizeOf24 }
end Go.Proofs
