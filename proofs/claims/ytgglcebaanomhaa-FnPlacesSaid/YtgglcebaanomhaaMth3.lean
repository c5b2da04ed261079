/-
 Plain laws: first indices, shifts. No conditions.
-/
import Derived.Test.YtgglcebaanomhaaMth2
namespace Go.Proofs.Ytgglcebaanomhaa
set_option linter.unusedSimpArgs false
set_option linter.unusedVariables false
def firstN (p : Nat → Bool) : Nat → Int
 | 0 => -1
 | n + 1 => if 0 ≤ firstN p n then firstN p n else if p n = true then (n : Int) else -1
def idxL (xs : List Int) (p : Int → Bool) : Int := firstN (fun j => p (atI xs j)) xs.length
def inLN (xs : List Int) (l h : Int) (n : Nat) : Bool := allB n (fun j => inB (atI xs j) l h)
def inL (xs : List Int) (l h : Int) : Bool := inLN xs l h xs.length
def shB (need : List Int) (len : Int) (starts : List Int) : Bool := decide (need.length ≤ 48) && inB len 1 48 && inL need 0 20 && inL starts 0 ((need.length : Int) - 1)
section
variable {need starts : List Int} {len : Int} {n : Nat}
end
def cntL (starts : List Int) (len hour : Int) : Nat → Int
 | 0 => 0
 | n + 1 => cntL starts len hour n + if inB hour (atI starts n) (atI starts n + len - 1) = true then 1 else 0
def wkL (starts : List Int) (len hour : Int) : Int := cntL starts len hour starts.length
def misL (need : List Int) (len : Int) (starts : List Int) (i : Nat) : Int := atI need i - wkL starts len i
def sIdx (need : List Int) (len : Int) (starts : List Int) : Int := firstN (fun i => decide (0 < misL need len starts i)) need.length
section
variable {need starts : List Int} {len : Int}
def fewN (need : List Int) (len : Int) : Nat → List Int
 | 0 => []
 | n + 1 => fewN need len n ++ List.replicate (misL need len (fewN need len n) n).toNat (n : Int)
end
attribute [irreducible] idxL inLN shB cntL fewN sIdx misL wkL
end Go.Proofs.Ytgglcebaanomhaa
