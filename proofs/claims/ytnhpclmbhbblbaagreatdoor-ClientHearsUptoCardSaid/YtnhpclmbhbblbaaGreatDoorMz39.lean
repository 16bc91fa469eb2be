import Derived.Test.YtnhpclmbhbblbaaGreatDoorMz9
import Derived.Test.YtnhpclmbhbblbaaGreatDoorMz20
import Derived.Test.YtnhpclmbhbblbaaGreatDoorMz6
set_option linter.unusedSimpArgs false
set_option linter.unnecessarySimpa false
set_option linter.unusedVariables false
set_option maxHeartbeats 1000000
namespace Go.Proofs.YtnhpclmbhbblbaaGreatDoor
open Go.Ab Go.RowKit
set_option maxRecDepth 10000
attribute [local irreducible] Awp yl jE jl Red qX Go.Ab.Fin qW Rz vl jj ji ResOk jV jz yb jv
theorem ZN {k:Nat} (h:k < 10):Lib.decDigits k = [UInt8.ofNat (48 + k)]:=by rw [Lib.decDigits,dif_pos h]
theorem qe6 {k:Nat} (h:¬ k < 10):Lib.decDigits k = Lib.decDigits (k / 10) ++ [UInt8.ofNat (48 + k % 10)]:=by rw [Lib.decDigits,dif_neg h]
theorem qe7 (k:Nat):(Lib.decDigits k).length ≤ k + 1:=by
 induction k using Nat.strongRecOn with
 | _ k ih =>
   by_cases h:k < 10
   ·rw [ZN h];simp
   ·rw [qe6 h]
    have:=ih (k / 10) (by omega)
    simp
    omega
theorem WR (k:Nat):Lib.itoa (k:Int) = Lib.decDigits k:=by
 unfold Lib.itoa
 rw [if_neg (by omega)]
 simp
end Go.Proofs.YtnhpclmbhbblbaaGreatDoor
