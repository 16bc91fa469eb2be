import Derived.Test.YtnhpclmbhbblbaaGreatDoorMz36
import Derived.Test.YtnhpclmbhbblbaaGreatDoorMz0
import Derived.Test.YtnhpclmbhbblbaaGreatDoorMz20
set_option linter.unusedSimpArgs false
set_option linter.unnecessarySimpa false
set_option linter.unusedVariables false
set_option maxHeartbeats 1000000
namespace Go.Proofs.YtnhpclmbhbblbaaGreatDoor
open Go.Ab Go.RowKit
set_option maxRecDepth 10000
attribute [local irreducible] Awp yl jE jl Red qX Go.Ab.Fin qW Rz vl jj ji ResOk jV jz yb jv
theorem qa7 {b m t:List Ent} (hb:Right b) (hm:Right m) (ht:Right t):(vW b m t).1.length ≤ 60 ∧ (vW b m t).2.1.length ≤ 1000000:=by
 by_cases h:(vW b m t).2.2 = 0
 ·exact ⟨(YN hb hm ht h).len,qa6 hb hm ht h⟩
 ·have h1:=KG (b:=b) (m:=m) (t:=t) (by rw [wi (ju.2 hb) (ju.2 hm) (ju.2 ht)];exact h)
  rw [wi (ju.2 hb) (ju.2 hm) (ju.2 ht)] at h1
  rw [h1.1,h1.2];simp
end Go.Proofs.YtnhpclmbhbblbaaGreatDoor
