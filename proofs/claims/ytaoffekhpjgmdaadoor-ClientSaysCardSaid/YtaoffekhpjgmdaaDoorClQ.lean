/- Clients, plain: what must be in any case. -/
import Derived.Test.YtaoffekhpjgmdaaDoorClPl
import Derived.Test.YtaoffekhpjgmdaaDoorDec
set_option linter.unusedSimpArgs false
set_option linter.unusedVariables false
namespace Go.Proofs.YtaoffekhpjgmdaaDoor
open Go.Ab Go.RowKit
set_option maxRecDepth 100000

def begC : Cli := newC [97] [102]
def begX : Chg := ⟨2, [120], [], [49], -1⟩
def begD : Cli := { begC with mine := [⟨[120], false, [49], 1⟩] }
def begS : Cli := { begD with key := [97, 45, 49], asked := [⟨2, [120], [], [49], 0⟩], keys := 1 }
theorem begC_ok : cliErr begC = 0 := by decide
theorem begE : editR begC begX = (begD, 0) := by decide
theorem begD_ok : cliErr begD = 0 := by decide
theorem begRaw : rawD begD.base begD.mine = [⟨2, [120], [], [49], -1⟩] := by decide
theorem beg_itoa : Lib.itoa (begD.keys + 1) = [49] := by
  rw [show begD.keys + 1 = ((1 : Nat) : Int) from rfl, itoa_nat, dig_small (by decide)]; rfl
theorem begS_is : sendR begD = (begS, askR begS, true, 0) := by
  have h1 : sendL begD = [⟨2, [120], [], [49], 0⟩] := by unfold sendL; rw [begRaw]; rfl
  have h2 : sendC begD = begS := by unfold sendC; rw [h1, beg_itoa]; rfl
  unfold sendR sendW
  rw [if_neg (by rw [begD_ok]; decide), if_pos (show begD.key = [] from rfl), begRaw, if_neg (by simp), if_neg (by decide), h2]
end Go.Proofs.YtaoffekhpjgmdaaDoor
