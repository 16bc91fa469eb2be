import Derived.Test.YtiljlcgmcmjcoaaGreatDoorMz32
import Derived.Test.YtiljlcgmcmjcoaaGreatDoorMz31
set_option linter.unusedSimpArgs false
set_option linter.unnecessarySimpa false
set_option linter.unusedVariables false
set_option maxHeartbeats 1000000
namespace Go.Proofs.YtiljlcgmcmjcoaaGreatDoor
open Go.Ab Go.RowKit
open Go.Op (bytesLess)
set_option maxRecDepth 10000
attribute [local irreducible] Awp jV q9 qJ Red qy Go.Ab.Fin ql Rz yQ qA qG ResOk jC q6 jH qT
end Go.Proofs.YtiljlcgmcmjcoaaGreatDoor
set_option linter.unusedSimpArgs false
set_option linter.unnecessarySimpa false
set_option linter.unusedVariables false
set_option maxHeartbeats 1000000
namespace Go.Proofs.YtiljlcgmcmjcoaaGreatDoor
open Go.Ab Go.RowKit
set_option maxRecDepth 10000
attribute [local irreducible] Awp jV q9 qJ Red qy Go.Ab.Fin ql Rz yQ qA qG ResOk jC q6 jH qT
end Go.Proofs.YtiljlcgmcmjcoaaGreatDoor
set_option linter.unusedSimpArgs false
set_option linter.unnecessarySimpa false
set_option linter.unusedVariables false
set_option maxHeartbeats 1000000
namespace Go.Proofs.YtiljlcgmcmjcoaaGreatDoor
open Go.Ab Go.RowKit
set_option maxRecDepth 10000
attribute [local irreducible] Awp jV q9 qJ Red qy Go.Ab.Fin ql Rz yQ qA qG ResOk jC q6 jH qT
theorem XW (ys : List AV) (h : KX C.tab 1000000000 [28] ys) : jY C.P 4 ys (.v (.bool true)) := by
  obtain ⟨_, _, rfl, h0, rfl⟩ := h
  obtain ⟨a, rfl, ha⟩ := qfw h0
  exact qag a ha
end Go.Proofs.YtiljlcgmcmjcoaaGreatDoor
