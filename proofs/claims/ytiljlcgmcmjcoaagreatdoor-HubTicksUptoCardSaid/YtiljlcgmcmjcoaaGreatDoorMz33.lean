import Derived.Test.YtiljlcgmcmjcoaaGreatDoorMz32
import Derived.Test.YtiljlcgmcmjcoaaGreatDoorMz31
set_option linter.unusedSimpArgs false
set_option linter.unnecessarySimpa false
set_option linter.unusedVariables false
set_option maxHeartbeats 1000000
namespace Go.Proofs.YtiljlcgmcmjcoaaGreatDoor
open Go.Ab Go.RowKit
open Go.Op (bytesLess)
set_option maxRecDepth 10000
attribute [local irreducible] Awp jZ jg qJ Red qz Go.Ab.Fin qm Rz y0 qB qG ResOk jG q9 jK qV
end Go.Proofs.YtiljlcgmcmjcoaaGreatDoor
set_option linter.unusedSimpArgs false
set_option linter.unnecessarySimpa false
set_option linter.unusedVariables false
set_option maxHeartbeats 1000000
namespace Go.Proofs.YtiljlcgmcmjcoaaGreatDoor
open Go.Ab Go.RowKit
set_option maxRecDepth 10000
attribute [local irreducible] Awp jZ jg qJ Red qz Go.Ab.Fin qm Rz y0 qB qG ResOk jG q9 jK qV
end Go.Proofs.YtiljlcgmcmjcoaaGreatDoor
set_option linter.unusedSimpArgs false
set_option linter.unnecessarySimpa false
set_option linter.unusedVariables false
set_option maxHeartbeats 1000000
namespace Go.Proofs.YtiljlcgmcmjcoaaGreatDoor
open Go.Ab Go.RowKit
set_option maxRecDepth 10000
attribute [local irreducible] Awp jZ jg qJ Red qz Go.Ab.Fin qm Rz y0 qB qG ResOk jG q9 jK qV
theorem Zz (ys : List AV) (h : Wm C.tab 1000000000 [28, 3, 9] ys) : jT C.P 10 ys (.v (.bool true)) := by
  obtain ⟨_, _, rfl, h0, _, _, rfl, h1, _, _, rfl, h2, rfl⟩ := h
  obtain ⟨a, rfl, ha⟩ := qf7 h0
  obtain ⟨b, rfl, _⟩ := qf2 h1
  obtain ⟨c, rfl, hc⟩ := qgI h2
  exact qbJ a ha b c
end Go.Proofs.YtiljlcgmcmjcoaaGreatDoor
