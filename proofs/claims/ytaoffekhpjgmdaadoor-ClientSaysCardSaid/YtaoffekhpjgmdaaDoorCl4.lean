/- Clients in the abstract layer, 4: the reference's SendOf. -/
import Derived.Test.YtaoffekhpjgmdaaDoorCl3
import Derived.Test.YtaoffekhpjgmdaaDoorTw2
set_option linter.unusedSimpArgs false
set_option linter.unnecessarySimpa false
set_option linter.unusedVariables false
set_option maxHeartbeats 1000000
namespace Go.Proofs.YtaoffekhpjgmdaaDoor
open Go.Ab Go.RowKit
set_option maxRecDepth 10000
attribute [local irreducible] Awp Ops OpsX Wanted Red ExOk Go.Ab.Fin ACall Rz RzL RzRows Enters ResOk RenV RenVL ArgV ArgVL

end Go.Proofs.YtaoffekhpjgmdaaDoor
