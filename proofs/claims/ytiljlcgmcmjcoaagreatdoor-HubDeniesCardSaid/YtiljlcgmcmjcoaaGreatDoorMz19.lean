import Derived.Test.YtiljlcgmcmjcoaaGreatDoorMz18
import Derived.Test.YtiljlcgmcmjcoaaGreatDoorMz12
/- Hubs, plain: a text that was uploaded, and finished, is a file. -/
set_option linter.unusedSimpArgs false
set_option linter.unnecessarySimpa false
set_option linter.unusedVariables false
namespace Go.Proofs.YtiljlcgmcmjcoaaGreatDoor
open Go.Op

/-- Somebody's upload, the last one, and how far it came. -/
structure UpSt (u : Upl) (A : List Sess) (n : Int) (who : Str) (T : Str) (size till now : Int) : Prop where
  sess : u.sess = A ++ [⟨n, who, T, size, till⟩]
  swept : sweptL u.sess now = u.sess
  beg : beginErr u now = 0
  name : isName who = true
  low : ∀ a, a ∈ A → a.number < n
  till : till = now + u.lasts
end Go.Proofs.YtiljlcgmcmjcoaaGreatDoor
