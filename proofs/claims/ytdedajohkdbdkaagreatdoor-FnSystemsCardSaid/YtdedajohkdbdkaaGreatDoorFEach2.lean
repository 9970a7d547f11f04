/- Contracts of eachKey, countKeys, firstKeys. -/
import Derived.Test.YtdedajohkdbdkaaGreatDoorFEach
import Derived.Laws.EntriesVeiled
namespace Go.Proofs.YtdedajohkdbdkaaGreatDoor
set_option linter.unusedVariables false
open Go.RowKit
end Go.Proofs.YtdedajohkdbdkaaGreatDoor
