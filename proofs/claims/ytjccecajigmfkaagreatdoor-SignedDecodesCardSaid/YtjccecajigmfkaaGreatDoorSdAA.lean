/- Parts of one proof, merged: XSo. -/
import Derived.Test.YtjccecajigmfkaaGreatDoorSdI
set_option linter.all false
set_option maxHeartbeats 12800000
set_option maxRecDepth 10000
namespace Go.Proofs.YtjccecajigmfkaaGreatDoor
open Go.RowKit
end Go.Proofs.YtjccecajigmfkaaGreatDoor
