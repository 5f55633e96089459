/- Closed facts. -/
import Derived.Test.YtbpnallaifdcpaaGreatDoorRows
import Derived.ProofKit
namespace Go.Proofs.YtbpnallaifdcpaaGreatDoor
open Go
theorem mapsT:mapsRowed Tryz.pinned.checked.prog=true:=by kernel_rfl
end Go.Proofs.YtbpnallaifdcpaaGreatDoor
