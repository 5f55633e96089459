/- Closed facts. -/
import Derived.Test.YtbpnallaifdcpaaGreatDoorQA
namespace Go.Proofs.YtbpnallaifdcpaaGreatDoor
open Go
theorem qt7 (os:Os) (tape:Tape):varsDone Tryz.prog 400 (varsId Tryz.prog) os tape=true:=by kernel_rfl
end Go.Proofs.YtbpnallaifdcpaaGreatDoor
