/- Closed facts. -/
import Derived.Test.YtbpnallaifdcpaaGreatDoorQA
namespace Go.Proofs.YtbpnallaifdcpaaGreatDoor
open Go
theorem qt8 (os:Os) (tape:Tape):(DataW.laidRun Tryz.prog (varsWorld Tryz.prog 400 (varsId Tryz.prog) os tape).memory 8 (qLx.map (·.1))).map (·.1)=some qLx:=by kernel_rfl
end Go.Proofs.YtbpnallaifdcpaaGreatDoor
