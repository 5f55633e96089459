/- Closed facts. -/
import Derived.Test.YtbpnallaifdcpaaGreatDoorQA
namespace Go.Proofs.YtbpnallaifdcpaaGreatDoor
open Go
theorem qt9 (os:Os) (tape:Tape):(DataW.laidRun Tryz.prog (varsWorld Tryz.prog 400 (varsId Tryz.prog) os tape).memory 8 (qLx.map (·.1))).map (λx=>decide x.2.Nodup&&laidRowsB Tryz.prog (varsWorld Tryz.prog 400 (varsId Tryz.prog) os tape).memory x.2)=some true:=by kernel_rfl
end Go.Proofs.YtbpnallaifdcpaaGreatDoor
