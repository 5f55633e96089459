/- Closed facts. -/
import Derived.Test.YtbpnallaifdcpaaGreatDoorRows
import Derived.LaidByTextLater
import Derived.SevenTiedAt
namespace Go.Proofs.YtbpnallaifdcpaaGreatDoor
open Go
noncomputable def qLx:List (String×DataW Unit):=Rows.officerChecksRow.laid.tail
noncomputable def qKx:List LaidKind:=[.data, .data, .data, .data, .sentinel, .sentinel, .sentinel, .sentinel]
theorem qt1:Tryz.prog.worded (varsWordLater true)=true:=by kernel_rfl
theorem qt2:Tryz.prog.worded (varsWordLater !true)=false:=by kernel_rfl
theorem qt3:Tryz.prog.worded rootWordLater=true:=by kernel_rfl
theorem qt4:qLx.map (λx=>Tryz.prog.kindOfLater x.1)=qKx.map some:=by kernel_rfl
theorem qt5:(Tryz.prog.funcNamed "gosem.cut.vars").isSome=true:=by kernel_rfl
theorem qt6:varsNamedLaterB Tryz.prog (varsId Tryz.prog) qLx=true:=by kernel_rfl
end Go.Proofs.YtbpnallaifdcpaaGreatDoor
