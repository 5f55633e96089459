/- Closed facts. -/
import Derived.Test.YtbpnallaifdcpaaGreatDoorFA
namespace Go.Proofs.YtbpnallaifdcpaaGreatDoor
open Go
noncomputable def pa (g:FuncId):Option String:=(Tryz.pinned.checked.prog.funcs[g]?).bind λfn=>if fn.ours||fn.body.isNone||fn.name== "runtime.NumGoroutine" then some fn.name else none
theorem a0:l0.filterMap pa=[]:=by kernel_rfl
theorem a1:l1.filterMap pa=[]:=by kernel_rfl
theorem a2:l2.filterMap pa=["internal/bytealg.IndexByteString", "internal/bytealg.IndexString"]:=by kernel_rfl
theorem a3:l3.filterMap pa=[]:=by kernel_rfl
theorem a4:l4.filterMap pa=["internal/abi.NoEscape", "internal/bytealg.MakeNoZero"]:=by kernel_rfl
theorem a5:l5.filterMap pa=[]:=by kernel_rfl
theorem a6:l6.filterMap pa=[]:=by kernel_rfl
theorem f_a:(Rows.officerChecksRow.inPlace==Tryz.pinned.checked.prog.inPlace 3)=true:=by
 rw[show Tryz.pinned.checked.prog.inPlace 3=_ from fmx (p:=pa) a0 a1 a2 a3 a4 a5 a6]
 kernel_rfl
end Go.Proofs.YtbpnallaifdcpaaGreatDoor
