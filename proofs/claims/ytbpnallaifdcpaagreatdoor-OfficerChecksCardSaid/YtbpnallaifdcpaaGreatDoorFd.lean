/- Closed facts. -/
import Derived.Test.YtbpnallaifdcpaaGreatDoorFA
namespace Go.Proofs.YtbpnallaifdcpaaGreatDoor
open Go
noncomputable def pgx (g:FuncId):List Nat:=((Tryz.pinned.checked.prog.funcs[g]?).bind (·.body)).elim [] Code.globalsNamed
noncomputable def pr (g:FuncId):Option String:=(Tryz.pinned.checked.prog.funcs[g]?).bind λfn=>if fn.body.isNone then entryReads.lookup fn.name else none
theorem g0:l0.flatMap pgx=[]:=by kernel_rfl
theorem g1:l1.flatMap pgx=[]:=by kernel_rfl
theorem g2:l2.flatMap pgx=[0,0,0,4,5,3,8,9,1]:=by kernel_rfl
theorem g3:l3.flatMap pgx=[2]:=by kernel_rfl
theorem g4:l4.flatMap pgx=[]:=by kernel_rfl
theorem g5:l5.flatMap pgx=[6,7]:=by kernel_rfl
theorem g6:l6.flatMap pgx=[]:=by kernel_rfl
theorem rr0:l0.filterMap pr=[]:=by kernel_rfl
theorem rr1:l1.filterMap pr=[]:=by kernel_rfl
theorem rr2:l2.filterMap pr=["internal/bytealg.MaxLen"]:=by kernel_rfl
theorem rr3:l3.filterMap pr=[]:=by kernel_rfl
theorem rr4:l4.filterMap pr=[]:=by kernel_rfl
theorem rr5:l5.filterMap pr=[]:=by kernel_rfl
theorem rr6:l6.filterMap pr=[]:=by kernel_rfl
theorem f_d:(Rows.officerChecksRow.named==Tryz.pinned.checked.prog.varsNamed 3)=true:=by
 rw[show Tryz.pinned.checked.prog.varsNamed 3=((((Tryz.pinned.checked.prog.closure 3).flatMap pgx).eraseDups).filterMap (λg=>(Tryz.pinned.checked.prog.globals[g]?).map (·.name))++(Tryz.pinned.checked.prog.closure 3).filterMap pr).eraseDups from rfl,flx g0 g1 g2 g3 g4 g5 g6,fmx rr0 rr1 rr2 rr3 rr4 rr5 rr6]
 kernel_rfl
end Go.Proofs.YtbpnallaifdcpaaGreatDoor
