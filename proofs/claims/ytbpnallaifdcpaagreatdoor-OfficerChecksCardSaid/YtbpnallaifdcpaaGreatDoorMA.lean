/- Closed facts. -/
import Derived.Test.YtbpnallaifdcpaaGreatDoorCards
import Derived.ProofKit
import Derived.SevenTiedAt
namespace Go.Proofs.YtbpnallaifdcpaaGreatDoor
open Go
theorem m_a:Rows.officerChecksRow.wfByText (OpenSpec.ofChange Rows.officerChecksSpec)=true:=by kernel_rfl
theorem m_b:Tryz.pinned.checked.prog.mainIs=some (true, "f1dc77c4b430613cc18bdd12e30b0545b6de461f711e4dcf6703792e3e3a34ed".toList):=by kernel_rfl
theorem m_d:true=Tryz.pinned.checked.prog.looks []:=by kernel_rfl
theorem m_s:Tryz.pinned.checked.prog.wantsStandIn 68=false:=by kernel_rfl
theorem m_p:Tryz.pinned.checked.prog.pinnedFits "unicode/utf8.first"=true:=by kernel_rfl
theorem m_o:Tryz.pinned.checked.prog.headLifts.contains "ownunsafe"=false:=by kernel_rfl
theorem funcs_goes:Tryz.prog.funcs.any Func.goes=false:=by kernel_rfl
theorem goes_none (f:FuncId):Tryz.prog.goes f=false:=by
 unfold Program.goes
 rw[funcs_goes,Bool.and_false,Bool.or_false,List.any_eq_false]
 intro g _
 cases h:Tryz.prog.funcs[g]? with
 |none=>simp
 |some fn=>
  have h2:=Array.any_eq_false.1 funcs_goes g (Array.getElem?_eq_some_iff.1 h).1
  rw[(Array.getElem?_eq_some_iff.1 h).2]at h2
  simpa using h2
theorem goesAt_none (func:String):Tryz.prog.goesAt .entering func=false:=by
 unfold Program.goesAt Program.goesFrom
 cases Tryz.prog.funcNamed func with
 |none=>rw[Option.any_none,Bool.false_or]
 |some f=>rw[Option.any_some,goes_none,Bool.false_or]
end Go.Proofs.YtbpnallaifdcpaaGreatDoor
