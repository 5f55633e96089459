/- Closed facts. -/
import Derived.Test.YtbpnallaifdcpaaGreatDoorFa
import Derived.Test.YtbpnallaifdcpaaGreatDoorFd
import Derived.Test.YtbpnallaifdcpaaGreatDoorLT
import Derived.Test.YtbpnallaifdcpaaGreatDoorLM
set_option linter.unusedVariables false
set_option linter.unusedSimpArgs false
set_option maxRecDepth 100000
set_option maxHeartbeats 8000000
namespace Go.Proofs.YtbpnallaifdcpaaGreatDoor
open Go
theorem facts:joinedFacts Tryz.pinned.checked.prog 3 Tryz.f3 (OpenSpec.ofChange Rows.officerChecksSpec).bare Rows.officerChecksRow=true:=by
 unfold joinedFacts
 simp only[Bool.and_eq_true]
 repeat' (refine And.intro ?_ ?_)
 all_goals(first|(with_reducible exact f_a)|(with_reducible exact f_b)|(with_reducible exact f_c)|(with_reducible exact f_d)|(with_reducible exact laidOutT)|(with_reducible exact mapsT)|(as_aux_lemma=>kernel_rfl))
end Go.Proofs.YtbpnallaifdcpaaGreatDoor
