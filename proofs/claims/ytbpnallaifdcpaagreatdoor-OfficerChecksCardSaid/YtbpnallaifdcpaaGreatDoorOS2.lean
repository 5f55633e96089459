/- Closed facts. -/
import Derived.Test.YtbpnallaifdcpaaGreatDoorOS1
namespace Go.Proofs.YtbpnallaifdcpaaGreatDoor
open Go Tryz Ev
theorem ok44 (gh:Nat->Obj):CallF planOK (E0 gh) me44:=sgx (l:=[]) trivial (by kernel_rfl)
theorem ok45 (gh:Nat->Obj):CallF planOK (E0 gh) me45:=sgx (l:=[me42,me43,me44]) ⟨ok42 gh,ok43 gh,ok44 gh,trivial⟩ (by kernel_rfl)
theorem ok46 (gh:Nat->Obj):CallF planOK (E0 gh) me46:=sgx (l:=[me42]) ⟨ok42 gh,trivial⟩ (by kernel_rfl)
theorem ok47 (gh:Nat->Obj):CallF planOK (E0 gh) me47:=sgx (l:=[me42,me43,me44]) ⟨ok42 gh,ok43 gh,ok44 gh,trivial⟩ (by kernel_rfl)
theorem ok48 (gh:Nat->Obj):CallF planOK (E0 gh) me48:=sgx (l:=[me42,me43,me44]) ⟨ok42 gh,ok43 gh,ok44 gh,trivial⟩ (by kernel_rfl)
theorem ok49 (gh:Nat->Obj):CallF planOK (E0 gh) me49:=sgx (l:=[me42,me43,me44]) ⟨ok42 gh,ok43 gh,ok44 gh,trivial⟩ (by kernel_rfl)
end Go.Proofs.YtbpnallaifdcpaaGreatDoor
