/- Closed facts. -/
import Derived.Test.YtbpnallaifdcpaaGreatDoorOS2
namespace Go.Proofs.YtbpnallaifdcpaaGreatDoor
open Go Tryz Ev
theorem ok50 (gh:Nat->Obj):CallF planOK (E0 gh) me50:=sgx (l:=[me0,me1,me45,me46,me47,me48,me49]) ⟨ok0 gh,ok1 gh,ok45 gh,ok46 gh,ok47 gh,ok48 gh,ok49 gh,trivial⟩ (by kernel_rfl)
theorem ok51 (gh:Nat->Obj):CallF planOK (E0 gh) me51:=sgx (l:=[me50,me1,me0]) ⟨ok50 gh,ok1 gh,ok0 gh,trivial⟩ (by kernel_rfl)
end Go.Proofs.YtbpnallaifdcpaaGreatDoor
