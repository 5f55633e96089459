/- Closed facts. -/
import Derived.Test.YtbpnallaifdcpaaGreatDoorOS0
namespace Go.Proofs.YtbpnallaifdcpaaGreatDoor
open Go Tryz Ev
theorem ok0 (gh:Nat->Obj):CallF planOK (E0 gh) me0:=sgx (l:=[]) trivial (by kernel_rfl)
theorem ok1 (gh:Nat->Obj):CallF planOK (E0 gh) me1:=sgx (l:=[]) trivial (by kernel_rfl)
theorem ok42 (gh:Nat->Obj):CallF planOK (E0 gh) me42:=sgx (l:=mma++mmb) (alla (oka gh) (okb gh)) (by kernel_rfl)
theorem ok43 (gh:Nat->Obj):CallF planOK (E0 gh) me43:=sgx (l:=mma++mmb) (alla (oka gh) (okb gh)) (by kernel_rfl)
end Go.Proofs.YtbpnallaifdcpaaGreatDoor
