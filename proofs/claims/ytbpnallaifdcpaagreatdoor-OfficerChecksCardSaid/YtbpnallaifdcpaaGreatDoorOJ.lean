/- Closed facts. -/
import Derived.Shelf.Strings.OnBuilder
import Derived.Test.YtbpnallaifdcpaaGreatDoorProg
import Derived.Test.YtbpnallaifdcpaaGreatDoorEc
import Derived.Test.YtbpnallaifdcpaaGreatDoorOA
set_option linter.unusedVariables false
set_option linter.unusedSimpArgs false
set_option maxRecDepth 100000
set_option maxHeartbeats 8000000
namespace Go.Proofs.YtbpnallaifdcpaaGreatDoor
open Go Tryz Ev Go.Shelf
def jrn:Ren:=⟨λ|156=>68|165=>142|166=>143|169=>144|240=>253|241=>254|276=>352|277=>353|n=>n,λ|31=>52|72=>260|76=>255|70=>258|37=>257|75=>254|127=>355|164=>469|80=>262|n=>n,λ|n=>n⟩
theorem jln:Go.Proofs.Lays.n156 prog jrn:=by constructor<;>first|kernel_rfl|(intro w;kernel_rfl)
theorem jxn:Builder.Extra prog jrn:=by constructor<;>first|kernel_rfl|(intro w;kernel_rfl)|(constructor<;>first|kernel_rfl|(intro w;kernel_rfl)|decide)|decide
noncomputable def joinC:List (Nat×gE):=[(68,kV)]
theorem joinC_ok (gh:Nat->Obj):jt planOK (E0 gh) joinC:=⟨join_plug (E:=E0 gh) (f:=68) (λbk o c xs sep w h1 h2 h3 h4 h5=>Any.strings_Join jln jxn bk o c xs sep w h1 h2 h3 h4 h5),trivial⟩
end Go.Proofs.YtbpnallaifdcpaaGreatDoor
