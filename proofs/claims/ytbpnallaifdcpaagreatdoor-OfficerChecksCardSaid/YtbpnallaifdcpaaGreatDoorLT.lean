/- Closed facts. -/
import Derived.Test.YtbpnallaifdcpaaGreatDoorRows
import Derived.ProofKit
namespace Go.Proofs.YtbpnallaifdcpaaGreatDoor
open Go
theorem tNx:Tryz.pinned.checked.prog.types.size=728:=by kernel_rfl
noncomputable def rqx (q:Nat):Bool:=(List.range' (91*q) 91).all λt=>!Nat.blt t 728||rowFine Tryz.pinned.checked.prog t
theorem rqx0:rqx 0=true:=by kernel_rfl
theorem rqx1:rqx 1=true:=by kernel_rfl
theorem rqx2:rqx 2=true:=by kernel_rfl
theorem rqx3:rqx 3=true:=by kernel_rfl
theorem rqx4:rqx 4=true:=by kernel_rfl
theorem rqx5:rqx 5=true:=by kernel_rfl
theorem rqx6:rqx 6=true:=by kernel_rfl
theorem rqx7:rqx 7=true:=by kernel_rfl
theorem rqs:∀q,q<8->rqx q=true
 |0,_=>rqx0
 |1,_=>rqx1
 |2,_=>rqx2
 |3,_=>rqx3
 |4,_=>rqx4
 |5,_=>rqx5
 |6,_=>rqx6
 |7,_=>rqx7
 |n+8,h=>absurd h (by omega)
theorem laidOutT:laidOutB Tryz.pinned.checked.prog=true:=by
 unfold laidOutB
 rw[Bool.and_eq_true,Bool.and_eq_true]
 refine⟨⟨List.all_eq_true.2 λt ht=>?_,by kernel_rfl⟩,by kernel_rfl⟩
 rw[tNx]at ht
 have hl:=List.mem_range.1 ht
 have h:=List.all_eq_true.1 (rqs (t / 91) (by omega)) t (List.mem_range'.2 ⟨t % 91,by omega,by omega⟩)
 rw[show Nat.blt t 728=true from Nat.ble_eq_true_of_le hl]at h
 simpa using h
end Go.Proofs.YtbpnallaifdcpaaGreatDoor
