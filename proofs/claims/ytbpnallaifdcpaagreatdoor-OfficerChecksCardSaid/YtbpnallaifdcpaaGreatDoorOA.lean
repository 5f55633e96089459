/- Closed facts. -/
import Derived.Test.YtbpnallaifdcpaaGreatDoorProg
import Derived.Test.YtbpnallaifdcpaaGreatDoorEc
import Derived.KernelRfl
set_option linter.unusedVariables false
set_option linter.unusedSimpArgs false
set_option maxRecDepth 100000
set_option maxHeartbeats 8000000
namespace Go.Proofs.YtbpnallaifdcpaaGreatDoor
open Go Tryz Ev
noncomputable def fnM:Nat:=0x3f038001c07ffe0147c000000400fffe7bdfc0003802fcffdffe59ffe01c700e0ff81f9ff7fe7ff01b4f94e7d036efffff800007787fffbe3fff8000003f86f9ff981ffff001c7f0fe80
noncomputable def fnB (f:Nat):Bool:=Nat.blt f 600&&Nat.testBit fnM f
noncomputable def E0 (gh:Nat->Obj):Env:=⟨prog,λt=>tiOf prog t,λf=>bif fnB f then prog.funcs[f]? else none,λ_=>none,gh⟩
theorem fn_of {gh:Nat->Obj} {f:Nat} {fn:Func} (h:(E0 gh).fn f=some fn):fnB f=true/\prog.funcs[f]?=some fn:=by
 have h:(bif fnB f then prog.funcs[f]? else none)=some fn:=h
 cases e:fnB f
 ·rw[e]at h;cases h
 ·rw[e]at h;exact⟨rfl,h⟩
theorem fn_name:prog.funcs.all (λp=>!(p.name== "runtime.NumGoroutine"))=true:=by kernel_rfl
theorem e0_ok (gh:Nat->Obj):EOK (E0 gh) where
 ty t ti h:=tiOf_ok h
 fn f fn h:=(fn_of h).2
 name f fn h:=by
  have h:=(fn_of h).2
  have:=Array.all_eq_true_iff_forall_mem.1 fn_name fn (Array.mem_of_getElem? h)
  simpa using this
theorem e0_mix (gh:Nat->Obj):(E0 gh).P.follows .mixedOrders=true:=by kernel_rfl
noncomputable def gf (fn:Func):Bool:=match fn.body with|some c=>goodC planOK 10 fn.ntmps c|none=>true
noncomputable def gq (q:Nat):Bool:=(List.range' (15*q) 15).all λf=>!fnB f||(match prog.funcs[f]? with|some fn=>gf fn|none=>true)
theorem gq0:gq 0=true:=by kernel_rfl
theorem gq1:gq 1=true:=by kernel_rfl
theorem gq2:gq 2=true:=by kernel_rfl
theorem gq3:gq 3=true:=by kernel_rfl
theorem gq4:gq 4=true:=by kernel_rfl
theorem gq5:gq 5=true:=by kernel_rfl
theorem gq6:gq 6=true:=by kernel_rfl
theorem gq7:gq 7=true:=by kernel_rfl
theorem gq8:gq 8=true:=by kernel_rfl
theorem gq9:gq 9=true:=by kernel_rfl
theorem gq10:gq 10=true:=by kernel_rfl
theorem gq11:gq 11=true:=by kernel_rfl
theorem gq12:gq 12=true:=by kernel_rfl
theorem gq13:gq 13=true:=by kernel_rfl
theorem gq14:gq 14=true:=by kernel_rfl
theorem gq15:gq 15=true:=by kernel_rfl
theorem gq16:gq 16=true:=by kernel_rfl
theorem gq17:gq 17=true:=by kernel_rfl
theorem gq18:gq 18=true:=by kernel_rfl
theorem gq19:gq 19=true:=by kernel_rfl
theorem gq20:gq 20=true:=by kernel_rfl
theorem gq21:gq 21=true:=by kernel_rfl
theorem gq22:gq 22=true:=by kernel_rfl
theorem gq23:gq 23=true:=by kernel_rfl
theorem gq24:gq 24=true:=by kernel_rfl
theorem gq25:gq 25=true:=by kernel_rfl
theorem gq26:gq 26=true:=by kernel_rfl
theorem gq27:gq 27=true:=by kernel_rfl
theorem gq28:gq 28=true:=by kernel_rfl
theorem gq29:gq 29=true:=by kernel_rfl
theorem gq30:gq 30=true:=by kernel_rfl
theorem gq31:gq 31=true:=by kernel_rfl
theorem gq32:gq 32=true:=by kernel_rfl
theorem gq33:gq 33=true:=by kernel_rfl
theorem gq34:gq 34=true:=by kernel_rfl
theorem gq35:gq 35=true:=by kernel_rfl
theorem gq36:gq 36=true:=by kernel_rfl
theorem gq37:gq 37=true:=by kernel_rfl
theorem gq38:gq 38=true:=by kernel_rfl
theorem gq39:gq 39=true:=by kernel_rfl
theorem gqs:∀q,q<40->gq q=true
 |0,_=>gq0
 |1,_=>gq1
 |2,_=>gq2
 |3,_=>gq3
 |4,_=>gq4
 |5,_=>gq5
 |6,_=>gq6
 |7,_=>gq7
 |8,_=>gq8
 |9,_=>gq9
 |10,_=>gq10
 |11,_=>gq11
 |12,_=>gq12
 |13,_=>gq13
 |14,_=>gq14
 |15,_=>gq15
 |16,_=>gq16
 |17,_=>gq17
 |18,_=>gq18
 |19,_=>gq19
 |20,_=>gq20
 |21,_=>gq21
 |22,_=>gq22
 |23,_=>gq23
 |24,_=>gq24
 |25,_=>gq25
 |26,_=>gq26
 |27,_=>gq27
 |28,_=>gq28
 |29,_=>gq29
 |30,_=>gq30
 |31,_=>gq31
 |32,_=>gq32
 |33,_=>gq33
 |34,_=>gq34
 |35,_=>gq35
 |36,_=>gq36
 |37,_=>gq37
 |38,_=>gq38
 |39,_=>gq39
 |n+40,h=>absurd h (by omega)
theorem e0_body (gh:Nat->Obj):BodyOK planOK (E0 gh):=by
 intro f fn c hf hc
 obtain⟨h1,h2⟩:=fn_of hf
 have hlt:f<600:=Nat.le_of_ble_eq_true (Bool.and_eq_true_iff.1 h1).1
 have h:=List.all_eq_true.1 (gqs (f / 15) (by omega)) f (List.mem_range'.2 ⟨f % 15,by omega,by omega⟩)
 rw[h1,h2]at h
 simp only[Bool.not_true,Bool.false_or]at h
 unfold gf at h
 rw[hc]at h
 have e:prog.globals.size=10:=by kernel_rfl
 show goodC planOK prog.globals.size fn.ntmps c=true
 rw[e]
 exact h
end Go.Proofs.YtbpnallaifdcpaaGreatDoor
