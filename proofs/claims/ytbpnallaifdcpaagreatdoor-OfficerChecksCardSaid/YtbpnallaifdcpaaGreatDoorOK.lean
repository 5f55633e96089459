/- Proved: the card of OfficerChecks: for any setup the law returns true and leaves its argument as it was; its conditions: none beyond the row's own (the listed package-level variables start as the program's text lays them). -/
import Derived.Test.YtbpnallaifdcpaaGreatDoorCards
import Derived.ProofKit
import Derived.OpenShut
import Derived.Deep.DeepHandedRow
import Derived.Deep.DeepWitnessRowRef
import Derived.Lib.LaidTab
import Derived.Lib.LaidU8
import Derived.Lib.ItoaNum
import Derived.LaidSub
import Derived.SevenTiedAt
import Derived.Test.YtbpnallaifdcpaaGreatDoorEc
import Derived.Test.YtbpnallaifdcpaaGreatDoorOS3
import Derived.Test.YtbpnallaifdcpaaGreatDoorQB
import Derived.Test.YtbpnallaifdcpaaGreatDoorQC
import Derived.Test.YtbpnallaifdcpaaGreatDoorQD
import Derived.Test.YtbpnallaifdcpaaGreatDoorFF
import Derived.Test.YtbpnallaifdcpaaGreatDoorMA
import Derived.Test.YtbpnallaifdcpaaGreatDoorZo
import Derived.Test.YtbpnallaifdcpaaGreatDoorZp
set_option linter.unusedVariables false
set_option linter.unusedSimpArgs false
set_option maxRecDepth 100000
set_option maxHeartbeats 8000000
namespace Go.Proofs.YtbpnallaifdcpaaGreatDoor
open Go Go.ChangeShapes Go.WideShapes Go.ChangeAt Go.RowKit
theorem own:ownKnob Tryz.prog.godebug=none:=by kernel_rfl
theorem gPow:Tryz.prog.globalNamed "internal/strconv.uint64pow10"=some 3:=by kernel_rfl
theorem gLast:Tryz.prog.globalNamed "math/bits.deBruijn64tab"=some 9:=by kernel_rfl
def db:List Int:=[0,1,56,2,57,49,28,3,61,58,42,50,38,29,17,4,62,47,59,36,45,43,51,22,53,39,33,30,24,18,12,5,63,55,48,27,60,41,37,16,46,35,44,21,52,32,23,11,54,26,40,15,34,20,31,10,25,14,19,9,13,8,7,6]
noncomputable def laidWorld (os:Os):World:=
 let N:=(World.settled Tryz.prog os).heap.size
 let w0:=World.holding Tryz.prog os ⟨#[.cells #[.string ⟨#[105,110,118,97,108,105,100,32,115,121,110,116,97,120]⟩] 613, .cells #[.string ⟨#[118,97,108,117,101,32,111,117,116,32,111,102,32,114,97,110,103,101]⟩] 613, .cells #[.string ⟨#[116,111,111,32,102,97,114]⟩] 613, .cells #[.string ⟨#[105,116,32,100,111,101,115,32,110,111,116,32,99,111,109,101,32,100,111,119,110]⟩] 613],#[],[]⟩
 let put (h:Array Obj) (g:Nat) (cs:Array Value):Array Obj:=h.modify g λ
  | .cells _ t frozen=> .cells cs t frozen
  |o=>o
 let h0:=put (put (put (put w0.heap 1 #[.iface 611 (.pointer (some ⟨N+0,0,none⟩))]) 2 #[.iface 611 (.pointer (some ⟨N+1,0,none⟩))]) 6 #[.iface 611 (.pointer (some ⟨N+2,0,none⟩))]) 7 #[.iface 611 (.pointer (some ⟨N+3,0,none⟩))]
 let h1:=put h0 4 (Lib.firstTab.map λz=>Value.int .u8 z).toArray
 let h2:=put h1 5 ((List.range 16).flatMap λi=>[Value.int .u8 (Lib.accLo i),Value.int .u8 (Lib.accHi i)]).toArray
 let h3:=put h2 3 (Lib.pow10Tab.map λz=>Value.int .u64 z).toArray
 let h4:=put h3 8 (([0,1,28,2,29,14,24,3,30,22,20,15,25,17,4,8,31,27,13,23,21,19,16,7,26,12,18,6,11,5,10,9]:List Int).map λz=>Value.int .u8 z).toArray
 let h5:=put h4 9 (db.map λz=>Value.int .u8 z).toArray
 {w0 with heap:=h5}
noncomputable def tabs:List (Nat×List Ev.AV):=[(3,tab)]
theorem tabs_intro {W:World} (h1:Lib.TabIs Tryz.prog W "internal/strconv.uint64pow10" .u64 Lib.pow10Tab) {k:IntKind} {zs:List Int} (h2:Lib.TabIs Tryz.prog W "math/bits.deBruijn64tab" k zs):Ev.Tabs Tryz.prog tabs W:=by
 unfold Lib.TabIs World.var? at h1 h2
 rw[gPow]at h1
 rw[gLast]at h2
 simp only[Option.bind_some]at h1 h2
 refine⟨?_,?_⟩
 ·split at h2
  ·rename_i cs t fr hc
   rw[show Tryz.prog.globals.size=10 by kernel_rfl]
   rcases Nat.lt_or_ge 9 W.heap.size with h|h
   ·exact h
   ·rw[Array.getElem?_eq_none h]at hc;cases hc
  ·cases h2
 ·intro p hp
  obtain rfl:p=(3,tab):=by simpa[tabs]using hp
  refine⟨by rw[show Tryz.prog.globals.size=10 by kernel_rfl];decide,?_⟩
  split at h1
  ·rename_i cs t fr hc
   injection h1 with h1
   refine⟨_,t,fr,by rw[hc,h1],λρ=>Ev.VRs.mkVal ρ _⟩
  ·cases h1
theorem tabs_checks {W:World} (h:laidMetH Tryz.prog Rows.officerChecksRow.laid W):Ev.Tabs Tryz.prog tabs W:=by
 have h1:=h.filter (λp=>p.1== "internal/strconv.uint64pow10")
 have h2:laidMetH Tryz.prog [("internal/strconv.uint64pow10",Rows.laid_internal_strconv_uint64pow10)] W:=h1
 have h3:=h.filter (λp=>p.1== "math/bits.deBruijn64tab")
 have h4:laidMetH Tryz.prog [("math/bits.deBruijn64tab",Rows.laid_math_bits_deBruijn64tab)] W:=h3
 exact tabs_intro (Lib.tabIs_of_head (rest:=[]) gPow (t:=550) (by kernel_rfl) Tryz.underlying550 Tryz.underlying190 (by kernel_rfl) (by kernel_rfl) h2)
  (Lib.tabIs_of_head (k:= .u8) (zs:=db) (rest:=[]) gLast (t:=659) (by kernel_rfl) Tryz.underlying659 Tryz.underlying5 (by kernel_rfl) (by kernel_rfl) h4)
theorem laid_checks (os:Os) (args:Array Value):laidMet Tryz.prog Rows.officerChecksRow.laid ((laidWorld os).forCall (λ_ _=>0) ⟨#[],args,[]⟩).memory:=
 laidMet_of_run' 8 (by kernel_rfl) (by kernel_rfl)
section
variable {H:Type} {enc:TypeId×Value->H} {P:Program}
theorem post_of_below {f:Func} {s:ChangeSpec} {apart fresh handsOn again:Bool} {W W':World} {args:Array Value} {v:Value} {ds gs:List (DataW H)} {before pa pv:List MemPlace}
  (hW:DataW.Whole enc P f.params.toList s.vars apart W args.toList ds gs before)
  (hres:∀(b:Nat) (sp:Nat->Bool) (hd:Bool),DataW.TrodAll enc P W' b sp hd f.resultTypes.toList (v.resultList f.resultTypes.size) (s.fn H (ds++gs)).results [])
  (hargs:∀sp:Nat->Bool,(∀p∈before,sp p.block=true)->DataW.TrodAll enc P W' 0 sp true f.params.toList args.toList (s.fn H (ds++gs)).args pa)
  (hvars:∀sp:Nat->Bool,(∀p∈before,sp p.block=true)->DataW.TrodVars enc P W' sp s.vars (s.fn H (ds++gs)).vars pv)
  (hps:before=pa++pv) (hb:Below W.heap.size W W')
  (hok:∀(j:Nat) (t:TypeId) (r:Value),f.resultTypes[j]?=some t->(v.resultList f.resultTypes.size)[j]?=some r->Value.okWide P W' .any 0 t r):
  s.post enc P f apart fresh handsOn again W args v W':=by
 have hlt:∀p∈before,p.block<W.heap.size:=λp hp=>hW.lt p hp
 have hold:∀p∈before,(λb=>decide (b<W.heap.size)) p.block=true:=λp hp=>by simpa using hlt p hp
 refine⟨ds,gs,before,[],pa,pv,hW,hres _ _ _,hargs _ hold,hvars _ hold,World.keptBut_mono (λp hp=>⟨hp,?_⟩) (hb.frame (·∈before)),λ_=>?_⟩
 ·rw[hps,List.mem_append]at hp
  exact Or.inr hp
 ·obtain⟨_,_,_,_,_,hz,hn⟩:=hW
  refine⟨hok,_,_,([]++pa)++pv,⟨[]++pa,pv,trodAll_append (hargs _ (λ_ _=>rfl)) (hres _ _ _),hvars _ (λ_ _=>rfl),rfl,?_,?_⟩,?_⟩
  ·intro b off hp
   have hin:MemPlace.cell b off∈before:=by rw[hps];simpa using hp
   rw[hb.frozen (hlt _ hin)]
   exact hz b off hin
  ·intro ha
   have:=hn ha
   rw[hps]at this
   simpa using this
  ·intro p hp _
   rw[hps]
   simpa using hp
end
theorem awake_known (W:World) (ht:Ev.Tabs Tryz.prog tabs W):Calls Tryz.prog 9 #[] W λe W'=>e= .returned (.bool true)/\Below W.heap.size W W':=
 Ev.run_closed (D:=Ev.planOK) (E:=E0 (Ev.ghOf W)) rfl ht (ok51 _) rfl (v:= .bool true) rfl rfl rfl (by kernel_rfl)
theorem owntie:Tryz.prog.laidByTextLater qLx qKx true:=
 Program.laidByTextLater_by_run 400 8 qt1 qt2 qt3 qt4 qt5 qt6 qt7 qt8 qt9
theorem fits1:Tryz.pinned.checked.prog.listedFits Rows.officerChecksRow.laid=true:=by
 unfold Program.listedFits
 rw[m_o]
 kernel_rfl
theorem row_tie:Rows.officerChecksRow.laidByTextAt .later Tryz.pinned [.pinned, .data, .data, .data, .data, .sentinel, .sentinel, .sentinel, .sentinel] true:=
 OpenClaim.laidByTextAt_pinned rfl rfl owntie rfl rfl rfl rfl (λy hy _e=>by
  simp only[Rows.officerChecksRow,List.zip_cons_cons,List.zip_nil_right,List.mem_cons,List.mem_nil_iff,or_false]at hy
  rcases hy with rfl|rfl|rfl|rfl|rfl|rfl|rfl|rfl|rfl
  ·exact⟨m_p,by kernel_rfl⟩
  all_goals cases _e) fits1
namespace OfficerChecks
theorem contract (H:Type) (enc:TypeId×Value->H) (W:World) (base:Nat) (args:Array Value) (ds gs:List (DataW H)) (before:List MemPlace)
  (hval:∀(j:Nat) t v,Tryz.f3.params[j]?=some t->args[j]?=some v->Value.okWide Tryz.prog W .any base t v)
  (hW:DataW.Whole enc Tryz.prog Tryz.f3.params.toList Rows.officerChecksSpec.vars false W args.toList ds gs before) (hZ:(DataW.weightsEach Tryz.prog (Tryz.f3.params.toList++(OpenSpec.ofChange Rows.officerChecksSpec).bare.plain.varTypes Tryz.prog) (ds++gs)).all (·<=reachBytes)=true) (hL:laidMetH Tryz.prog Rows.officerChecksRow.laid W):
  Calls Tryz.prog 3 args W λe W'=>∃v,e= .returned v/\Rows.officerChecksSpec.post enc Tryz.prog Tryz.f3 false true false false W args v W':=by
 have hW':=hW
 obtain⟨p,q,hA0,hV,rfl,hfz,hnd⟩:=hW
 have hA:DataW.TrodAll enc Tryz.prog W 0 (λ_=>true) true Tryz.f3.params.toList args.toList ds p:=hA0
 rw[Tryz.params3]at hA hval hZ
 obtain⟨v0,d0,rfl,rfl,h0⟩:=trodAll_one hA
 obtain⟨rfl,rfl⟩:=trodVars_none hV
 obtain⟨D,rfl,hD⟩:=ut (hval 0 68 v0 rfl rfl) h0 (B:=reachBytes) (λn hn=>by simpa using List.all_eq_true.1 hZ n (fK (j:=0) rfl rfl hn)) (by unfold reachBytes;omega)
 have ht:=tabs_checks hL
 refine(uB D W hD (λW' hb=>awake_known W' (ht.below hb))).mono λe W' ⟨he,hb⟩=>?_
 subst he
 refine⟨_,rfl,post_of_below (pa:=p) (pv:=[]) hW' (λb sp hd=>?_) (λsp hsp=>?_) (λsp _=>rfl) (by simp) hb ?_⟩
 ·exact trodAll_mk1 (shut_bool Tryz.underlying4 _)
 ·exact trodAll_mk1 (WideElems.Trod_stays laidOutT (by kernel_rfl) (of_decide_eq_true (by kernel_rfl)) h0 (λx hx=>hb.same (hW'.lt x (by simp[hx]))) (λx hx=>hsp x (by simp[hx])))
 ·exact ok_one rfl rfl (okWide_bool_mk Tryz.underlying4 _)
noncomputable def zv:Value:=match (Tryz.prog.info? 68).bind (·.zero)with|some v=>v|none=> .bool false
theorem reads (os:Os) {H:Type} (enc:TypeId×Value->H):(DataW.whole enc Tryz.prog ((laidWorld os).forCall (λ_ _=>0) ⟨#[],#[zv],[]⟩).memory Tryz.f3.params.toList Rows.officerChecksSpec.vars false (#[zv]:Array Value).toList 8).isSome=true:=
 by kernel_rfl
theorem lifted (os:Os) (started:os.Started) (H:Type) (enc:TypeId×Value->H) (F:Stop.Interp):
  ReturnsInHanded {} Tryz.checked os 3 .any ((OpenSpec.ofChange Rows.officerChecksSpec).preRow enc Tryz.prog Tryz.f3 Rows.officerChecksRow.domain false Rows.officerChecksRow.laid) (((OpenSpec.ofChange Rows.officerChecksSpec).at F).post enc Tryz.prog Tryz.f3 false true false false):=by
 obtain⟨x,hx⟩:=Option.isSome_iff_exists.1 (reads os enc)
 refine returnsInHanded_of_row (C:=Tryz.checked) (s:=OpenSpec.ofChange Rows.officerChecksSpec) own started (by kernel_rfl) Tryz.func3
  (witness_row_atRef (enc:=enc) (C:=Tryz.checked) false (laidWorld os) #[zv] rfl (by kernel_rfl) (by kernel_rfl) (by kernel_rfl)
   (OpenSpec.preRow_of_cond 8 hx rfl (λk hk=>by cases hk) (by kernel_rfl) (laid_checks os _))) ?_
 intro W base args ds gs before hval hW _ _ hZ hL _ _
 exact contract H enc W base args ds gs before hval hW hZ hL
theorem said:Rows.OfficerChecksSaid:=
 OpenClaim.holds_of_cond 3 Tryz.f3 rfl rfl rfl rfl rfl rfl rfl ⟨rfl,rfl,rfl,rfl,rfl⟩ rfl rfl rfl rfl rfl (by as_aux_lemma=>kernel_rfl) Tryz.func3 facts
  (of_decide_eq_true (by as_aux_lemma=>kernel_rfl)) (by unfold Func.isWrapper;first|(rw[if_pos (by decide+kernel)];kernel_rfl)|(rw[if_neg (by decide+kernel)];exact⟨rfl,rfl⟩))
  (λos started H enc _ F=>by rw[OpenClaim.pre_eq_preRow];exact lifted os started H enc F)
theorem plain (f:FuncId) (fn:Func) (hf:Tryz.pinned.checked.prog.funcNamed Rows.officerChecksRow.func=some f) (hfn:Tryz.pinned.checked.prog.funcs[f]?=some fn):
  true=Tryz.pinned.checked.prog.looks []/\∀(j:Nat) t,fn.params[j]?=some t->Tryz.pinned.checked.prog.wantsStandIn t=false:=by
 obtain rfl:f=3:=Option.some.inj ((show Tryz.prog.funcNamed "hangfire/hangfirelaw12.OfficerChecks"=some 3 by kernel_rfl).symm.trans hf) |>.symm
 obtain rfl:fn=Tryz.f3:=(Option.some.inj (Tryz.func3.symm.trans hfn)).symm
 refine⟨m_d,λj t ht=>?_⟩
 rw[Tryz.params3]at ht
 rcases j with _|j
 ·simp at ht;rw[<-ht];exact m_s
 ·simp at ht
theorem card:Rows.OfficerChecksCardSaid:=
 Claim7.holds_tied_plain_at .later [] _ _ _ _ said (λ_ h=>by cases h) m_a (λ_ h=>by cases h) row_tie rfl ⟨rfl,rfl⟩ m_b rfl plain (goesAt_none Rows.officerChecksRow.func).symm
end OfficerChecks
end Go.Proofs.YtbpnallaifdcpaaGreatDoor
