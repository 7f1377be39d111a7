/-
  FnPutItem returns true whatever the bytes, and they read behind the call as they read before. No condition.
-/
import Derived.Test.YtmeobmegnneegaaPjJ

set_option linter.unusedSimpArgs false
set_option linter.unusedVariables false
namespace Go.Proofs.Ytmeobmegnneegaa
open Go.ChangeShapes Go.WideShapes Go.ChangeAt Go.RowKit
set_option maxRecDepth 100000 in
set_option maxHeartbeats 4000000 in
theorem putIt_lifted (os : Os) (started : os.Started) (H : Type) (enc : TypeId × Value → H) :
    ReturnsInHanded {} Try.checked os 18 .any (Rows.fnPutItemSpec.pre6 enc Try.prog Try.f18 Rows.fnPutItemRow.domain false) (Rows.fnPutItemSpec.post enc Try.prog Try.f18 false true false false) := by
  refine returnsInHanded_of_change (C := Try.checked) Try.own started (by kernel_rfl) Try.func18
    (ChangeSpec.witness6 (enc := enc) (C := Try.checked) false ⟨#[], #[.slice none 0 0], []⟩ 12 (by kernel_rfl) (by kernel_rfl) (by kernel_rfl) (by kernel_rfl)) ?_
  intro W base args ds gs before hval0 hW hcnd _
  have hval : ∀ (j : Nat) t v, Try.f18.params[j]? = some t → args[j]? = some v → Value.okWide Try.prog W .any base t v := hval0
  have hW' := hW
  obtain ⟨p, q, hA0, hV, rfl, hfz, hnd⟩ := hW
  have hA : DataW.TrodAll enc Try.prog W 0 (fun _ => true) true Try.f18.params.toList args.toList ds p := hA0
  rw [Try.params18] at hA hval
  obtain ⟨v0, d0, rfl, rfl, h0⟩ := trodAll_one hA
  obtain ⟨rfl, rfl⟩ := trodVars_none hV
  obtain ⟨qa0, ql0, qc0, rfl⟩ := okWide_slice Try.underlying46 (hval 0 46 v0 rfl rfl)
  obtain ⟨fuel0, h0⟩ := h0
  obtain ⟨x0, hx0⟩ := rv_bytes h0
  refine (law_bytes (Eng.lawPutItem_AC0 x0) W hx0).mono fun e W' ⟨he, hg⟩ => ?_
  subst he
  refine ⟨_, rfl, post_grow rfl ?_ (by kernel_rfl) rfl hW' hg⟩
  intro t ht
  rw [Try.params18] at ht
  simp at ht
  subst ht
  exact ⟨by kernel_rfl, of_decide_eq_true (by kernel_rfl)⟩
theorem putIt_named : Try.pinned.checked.prog.funcNamed Rows.fnPutItemRow.func = some 18 := by kernel_rfl
theorem putIt_k1 : Rows.fnPutItemRow.wf (OpenSpec.ofChange Rows.fnPutItemSpec) = true := by kernel_rfl
theorem putIt_k2 : laidOutB Try.pinned.checked.prog = true := by kernel_rfl
theorem putIt_k3 : mapsRowed Try.pinned.checked.prog = true := by kernel_rfl
theorem putIt_k4 : Try.f18.params.all (Try.pinned.checked.prog.readableRec ·) = true := by kernel_rfl
theorem putIt_k5 : namedTie Try.pinned.checked.prog Rows.fnPutItemRow.named Rows.fnPutItemSpec.vars = true := by kernel_rfl
theorem putIt_k6 : (Rows.fnPutItemRow.stops == []) = true := by kernel_rfl
theorem putIt_k7 : (Try.pinned.checked.prog.stops == []) = true := by kernel_rfl
theorem putIt_k8 : (Rows.fnPutItemRow.knobs == []) = true := by kernel_rfl
theorem putIt_k9 : (Try.pinned.checked.prog.stopKnobs == []) = true := by kernel_rfl
theorem putIt_k10 : (Rows.fnPutItemRow.inPlace == Try.pinned.checked.prog.inPlace 18) = true := by kernel_rfl
theorem putIt_k11 : (Rows.fnPutItemRow.unfollowed == Try.pinned.checked.prog.unfollowed 18) = true := by kernel_rfl
theorem putIt_k12 : (Rows.fnPutItemRow.recurses == Try.pinned.checked.prog.recurses 18) = true := by kernel_rfl
theorem putIt_k13 : (Rows.fnPutItemRow.named == Try.pinned.checked.prog.varsNamed 18) = true := by kernel_rfl
theorem putIt_k14 : (Rows.fnPutItemRow.maps == (Try.f18.params.toList ++ Rows.fnPutItemSpec.plain.varTypes Try.pinned.checked.prog).any (Try.pinned.checked.prog.mapsRec ·)) = true := by kernel_rfl
theorem putIt_k15 : (Rows.fnPutItemRow.ifaces == (Try.f18.params.toList ++ Rows.fnPutItemSpec.plain.varTypes Try.pinned.checked.prog).any (Try.pinned.checked.prog.ifacesRec ·)) = true := by kernel_rfl
theorem putIt_k16 : (Rows.fnPutItemRow.mapsOut == Try.pinned.checked.prog.mapsAmong Try.f18.resultTypes.toList) = true := by kernel_rfl
theorem putIt_k17 : (Rows.fnPutItemRow.loops == (Try.f18.params.toList ++ Rows.fnPutItemSpec.plain.varTypes Try.pinned.checked.prog).any (Try.pinned.checked.prog.loopsFrom ·)) = true := by kernel_rfl
theorem putIt_k18 : (Rows.fnPutItemRow.wideKeys == (Try.f18.params.toList ++ Rows.fnPutItemSpec.plain.varTypes Try.pinned.checked.prog ++ Try.f18.resultTypes.toList).any (Try.pinned.checked.prog.wideKeysFrom ·)) = true := by kernel_rfl
theorem putIt_k19 : Rows.fnPutItemSpec.vars.all (Try.pinned.checked.prog.varReadable ·) = true := by kernel_rfl
theorem putIt_k20 : Try.f18.resultTypes.all (fun t => Try.pinned.checked.prog.readableRec t && decide (t < Try.pinned.checked.prog.types.size)) = true := by kernel_rfl
theorem putIt_k21 : (Rows.fnPutItemRow.ifacesOut == Try.f18.resultTypes.toList.any (Try.pinned.checked.prog.ifacesRec ·)) = true := by kernel_rfl
theorem putIt_k22 : (Rows.fnPutItemRow.loopsOut == Try.f18.resultTypes.toList.any (Try.pinned.checked.prog.loopsFrom ·)) = true := by kernel_rfl
theorem putIt_k23 : (Rows.fnPutItemRow.plainKeys == Try.pinned.checked.prog.plainKeys) = true := by kernel_rfl
theorem putIt_k24 : Rows.fnPutItemRow.shortTexts.isNone = true := by kernel_rfl
theorem putIt_k25 : Try.pinned.checked.prog.stopsHeard = true := by kernel_rfl
theorem putIt_k26 : Try.pinned.checked.prog.mayEnter = true := io_enter
theorem putIt_k27 : (Rows.fnPutItemRow.lifted == Try.pinned.checked.prog.liftsFinal) = true := by
  show (false == Try.prog.liftsFinal) = true
  rw [io_lifts]; rfl
theorem putIt_k28 : (Try.pinned.checked.prog.make == some Rows.fnPutItemRow.make) = true := by
  show (Try.prog.make == some Make.cut) = true
  rw [io_make]; rfl
theorem putIt_k29 : (Rows.fnPutItemRow.kinds == (if Rows.fnPutItemRow.domain.isEmpty then [] else Try.f18.params.toList.map fun t => match Try.pinned.checked.prog.underlying t with | some (.int k) => some k | _ => none)) = true := by kernel_rfl
theorem putIt_k30 : (Rows.fnPutItemRow.pinned == Rows.fnPutItemRow.pinnedBy) = true := by kernel_rfl
theorem putIt_k31 : (Rows.fnPutItemRow.veiled == (Try.f18.params.toList ++ Rows.fnPutItemSpec.plain.varTypes Try.pinned.checked.prog ++ Try.f18.resultTypes.toList).any (Try.pinned.checked.prog.veiledRec ·)) = true := by kernel_rfl
theorem putIt_k32 : Rows.fnPutItemRow.veiledFits Try.pinned.checked.prog Try.f18.params.toList (Try.f18.params.toList ++ Rows.fnPutItemSpec.plain.varTypes Try.pinned.checked.prog ++ Try.f18.resultTypes.toList) = true := by kernel_rfl
set_option maxRecDepth 100000 in
theorem putIt_facts : joinedFacts Try.pinned.checked.prog 18 Try.f18 Rows.fnPutItemSpec Rows.fnPutItemRow = true := joined_mk putIt_k1 putIt_k2 putIt_k3 putIt_k4 putIt_k5 putIt_k6 putIt_k7 putIt_k8 putIt_k9 putIt_k10 putIt_k11 putIt_k12 putIt_k13 putIt_k14 putIt_k15 putIt_k16 putIt_k17 putIt_k18 putIt_k19 putIt_k20 putIt_k21 putIt_k22 putIt_k23 putIt_k24 putIt_k25 putIt_k26 putIt_k27 putIt_k28 putIt_k29 putIt_k30 putIt_k31 putIt_k32
theorem putIt_inst : (Try.f18).isInstance Try.pinned.checked.prog Rows.fnPutItemRow.origin Rows.fnPutItemRow.targs := of_decide_eq_true (by kernel_rfl)
theorem putIt_wrap : (Try.f18).isWrapper Try.pinned.checked.prog Rows.fnPutItemRow.wrapper Rows.fnPutItemRow.mainSum := by unfold Func.isWrapper; first | (rw [if_pos (by decide +kernel)]; kernel_rfl) | (rw [if_neg (by decide +kernel)]; exact ⟨rfl, rfl⟩)
theorem putIt_holds : Rows.FnPutItemSaid :=
  OpenClaim.holds_of_wide 18 Try.f18 rfl rfl rfl rfl rfl rfl rfl ⟨rfl, rfl, rfl, rfl, rfl⟩ rfl rfl rfl rfl rfl putIt_named Try.func18 putIt_facts putIt_inst putIt_wrap
    (fun os started H enc _ => putIt_lifted os started H enc)
#print axioms putIt_holds
end Go.Proofs.Ytmeobmegnneegaa
