/-
  FnPageOfWhole returns true whatever the bytes, and they read behind the call as they read before. No condition.
-/
import Derived.Test.YtmeobmegnneegaaPhJ

set_option linter.unusedSimpArgs false
set_option linter.unusedVariables false

namespace Go.Proofs.Ytmeobmegnneegaa
open Go.ChangeShapes Go.WideShapes Go.ChangeAt Go.RowKit

set_option maxRecDepth 100000 in
set_option maxHeartbeats 4000000 in
theorem pageW_lifted (os : Os) (started : os.Started) (H : Type) (enc : TypeId × Value → H) :
    ReturnsInHanded {} Try.checked os 7 .any (Rows.fnPageOfWholeSpec.pre6 enc Try.prog Try.f7 Rows.fnPageOfWholeRow.domain false) (Rows.fnPageOfWholeSpec.post enc Try.prog Try.f7 false true false false) := by
  refine returnsInHanded_of_change (C := Try.checked) Try.own started (by kernel_rfl) Try.func7
    (ChangeSpec.witness6 (enc := enc) (C := Try.checked) false ⟨#[], #[.slice none 0 0], []⟩ 12 (by kernel_rfl) (by kernel_rfl) (by kernel_rfl) (by kernel_rfl)) ?_
  intro W base args ds gs before hval0 hW hcnd _
  have hval : ∀ (j : Nat) t v, Try.f7.params[j]? = some t → args[j]? = some v → Value.okWide Try.prog W .any base t v := hval0
  have hW' := hW
  obtain ⟨p, q, hA0, hV, rfl, hfz, hnd⟩ := hW
  have hA : DataW.TrodAll enc Try.prog W 0 (fun _ => true) true Try.f7.params.toList args.toList ds p := hA0
  rw [Try.params7] at hA hval
  obtain ⟨v0, d0, rfl, rfl, h0⟩ := trodAll_one hA
  obtain ⟨rfl, rfl⟩ := trodVars_none hV
  obtain ⟨qa0, ql0, qc0, rfl⟩ := okWide_slice Try.underlying46 (hval 0 46 v0 rfl rfl)
  obtain ⟨fuel0, h0⟩ := h0
  obtain ⟨x0, hx0⟩ := rv_bytes h0
  refine (law_bytes (Eng.lawPageOfWhole_AC0 x0) W hx0).mono fun e W' ⟨he, hg⟩ => ?_
  subst he
  refine ⟨_, rfl, post_grow rfl ?_ (by kernel_rfl) rfl hW' hg⟩
  intro t ht
  rw [Try.params7] at ht
  simp at ht
  subst ht
  exact ⟨by kernel_rfl, of_decide_eq_true (by kernel_rfl)⟩

theorem pageW_named : Try.pinned.checked.prog.funcNamed Rows.fnPageOfWholeRow.func = some 7 := by kernel_rfl
theorem pageW_k1 : Rows.fnPageOfWholeRow.wf (OpenSpec.ofChange Rows.fnPageOfWholeSpec) = true := by kernel_rfl
theorem pageW_k2 : laidOutB Try.pinned.checked.prog = true := by kernel_rfl
theorem pageW_k3 : mapsRowed Try.pinned.checked.prog = true := by kernel_rfl
theorem pageW_k4 : Try.f7.params.all (Try.pinned.checked.prog.readableRec ·) = true := by kernel_rfl
theorem pageW_k5 : namedTie Try.pinned.checked.prog Rows.fnPageOfWholeRow.named Rows.fnPageOfWholeSpec.vars = true := by kernel_rfl
theorem pageW_k6 : (Rows.fnPageOfWholeRow.stops == []) = true := by kernel_rfl
theorem pageW_k7 : (Try.pinned.checked.prog.stops == []) = true := by kernel_rfl
theorem pageW_k8 : (Rows.fnPageOfWholeRow.knobs == []) = true := by kernel_rfl
theorem pageW_k9 : (Try.pinned.checked.prog.stopKnobs == []) = true := by kernel_rfl
theorem pageW_k10 : (Rows.fnPageOfWholeRow.inPlace == Try.pinned.checked.prog.inPlace 7) = true := by kernel_rfl
theorem pageW_k11 : (Rows.fnPageOfWholeRow.unfollowed == Try.pinned.checked.prog.unfollowed 7) = true := by kernel_rfl
theorem pageW_k12 : (Rows.fnPageOfWholeRow.recurses == Try.pinned.checked.prog.recurses 7) = true := by kernel_rfl
theorem pageW_k13 : (Rows.fnPageOfWholeRow.named == Try.pinned.checked.prog.varsNamed 7) = true := by kernel_rfl
theorem pageW_k14 : (Rows.fnPageOfWholeRow.maps == (Try.f7.params.toList ++ Rows.fnPageOfWholeSpec.plain.varTypes Try.pinned.checked.prog).any (Try.pinned.checked.prog.mapsRec ·)) = true := by kernel_rfl
theorem pageW_k15 : (Rows.fnPageOfWholeRow.ifaces == (Try.f7.params.toList ++ Rows.fnPageOfWholeSpec.plain.varTypes Try.pinned.checked.prog).any (Try.pinned.checked.prog.ifacesRec ·)) = true := by kernel_rfl
theorem pageW_k16 : (Rows.fnPageOfWholeRow.mapsOut == Try.pinned.checked.prog.mapsAmong Try.f7.resultTypes.toList) = true := by kernel_rfl
theorem pageW_k17 : (Rows.fnPageOfWholeRow.loops == (Try.f7.params.toList ++ Rows.fnPageOfWholeSpec.plain.varTypes Try.pinned.checked.prog).any (Try.pinned.checked.prog.loopsFrom ·)) = true := by kernel_rfl
theorem pageW_k18 : (Rows.fnPageOfWholeRow.wideKeys == (Try.f7.params.toList ++ Rows.fnPageOfWholeSpec.plain.varTypes Try.pinned.checked.prog ++ Try.f7.resultTypes.toList).any (Try.pinned.checked.prog.wideKeysFrom ·)) = true := by kernel_rfl
theorem pageW_k19 : Rows.fnPageOfWholeSpec.vars.all (Try.pinned.checked.prog.varReadable ·) = true := by kernel_rfl
theorem pageW_k20 : Try.f7.resultTypes.all (fun t => Try.pinned.checked.prog.readableRec t && decide (t < Try.pinned.checked.prog.types.size)) = true := by kernel_rfl
theorem pageW_k21 : (Rows.fnPageOfWholeRow.ifacesOut == Try.f7.resultTypes.toList.any (Try.pinned.checked.prog.ifacesRec ·)) = true := by kernel_rfl
theorem pageW_k22 : (Rows.fnPageOfWholeRow.loopsOut == Try.f7.resultTypes.toList.any (Try.pinned.checked.prog.loopsFrom ·)) = true := by kernel_rfl
theorem pageW_k23 : (Rows.fnPageOfWholeRow.plainKeys == Try.pinned.checked.prog.plainKeys) = true := by kernel_rfl
theorem pageW_k24 : Rows.fnPageOfWholeRow.shortTexts.isNone = true := by kernel_rfl
theorem pageW_k25 : Try.pinned.checked.prog.stopsHeard = true := by kernel_rfl
theorem pageW_k26 : Try.pinned.checked.prog.mayEnter = true := io_enter
theorem pageW_k27 : (Rows.fnPageOfWholeRow.lifted == Try.pinned.checked.prog.liftsFinal) = true := by
  show (false == Try.prog.liftsFinal) = true
  rw [io_lifts]; rfl
theorem pageW_k28 : (Try.pinned.checked.prog.make == some Rows.fnPageOfWholeRow.make) = true := by
  show (Try.prog.make == some Make.cut) = true
  rw [io_make]; rfl
theorem pageW_k29 : (Rows.fnPageOfWholeRow.kinds == (if Rows.fnPageOfWholeRow.domain.isEmpty then [] else Try.f7.params.toList.map fun t => match Try.pinned.checked.prog.underlying t with | some (.int k) => some k | _ => none)) = true := by kernel_rfl
theorem pageW_k30 : (Rows.fnPageOfWholeRow.pinned == Rows.fnPageOfWholeRow.pinnedBy) = true := by kernel_rfl
theorem pageW_k31 : (Rows.fnPageOfWholeRow.veiled == (Try.f7.params.toList ++ Rows.fnPageOfWholeSpec.plain.varTypes Try.pinned.checked.prog ++ Try.f7.resultTypes.toList).any (Try.pinned.checked.prog.veiledRec ·)) = true := by kernel_rfl
theorem pageW_k32 : Rows.fnPageOfWholeRow.veiledFits Try.pinned.checked.prog Try.f7.params.toList (Try.f7.params.toList ++ Rows.fnPageOfWholeSpec.plain.varTypes Try.pinned.checked.prog ++ Try.f7.resultTypes.toList) = true := by kernel_rfl
set_option maxRecDepth 100000 in
theorem pageW_facts : joinedFacts Try.pinned.checked.prog 7 Try.f7 Rows.fnPageOfWholeSpec Rows.fnPageOfWholeRow = true := joined_mk pageW_k1 pageW_k2 pageW_k3 pageW_k4 pageW_k5 pageW_k6 pageW_k7 pageW_k8 pageW_k9 pageW_k10 pageW_k11 pageW_k12 pageW_k13 pageW_k14 pageW_k15 pageW_k16 pageW_k17 pageW_k18 pageW_k19 pageW_k20 pageW_k21 pageW_k22 pageW_k23 pageW_k24 pageW_k25 pageW_k26 pageW_k27 pageW_k28 pageW_k29 pageW_k30 pageW_k31 pageW_k32
theorem pageW_inst : (Try.f7).isInstance Try.pinned.checked.prog Rows.fnPageOfWholeRow.origin Rows.fnPageOfWholeRow.targs := of_decide_eq_true (by kernel_rfl)
theorem pageW_wrap : (Try.f7).isWrapper Try.pinned.checked.prog Rows.fnPageOfWholeRow.wrapper Rows.fnPageOfWholeRow.mainSum := by unfold Func.isWrapper; first | (rw [if_pos (by decide +kernel)]; kernel_rfl) | (rw [if_neg (by decide +kernel)]; exact ⟨rfl, rfl⟩)
theorem pageW_holds : Rows.FnPageOfWholeSaid :=
  OpenClaim.holds_of_wide 7 Try.f7 rfl rfl rfl rfl rfl rfl rfl ⟨rfl, rfl, rfl, rfl, rfl⟩ rfl rfl rfl rfl rfl pageW_named Try.func7 pageW_facts pageW_inst pageW_wrap
    (fun os started H enc _ => pageW_lifted os started H enc)
#print axioms pageW_holds

end Go.Proofs.Ytmeobmegnneegaa
