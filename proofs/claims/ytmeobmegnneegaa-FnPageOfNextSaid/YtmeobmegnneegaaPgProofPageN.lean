/-
  FnPageOfNext returns true whatever the bytes, and they read behind the call as they read before. No condition.
-/
import Derived.Test.YtmeobmegnneegaaPgI

set_option linter.unusedSimpArgs false
set_option linter.unusedVariables false

namespace Go.Proofs.Ytmeobmegnneegaa
open Go.ChangeShapes Go.WideShapes Go.ChangeAt Go.RowKit

set_option maxRecDepth 100000 in
set_option maxHeartbeats 4000000 in
theorem pageN_lifted (os : Os) (started : os.Started) (H : Type) (enc : TypeId × Value → H) :
    ReturnsInHanded {} Try.checked os 5 .any (Rows.fnPageOfNextSpec.pre6 enc Try.prog Try.f5 Rows.fnPageOfNextRow.domain false) (Rows.fnPageOfNextSpec.post enc Try.prog Try.f5 false true false false) := by
  refine returnsInHanded_of_change (C := Try.checked) Try.own started (by kernel_rfl) Try.func5
    (ChangeSpec.witness6 (enc := enc) (C := Try.checked) false ⟨#[], #[.slice none 0 0], []⟩ 12 (by kernel_rfl) (by kernel_rfl) (by kernel_rfl) (by kernel_rfl)) ?_
  intro W base args ds gs before hval0 hW hcnd _
  have hval : ∀ (j : Nat) t v, Try.f5.params[j]? = some t → args[j]? = some v → Value.okWide Try.prog W .any base t v := hval0
  have hW' := hW
  obtain ⟨p, q, hA0, hV, rfl, hfz, hnd⟩ := hW
  have hA : DataW.TrodAll enc Try.prog W 0 (fun _ => true) true Try.f5.params.toList args.toList ds p := hA0
  rw [Try.params5] at hA hval
  obtain ⟨v0, d0, rfl, rfl, h0⟩ := trodAll_one hA
  obtain ⟨rfl, rfl⟩ := trodVars_none hV
  obtain ⟨qa0, ql0, qc0, rfl⟩ := okWide_slice Try.underlying46 (hval 0 46 v0 rfl rfl)
  obtain ⟨fuel0, h0⟩ := h0
  obtain ⟨x0, hx0⟩ := rv_bytes h0
  refine (law_bytes (Eng.lawPageOfNext_AC0 x0) W hx0).mono fun e W' ⟨he, hg⟩ => ?_
  subst he
  refine ⟨_, rfl, post_grow rfl ?_ (by kernel_rfl) rfl hW' hg⟩
  intro t ht
  rw [Try.params5] at ht
  simp at ht
  subst ht
  exact ⟨by kernel_rfl, of_decide_eq_true (by kernel_rfl)⟩

theorem pageN_named : Try.pinned.checked.prog.funcNamed Rows.fnPageOfNextRow.func = some 5 := by kernel_rfl
theorem pageN_k1 : Rows.fnPageOfNextRow.wf (OpenSpec.ofChange Rows.fnPageOfNextSpec) = true := by kernel_rfl
theorem pageN_k2 : laidOutB Try.pinned.checked.prog = true := by kernel_rfl
theorem pageN_k3 : mapsRowed Try.pinned.checked.prog = true := by kernel_rfl
theorem pageN_k4 : Try.f5.params.all (Try.pinned.checked.prog.readableRec ·) = true := by kernel_rfl
theorem pageN_k5 : namedTie Try.pinned.checked.prog Rows.fnPageOfNextRow.named Rows.fnPageOfNextSpec.vars = true := by kernel_rfl
theorem pageN_k6 : (Rows.fnPageOfNextRow.stops == []) = true := by kernel_rfl
theorem pageN_k7 : (Try.pinned.checked.prog.stops == []) = true := by kernel_rfl
theorem pageN_k8 : (Rows.fnPageOfNextRow.knobs == []) = true := by kernel_rfl
theorem pageN_k9 : (Try.pinned.checked.prog.stopKnobs == []) = true := by kernel_rfl
theorem pageN_k10 : (Rows.fnPageOfNextRow.inPlace == Try.pinned.checked.prog.inPlace 5) = true := by kernel_rfl
theorem pageN_k11 : (Rows.fnPageOfNextRow.unfollowed == Try.pinned.checked.prog.unfollowed 5) = true := by kernel_rfl
theorem pageN_k12 : (Rows.fnPageOfNextRow.recurses == Try.pinned.checked.prog.recurses 5) = true := by kernel_rfl
theorem pageN_k13 : (Rows.fnPageOfNextRow.named == Try.pinned.checked.prog.varsNamed 5) = true := by kernel_rfl
theorem pageN_k14 : (Rows.fnPageOfNextRow.maps == (Try.f5.params.toList ++ Rows.fnPageOfNextSpec.plain.varTypes Try.pinned.checked.prog).any (Try.pinned.checked.prog.mapsRec ·)) = true := by kernel_rfl
theorem pageN_k15 : (Rows.fnPageOfNextRow.ifaces == (Try.f5.params.toList ++ Rows.fnPageOfNextSpec.plain.varTypes Try.pinned.checked.prog).any (Try.pinned.checked.prog.ifacesRec ·)) = true := by kernel_rfl
theorem pageN_k16 : (Rows.fnPageOfNextRow.mapsOut == Try.pinned.checked.prog.mapsAmong Try.f5.resultTypes.toList) = true := by kernel_rfl
theorem pageN_k17 : (Rows.fnPageOfNextRow.loops == (Try.f5.params.toList ++ Rows.fnPageOfNextSpec.plain.varTypes Try.pinned.checked.prog).any (Try.pinned.checked.prog.loopsFrom ·)) = true := by kernel_rfl
theorem pageN_k18 : (Rows.fnPageOfNextRow.wideKeys == (Try.f5.params.toList ++ Rows.fnPageOfNextSpec.plain.varTypes Try.pinned.checked.prog ++ Try.f5.resultTypes.toList).any (Try.pinned.checked.prog.wideKeysFrom ·)) = true := by kernel_rfl
theorem pageN_k19 : Rows.fnPageOfNextSpec.vars.all (Try.pinned.checked.prog.varReadable ·) = true := by kernel_rfl
theorem pageN_k20 : Try.f5.resultTypes.all (fun t => Try.pinned.checked.prog.readableRec t && decide (t < Try.pinned.checked.prog.types.size)) = true := by kernel_rfl
theorem pageN_k21 : (Rows.fnPageOfNextRow.ifacesOut == Try.f5.resultTypes.toList.any (Try.pinned.checked.prog.ifacesRec ·)) = true := by kernel_rfl
theorem pageN_k22 : (Rows.fnPageOfNextRow.loopsOut == Try.f5.resultTypes.toList.any (Try.pinned.checked.prog.loopsFrom ·)) = true := by kernel_rfl
theorem pageN_k23 : (Rows.fnPageOfNextRow.plainKeys == Try.pinned.checked.prog.plainKeys) = true := by kernel_rfl
theorem pageN_k24 : Rows.fnPageOfNextRow.shortTexts.isNone = true := by kernel_rfl
theorem pageN_k25 : Try.pinned.checked.prog.stopsHeard = true := by kernel_rfl
theorem pageN_k26 : Try.pinned.checked.prog.mayEnter = true := io_enter
theorem pageN_k27 : (Rows.fnPageOfNextRow.lifted == Try.pinned.checked.prog.liftsFinal) = true := by
  show (false == Try.prog.liftsFinal) = true
  rw [io_lifts]; rfl
theorem pageN_k28 : (Try.pinned.checked.prog.make == some Rows.fnPageOfNextRow.make) = true := by
  show (Try.prog.make == some Make.cut) = true
  rw [io_make]; rfl
theorem pageN_k29 : (Rows.fnPageOfNextRow.kinds == (if Rows.fnPageOfNextRow.domain.isEmpty then [] else Try.f5.params.toList.map fun t => match Try.pinned.checked.prog.underlying t with | some (.int k) => some k | _ => none)) = true := by kernel_rfl
theorem pageN_k30 : (Rows.fnPageOfNextRow.pinned == Rows.fnPageOfNextRow.pinnedBy) = true := by kernel_rfl
theorem pageN_k31 : (Rows.fnPageOfNextRow.veiled == (Try.f5.params.toList ++ Rows.fnPageOfNextSpec.plain.varTypes Try.pinned.checked.prog ++ Try.f5.resultTypes.toList).any (Try.pinned.checked.prog.veiledRec ·)) = true := by kernel_rfl
theorem pageN_k32 : Rows.fnPageOfNextRow.veiledFits Try.pinned.checked.prog Try.f5.params.toList (Try.f5.params.toList ++ Rows.fnPageOfNextSpec.plain.varTypes Try.pinned.checked.prog ++ Try.f5.resultTypes.toList) = true := by kernel_rfl
set_option maxRecDepth 100000 in
theorem pageN_facts : joinedFacts Try.pinned.checked.prog 5 Try.f5 Rows.fnPageOfNextSpec Rows.fnPageOfNextRow = true := joined_mk pageN_k1 pageN_k2 pageN_k3 pageN_k4 pageN_k5 pageN_k6 pageN_k7 pageN_k8 pageN_k9 pageN_k10 pageN_k11 pageN_k12 pageN_k13 pageN_k14 pageN_k15 pageN_k16 pageN_k17 pageN_k18 pageN_k19 pageN_k20 pageN_k21 pageN_k22 pageN_k23 pageN_k24 pageN_k25 pageN_k26 pageN_k27 pageN_k28 pageN_k29 pageN_k30 pageN_k31 pageN_k32
theorem pageN_inst : (Try.f5).isInstance Try.pinned.checked.prog Rows.fnPageOfNextRow.origin Rows.fnPageOfNextRow.targs := of_decide_eq_true (by kernel_rfl)
theorem pageN_wrap : (Try.f5).isWrapper Try.pinned.checked.prog Rows.fnPageOfNextRow.wrapper Rows.fnPageOfNextRow.mainSum := by unfold Func.isWrapper; first | (rw [if_pos (by decide +kernel)]; kernel_rfl) | (rw [if_neg (by decide +kernel)]; exact ⟨rfl, rfl⟩)
theorem pageN_holds : Rows.FnPageOfNextSaid :=
  OpenClaim.holds_of_wide 5 Try.f5 rfl rfl rfl rfl rfl rfl rfl ⟨rfl, rfl, rfl, rfl, rfl⟩ rfl rfl rfl rfl rfl pageN_named Try.func5 pageN_facts pageN_inst pageN_wrap
    (fun os started H enc _ => pageN_lifted os started H enc)
#print axioms pageN_holds

end Go.Proofs.Ytmeobmegnneegaa
