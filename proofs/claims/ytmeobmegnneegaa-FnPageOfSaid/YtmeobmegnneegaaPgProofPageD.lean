/-
  FnPageOf returns true whatever the bytes, and they read behind the call as they read before. No condition.
-/
import Derived.Test.YtmeobmegnneegaaPgI

set_option linter.unusedSimpArgs false
set_option linter.unusedVariables false

namespace Go.Proofs.Ytmeobmegnneegaa
open Go.ChangeShapes Go.WideShapes Go.ChangeAt Go.RowKit

set_option maxRecDepth 100000 in
set_option maxHeartbeats 4000000 in
theorem pageOfD_lifted (os : Os) (started : os.Started) (H : Type) (enc : TypeId × Value → H) :
    ReturnsInHanded {} Try.checked os 4 .any (Rows.fnPageOfSpec.pre6 enc Try.prog Try.f4 Rows.fnPageOfRow.domain false) (Rows.fnPageOfSpec.post enc Try.prog Try.f4 false true false false) := by
  refine returnsInHanded_of_change (C := Try.checked) Try.own started (by kernel_rfl) Try.func4
    (ChangeSpec.witness6 (enc := enc) (C := Try.checked) false ⟨#[], #[.slice none 0 0], []⟩ 12 (by kernel_rfl) (by kernel_rfl) (by kernel_rfl) (by kernel_rfl)) ?_
  intro W base args ds gs before hval0 hW hcnd _
  have hval : ∀ (j : Nat) t v, Try.f4.params[j]? = some t → args[j]? = some v → Value.okWide Try.prog W .any base t v := hval0
  have hW' := hW
  obtain ⟨p, q, hA0, hV, rfl, hfz, hnd⟩ := hW
  have hA : DataW.TrodAll enc Try.prog W 0 (fun _ => true) true Try.f4.params.toList args.toList ds p := hA0
  rw [Try.params4] at hA hval
  obtain ⟨v0, d0, rfl, rfl, h0⟩ := trodAll_one hA
  obtain ⟨rfl, rfl⟩ := trodVars_none hV
  obtain ⟨qa0, ql0, qc0, rfl⟩ := okWide_slice Try.underlying46 (hval 0 46 v0 rfl rfl)
  obtain ⟨fuel0, h0⟩ := h0
  obtain ⟨x0, hx0⟩ := rv_bytes h0
  refine (law_bytes (Eng.lawPageOf_AC0 x0) W hx0).mono fun e W' ⟨he, hg⟩ => ?_
  subst he
  refine ⟨_, rfl, post_grow rfl ?_ (by kernel_rfl) rfl hW' hg⟩
  intro t ht
  rw [Try.params4] at ht
  simp at ht
  subst ht
  exact ⟨by kernel_rfl, of_decide_eq_true (by kernel_rfl)⟩

theorem pageOfD_named : Try.pinned.checked.prog.funcNamed Rows.fnPageOfRow.func = some 4 := by kernel_rfl
theorem pageOfD_k1 : Rows.fnPageOfRow.wf (OpenSpec.ofChange Rows.fnPageOfSpec) = true := by kernel_rfl
theorem pageOfD_k2 : laidOutB Try.pinned.checked.prog = true := by kernel_rfl
theorem pageOfD_k3 : mapsRowed Try.pinned.checked.prog = true := by kernel_rfl
theorem pageOfD_k4 : Try.f4.params.all (Try.pinned.checked.prog.readableRec ·) = true := by kernel_rfl
theorem pageOfD_k5 : namedTie Try.pinned.checked.prog Rows.fnPageOfRow.named Rows.fnPageOfSpec.vars = true := by kernel_rfl
theorem pageOfD_k6 : (Rows.fnPageOfRow.stops == []) = true := by kernel_rfl
theorem pageOfD_k7 : (Try.pinned.checked.prog.stops == []) = true := by kernel_rfl
theorem pageOfD_k8 : (Rows.fnPageOfRow.knobs == []) = true := by kernel_rfl
theorem pageOfD_k9 : (Try.pinned.checked.prog.stopKnobs == []) = true := by kernel_rfl
theorem pageOfD_k10 : (Rows.fnPageOfRow.inPlace == Try.pinned.checked.prog.inPlace 4) = true := by kernel_rfl
theorem pageOfD_k11 : (Rows.fnPageOfRow.unfollowed == Try.pinned.checked.prog.unfollowed 4) = true := by kernel_rfl
theorem pageOfD_k12 : (Rows.fnPageOfRow.recurses == Try.pinned.checked.prog.recurses 4) = true := by kernel_rfl
theorem pageOfD_k13 : (Rows.fnPageOfRow.named == Try.pinned.checked.prog.varsNamed 4) = true := by kernel_rfl
theorem pageOfD_k14 : (Rows.fnPageOfRow.maps == (Try.f4.params.toList ++ Rows.fnPageOfSpec.plain.varTypes Try.pinned.checked.prog).any (Try.pinned.checked.prog.mapsRec ·)) = true := by kernel_rfl
theorem pageOfD_k15 : (Rows.fnPageOfRow.ifaces == (Try.f4.params.toList ++ Rows.fnPageOfSpec.plain.varTypes Try.pinned.checked.prog).any (Try.pinned.checked.prog.ifacesRec ·)) = true := by kernel_rfl
theorem pageOfD_k16 : (Rows.fnPageOfRow.mapsOut == Try.pinned.checked.prog.mapsAmong Try.f4.resultTypes.toList) = true := by kernel_rfl
theorem pageOfD_k17 : (Rows.fnPageOfRow.loops == (Try.f4.params.toList ++ Rows.fnPageOfSpec.plain.varTypes Try.pinned.checked.prog).any (Try.pinned.checked.prog.loopsFrom ·)) = true := by kernel_rfl
theorem pageOfD_k18 : (Rows.fnPageOfRow.wideKeys == (Try.f4.params.toList ++ Rows.fnPageOfSpec.plain.varTypes Try.pinned.checked.prog ++ Try.f4.resultTypes.toList).any (Try.pinned.checked.prog.wideKeysFrom ·)) = true := by kernel_rfl
theorem pageOfD_k19 : Rows.fnPageOfSpec.vars.all (Try.pinned.checked.prog.varReadable ·) = true := by kernel_rfl
theorem pageOfD_k20 : Try.f4.resultTypes.all (fun t => Try.pinned.checked.prog.readableRec t && decide (t < Try.pinned.checked.prog.types.size)) = true := by kernel_rfl
theorem pageOfD_k21 : (Rows.fnPageOfRow.ifacesOut == Try.f4.resultTypes.toList.any (Try.pinned.checked.prog.ifacesRec ·)) = true := by kernel_rfl
theorem pageOfD_k22 : (Rows.fnPageOfRow.loopsOut == Try.f4.resultTypes.toList.any (Try.pinned.checked.prog.loopsFrom ·)) = true := by kernel_rfl
theorem pageOfD_k23 : (Rows.fnPageOfRow.plainKeys == Try.pinned.checked.prog.plainKeys) = true := by kernel_rfl
theorem pageOfD_k24 : Rows.fnPageOfRow.shortTexts.isNone = true := by kernel_rfl
theorem pageOfD_k25 : Try.pinned.checked.prog.stopsHeard = true := by kernel_rfl
theorem pageOfD_k26 : Try.pinned.checked.prog.mayEnter = true := io_enter
theorem pageOfD_k27 : (Rows.fnPageOfRow.lifted == Try.pinned.checked.prog.liftsFinal) = true := by
  show (false == Try.prog.liftsFinal) = true
  rw [io_lifts]; rfl
theorem pageOfD_k28 : (Try.pinned.checked.prog.make == some Rows.fnPageOfRow.make) = true := by
  show (Try.prog.make == some Make.cut) = true
  rw [io_make]; rfl
theorem pageOfD_k29 : (Rows.fnPageOfRow.kinds == (if Rows.fnPageOfRow.domain.isEmpty then [] else Try.f4.params.toList.map fun t => match Try.pinned.checked.prog.underlying t with | some (.int k) => some k | _ => none)) = true := by kernel_rfl
theorem pageOfD_k30 : (Rows.fnPageOfRow.pinned == Rows.fnPageOfRow.pinnedBy) = true := by kernel_rfl
theorem pageOfD_k31 : (Rows.fnPageOfRow.veiled == (Try.f4.params.toList ++ Rows.fnPageOfSpec.plain.varTypes Try.pinned.checked.prog ++ Try.f4.resultTypes.toList).any (Try.pinned.checked.prog.veiledRec ·)) = true := by kernel_rfl
theorem pageOfD_k32 : Rows.fnPageOfRow.veiledFits Try.pinned.checked.prog Try.f4.params.toList (Try.f4.params.toList ++ Rows.fnPageOfSpec.plain.varTypes Try.pinned.checked.prog ++ Try.f4.resultTypes.toList) = true := by kernel_rfl
set_option maxRecDepth 100000 in
theorem pageOfD_facts : joinedFacts Try.pinned.checked.prog 4 Try.f4 Rows.fnPageOfSpec Rows.fnPageOfRow = true := joined_mk pageOfD_k1 pageOfD_k2 pageOfD_k3 pageOfD_k4 pageOfD_k5 pageOfD_k6 pageOfD_k7 pageOfD_k8 pageOfD_k9 pageOfD_k10 pageOfD_k11 pageOfD_k12 pageOfD_k13 pageOfD_k14 pageOfD_k15 pageOfD_k16 pageOfD_k17 pageOfD_k18 pageOfD_k19 pageOfD_k20 pageOfD_k21 pageOfD_k22 pageOfD_k23 pageOfD_k24 pageOfD_k25 pageOfD_k26 pageOfD_k27 pageOfD_k28 pageOfD_k29 pageOfD_k30 pageOfD_k31 pageOfD_k32
theorem pageOfD_inst : (Try.f4).isInstance Try.pinned.checked.prog Rows.fnPageOfRow.origin Rows.fnPageOfRow.targs := of_decide_eq_true (by kernel_rfl)
theorem pageOfD_wrap : (Try.f4).isWrapper Try.pinned.checked.prog Rows.fnPageOfRow.wrapper Rows.fnPageOfRow.mainSum := by unfold Func.isWrapper; first | (rw [if_pos (by decide +kernel)]; kernel_rfl) | (rw [if_neg (by decide +kernel)]; exact ⟨rfl, rfl⟩)
theorem pageOfD_holds : Rows.FnPageOfSaid :=
  OpenClaim.holds_of_wide 4 Try.f4 rfl rfl rfl rfl rfl rfl rfl ⟨rfl, rfl, rfl, rfl, rfl⟩ rfl rfl rfl rfl rfl pageOfD_named Try.func4 pageOfD_facts pageOfD_inst pageOfD_wrap
    (fun os started H enc _ => pageOfD_lifted os started H enc)
#print axioms pageOfD_holds

end Go.Proofs.Ytmeobmegnneegaa
