/-
  FnExactMergeFor returns true whatever the arguments, and they read behind the call as they read before. No condition.
-/
import Derived.Test.YtgfnmhfdmmnaoaaMfH

set_option linter.unusedSimpArgs false
set_option linter.unusedVariables false
set_option linter.unnecessarySimpa false
set_option maxRecDepth 100000
set_option maxHeartbeats 16000000
namespace Go.Proofs.Ytgfnmhfdmmnaoaa
open Go.ChangeShapes Go.WideShapes Go.ChangeAt Go.RowKit
theorem mfE_lifted (os : Os) (started : os.Started) (H : Type) (enc : TypeId × Value → H) :
    ReturnsInHanded {} Try.checked os 12 .any (Rows.fnExactMergeForSpec.pre6 enc Try.prog Try.f12 Rows.fnExactMergeForRow.domain false) (Rows.fnExactMergeForSpec.post enc Try.prog Try.f12 false true false false) := by
  refine returnsInHanded_of_change (C := Try.checked) Try.own started (by kernel_rfl) Try.func12
    (ChangeSpec.witness6 (enc := enc) (C := Try.checked) false ⟨#[], #[.agg #[.int .i64 0, .int .i64 0, .string ⟨#[]⟩, .slice none 0 0, .slice none 0 0], .agg #[.int .i64 0, .int .i64 0, .string ⟨#[]⟩, .slice none 0 0, .slice none 0 0]], []⟩ 12 (by kernel_rfl) (by kernel_rfl) (by kernel_rfl) (by kernel_rfl)) ?_
  intro W base args ds gs before hval0 hW hcnd _
  have hval : ∀ (j : Nat) t v, Try.f12.params[j]? = some t → args[j]? = some v → Value.okWide Try.prog W .any base t v := hval0
  have hW' := hW
  obtain ⟨p, q, hA0, hV, rfl, hfz, hnd⟩ := hW
  have hA : DataW.TrodAll enc Try.prog W 0 (fun _ => true) true Try.f12.params.toList args.toList ds p := hA0
  rw [Try.params12] at hA hval
  obtain ⟨v0, v1, d0, d1, p0, p1, rfl, rfl, hp, h0, h1⟩ := trodAll_two hA
  obtain ⟨rfl, rfl⟩ := trodVars_none hV
  obtain ⟨cs0, rfl, _⟩ := okWide_struct Try.underlying41 (hval 0 41 v0 rfl rfl)
  obtain ⟨fuel0, h0⟩ := h0
  obtain ⟨x0, hx0⟩ := rv_node h0
  obtain ⟨cs1, rfl, _⟩ := okWide_struct Try.underlying41 (hval 1 41 v1 rfl rfl)
  obtain ⟨fuel1, h1⟩ := h1
  obtain ⟨x1, hx1⟩ := rv_node h1
  refine (lawMf_ok x0 x1 _ _ W hx0 hx1).mono fun e W' ⟨he, hg⟩ => ?_
  subst he
  refine ⟨_, rfl, post_grow rfl ?_ (by kernel_rfl) rfl hW' hg⟩
  intro t ht
  rw [Try.params12] at ht
  simp at ht
  rcases ht with rfl | rfl
  all_goals exact ⟨by kernel_rfl, of_decide_eq_true (by kernel_rfl)⟩
theorem mfE_named : Try.pinned.checked.prog.funcNamed Rows.fnExactMergeForRow.func = some 12 := by kernel_rfl
theorem mfE_k1 : Rows.fnExactMergeForRow.wf (OpenSpec.ofChange Rows.fnExactMergeForSpec) = true := by kernel_rfl
theorem mfE_k2 : laidOutB Try.pinned.checked.prog = true := by kernel_rfl
theorem mfE_k3 : mapsRowed Try.pinned.checked.prog = true := by kernel_rfl
theorem mfE_k4 : Try.f12.params.all (Try.pinned.checked.prog.readableRec ·) = true := by kernel_rfl
theorem mfE_k5 : namedTie Try.pinned.checked.prog Rows.fnExactMergeForRow.named Rows.fnExactMergeForSpec.vars = true := by kernel_rfl
theorem mfE_k6 : (Rows.fnExactMergeForRow.stops == []) = true := by kernel_rfl
theorem mfE_k7 : (Try.pinned.checked.prog.stops == []) = true := by kernel_rfl
theorem mfE_k8 : (Rows.fnExactMergeForRow.knobs == []) = true := by kernel_rfl
theorem mfE_k9 : (Try.pinned.checked.prog.stopKnobs == []) = true := by kernel_rfl
theorem mfE_k10 : (Rows.fnExactMergeForRow.inPlace == Try.pinned.checked.prog.inPlace 12) = true := by kernel_rfl
theorem mfE_k11 : (Rows.fnExactMergeForRow.unfollowed == Try.pinned.checked.prog.unfollowed 12) = true := by kernel_rfl
theorem mfE_k12 : (Rows.fnExactMergeForRow.recurses == Try.pinned.checked.prog.recurses 12) = true := by kernel_rfl
theorem mfE_k13 : (Rows.fnExactMergeForRow.named == Try.pinned.checked.prog.varsNamed 12) = true := by kernel_rfl
theorem mfE_k14 : (Rows.fnExactMergeForRow.maps == (Try.f12.params.toList ++ Rows.fnExactMergeForSpec.plain.varTypes Try.pinned.checked.prog).any (Try.pinned.checked.prog.mapsRec ·)) = true := by kernel_rfl
theorem mfE_k15 : (Rows.fnExactMergeForRow.ifaces == (Try.f12.params.toList ++ Rows.fnExactMergeForSpec.plain.varTypes Try.pinned.checked.prog).any (Try.pinned.checked.prog.ifacesRec ·)) = true := by kernel_rfl
theorem mfE_k16 : (Rows.fnExactMergeForRow.mapsOut == Try.pinned.checked.prog.mapsAmong Try.f12.resultTypes.toList) = true := by kernel_rfl
theorem mfE_k17 : (Rows.fnExactMergeForRow.loops == (Try.f12.params.toList ++ Rows.fnExactMergeForSpec.plain.varTypes Try.pinned.checked.prog).any (Try.pinned.checked.prog.loopsFrom ·)) = true := by kernel_rfl
theorem mfE_k18 : (Rows.fnExactMergeForRow.wideKeys == (Try.f12.params.toList ++ Rows.fnExactMergeForSpec.plain.varTypes Try.pinned.checked.prog ++ Try.f12.resultTypes.toList).any (Try.pinned.checked.prog.wideKeysFrom ·)) = true := by kernel_rfl
theorem mfE_k19 : Rows.fnExactMergeForSpec.vars.all (Try.pinned.checked.prog.varReadable ·) = true := by kernel_rfl
theorem mfE_k20 : Try.f12.resultTypes.all (fun t => Try.pinned.checked.prog.readableRec t && decide (t < Try.pinned.checked.prog.types.size)) = true := by kernel_rfl
theorem mfE_k21 : (Rows.fnExactMergeForRow.ifacesOut == Try.f12.resultTypes.toList.any (Try.pinned.checked.prog.ifacesRec ·)) = true := by kernel_rfl
theorem mfE_k22 : (Rows.fnExactMergeForRow.loopsOut == Try.f12.resultTypes.toList.any (Try.pinned.checked.prog.loopsFrom ·)) = true := by kernel_rfl
theorem mfE_k23 : (Rows.fnExactMergeForRow.plainKeys == Try.pinned.checked.prog.plainKeys) = true := by kernel_rfl
theorem mfE_k24 : Rows.fnExactMergeForRow.shortTexts.isNone = true := by kernel_rfl
theorem mfE_k25 : Try.pinned.checked.prog.stopsHeard = true := by kernel_rfl
theorem mfE_k26 : Try.pinned.checked.prog.mayEnter = true := io_enter
theorem mfE_k27 : (Rows.fnExactMergeForRow.lifted == Try.pinned.checked.prog.liftsFinal) = true := by
  show (false == Try.prog.liftsFinal) = true
  rw [io_lifts]; rfl
theorem mfE_k28 : (Try.pinned.checked.prog.make == some Rows.fnExactMergeForRow.make) = true := by
  show (Try.prog.make == some Make.cut) = true
  rw [io_make]; rfl
theorem mfE_k29 : (Rows.fnExactMergeForRow.kinds == (if Rows.fnExactMergeForRow.domain.isEmpty then [] else Try.f12.params.toList.map fun t => match Try.pinned.checked.prog.underlying t with | some (.int k) => some k | _ => none)) = true := by kernel_rfl
theorem mfE_k30 : (Rows.fnExactMergeForRow.pinned == Rows.fnExactMergeForRow.pinnedBy) = true := by kernel_rfl
theorem mfE_k31 : (Rows.fnExactMergeForRow.veiled == (Try.f12.params.toList ++ Rows.fnExactMergeForSpec.plain.varTypes Try.pinned.checked.prog ++ Try.f12.resultTypes.toList).any (Try.pinned.checked.prog.veiledRec ·)) = true := by kernel_rfl
theorem mfE_k32 : Rows.fnExactMergeForRow.veiledFits Try.pinned.checked.prog Try.f12.params.toList (Try.f12.params.toList ++ Rows.fnExactMergeForSpec.plain.varTypes Try.pinned.checked.prog ++ Try.f12.resultTypes.toList) = true := by kernel_rfl
theorem mfE_facts : joinedFacts Try.pinned.checked.prog 12 Try.f12 Rows.fnExactMergeForSpec Rows.fnExactMergeForRow = true := joined_mk mfE_k1 mfE_k2 mfE_k3 mfE_k4 mfE_k5 mfE_k6 mfE_k7 mfE_k8 mfE_k9 mfE_k10 mfE_k11 mfE_k12 mfE_k13 mfE_k14 mfE_k15 mfE_k16 mfE_k17 mfE_k18 mfE_k19 mfE_k20 mfE_k21 mfE_k22 mfE_k23 mfE_k24 mfE_k25 mfE_k26 mfE_k27 mfE_k28 mfE_k29 mfE_k30 mfE_k31 mfE_k32
theorem mfE_inst : (Try.f12).isInstance Try.pinned.checked.prog Rows.fnExactMergeForRow.origin Rows.fnExactMergeForRow.targs := of_decide_eq_true (by kernel_rfl)
theorem mfE_wrap : (Try.f12).isWrapper Try.pinned.checked.prog Rows.fnExactMergeForRow.wrapper Rows.fnExactMergeForRow.mainSum := by unfold Func.isWrapper; first | (rw [if_pos (by decide +kernel)]; kernel_rfl) | (rw [if_neg (by decide +kernel)]; exact ⟨rfl, rfl⟩)
theorem mfE_holds : Rows.FnExactMergeForSaid :=
  OpenClaim.holds_of_wide 12 Try.f12 rfl rfl rfl rfl rfl rfl rfl ⟨rfl, rfl, rfl, rfl, rfl⟩ rfl rfl rfl rfl rfl mfE_named Try.func12 mfE_facts mfE_inst mfE_wrap
    (fun os started H enc _ => mfE_lifted os started H enc)
#print axioms mfE_holds
end Go.Proofs.Ytgfnmhfdmmnaoaa
