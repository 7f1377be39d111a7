/-
  FnExactMergeNode returns true whatever the arguments, and they read behind the call as they read before. No condition.
-/
import Derived.Test.YtgfnmhfdmmnaoaaMeH

set_option linter.unusedSimpArgs false
set_option linter.unusedVariables false
set_option linter.unnecessarySimpa false
set_option maxRecDepth 100000
set_option maxHeartbeats 16000000
namespace Go.Proofs.Ytgfnmhfdmmnaoaa
open Go.ChangeShapes Go.WideShapes Go.ChangeAt Go.RowKit
theorem mrgE_lifted (os : Os) (started : os.Started) (H : Type) (enc : TypeId × Value → H) :
    ReturnsInHanded {} Try.checked os 10 .any (Rows.fnExactMergeNodeSpec.pre6 enc Try.prog Try.f10 Rows.fnExactMergeNodeRow.domain false) (Rows.fnExactMergeNodeSpec.post enc Try.prog Try.f10 false true false false) := by
  refine returnsInHanded_of_change (C := Try.checked) Try.own started (by kernel_rfl) Try.func10
    (ChangeSpec.witness6 (enc := enc) (C := Try.checked) false ⟨#[], #[.agg #[.int .i64 0, .int .i64 0, .string ⟨#[]⟩, .slice none 0 0, .slice none 0 0], .agg #[.int .i64 0, .int .i64 0, .string ⟨#[]⟩, .slice none 0 0, .slice none 0 0]], []⟩ 12 (by kernel_rfl) (by kernel_rfl) (by kernel_rfl) (by kernel_rfl)) ?_
  intro W base args ds gs before hval0 hW hcnd _
  have hval : ∀ (j : Nat) t v, Try.f10.params[j]? = some t → args[j]? = some v → Value.okWide Try.prog W .any base t v := hval0
  have hW' := hW
  obtain ⟨p, q, hA0, hV, rfl, hfz, hnd⟩ := hW
  have hA : DataW.TrodAll enc Try.prog W 0 (fun _ => true) true Try.f10.params.toList args.toList ds p := hA0
  rw [Try.params10] at hA hval
  obtain ⟨v0, v1, d0, d1, p0, p1, rfl, rfl, hp, h0, h1⟩ := trodAll_two hA
  obtain ⟨rfl, rfl⟩ := trodVars_none hV
  obtain ⟨cs0, rfl, _⟩ := okWide_struct Try.underlying41 (hval 0 41 v0 rfl rfl)
  obtain ⟨fuel0, h0⟩ := h0
  obtain ⟨x0, hx0⟩ := rv_node h0
  obtain ⟨cs1, rfl, _⟩ := okWide_struct Try.underlying41 (hval 1 41 v1 rfl rfl)
  obtain ⟨fuel1, h1⟩ := h1
  obtain ⟨x1, hx1⟩ := rv_node h1
  refine (lawMg_ok x0 x1 _ _ W hx0 hx1).mono fun e W' ⟨he, hg⟩ => ?_
  subst he
  refine ⟨_, rfl, post_grow rfl ?_ (by kernel_rfl) rfl hW' hg⟩
  intro t ht
  rw [Try.params10] at ht
  simp at ht
  rcases ht with rfl | rfl
  all_goals exact ⟨by kernel_rfl, of_decide_eq_true (by kernel_rfl)⟩
theorem mrgE_named : Try.pinned.checked.prog.funcNamed Rows.fnExactMergeNodeRow.func = some 10 := by kernel_rfl
theorem mrgE_k1 : Rows.fnExactMergeNodeRow.wf (OpenSpec.ofChange Rows.fnExactMergeNodeSpec) = true := by kernel_rfl
theorem mrgE_k2 : laidOutB Try.pinned.checked.prog = true := by kernel_rfl
theorem mrgE_k3 : mapsRowed Try.pinned.checked.prog = true := by kernel_rfl
theorem mrgE_k4 : Try.f10.params.all (Try.pinned.checked.prog.readableRec ·) = true := by kernel_rfl
theorem mrgE_k5 : namedTie Try.pinned.checked.prog Rows.fnExactMergeNodeRow.named Rows.fnExactMergeNodeSpec.vars = true := by kernel_rfl
theorem mrgE_k6 : (Rows.fnExactMergeNodeRow.stops == []) = true := by kernel_rfl
theorem mrgE_k7 : (Try.pinned.checked.prog.stops == []) = true := by kernel_rfl
theorem mrgE_k8 : (Rows.fnExactMergeNodeRow.knobs == []) = true := by kernel_rfl
theorem mrgE_k9 : (Try.pinned.checked.prog.stopKnobs == []) = true := by kernel_rfl
theorem mrgE_k10 : (Rows.fnExactMergeNodeRow.inPlace == Try.pinned.checked.prog.inPlace 10) = true := by kernel_rfl
theorem mrgE_k11 : (Rows.fnExactMergeNodeRow.unfollowed == Try.pinned.checked.prog.unfollowed 10) = true := by kernel_rfl
theorem mrgE_k12 : (Rows.fnExactMergeNodeRow.recurses == Try.pinned.checked.prog.recurses 10) = true := by kernel_rfl
theorem mrgE_k13 : (Rows.fnExactMergeNodeRow.named == Try.pinned.checked.prog.varsNamed 10) = true := by kernel_rfl
theorem mrgE_k14 : (Rows.fnExactMergeNodeRow.maps == (Try.f10.params.toList ++ Rows.fnExactMergeNodeSpec.plain.varTypes Try.pinned.checked.prog).any (Try.pinned.checked.prog.mapsRec ·)) = true := by kernel_rfl
theorem mrgE_k15 : (Rows.fnExactMergeNodeRow.ifaces == (Try.f10.params.toList ++ Rows.fnExactMergeNodeSpec.plain.varTypes Try.pinned.checked.prog).any (Try.pinned.checked.prog.ifacesRec ·)) = true := by kernel_rfl
theorem mrgE_k16 : (Rows.fnExactMergeNodeRow.mapsOut == Try.pinned.checked.prog.mapsAmong Try.f10.resultTypes.toList) = true := by kernel_rfl
theorem mrgE_k17 : (Rows.fnExactMergeNodeRow.loops == (Try.f10.params.toList ++ Rows.fnExactMergeNodeSpec.plain.varTypes Try.pinned.checked.prog).any (Try.pinned.checked.prog.loopsFrom ·)) = true := by kernel_rfl
theorem mrgE_k18 : (Rows.fnExactMergeNodeRow.wideKeys == (Try.f10.params.toList ++ Rows.fnExactMergeNodeSpec.plain.varTypes Try.pinned.checked.prog ++ Try.f10.resultTypes.toList).any (Try.pinned.checked.prog.wideKeysFrom ·)) = true := by kernel_rfl
theorem mrgE_k19 : Rows.fnExactMergeNodeSpec.vars.all (Try.pinned.checked.prog.varReadable ·) = true := by kernel_rfl
theorem mrgE_k20 : Try.f10.resultTypes.all (fun t => Try.pinned.checked.prog.readableRec t && decide (t < Try.pinned.checked.prog.types.size)) = true := by kernel_rfl
theorem mrgE_k21 : (Rows.fnExactMergeNodeRow.ifacesOut == Try.f10.resultTypes.toList.any (Try.pinned.checked.prog.ifacesRec ·)) = true := by kernel_rfl
theorem mrgE_k22 : (Rows.fnExactMergeNodeRow.loopsOut == Try.f10.resultTypes.toList.any (Try.pinned.checked.prog.loopsFrom ·)) = true := by kernel_rfl
theorem mrgE_k23 : (Rows.fnExactMergeNodeRow.plainKeys == Try.pinned.checked.prog.plainKeys) = true := by kernel_rfl
theorem mrgE_k24 : Rows.fnExactMergeNodeRow.shortTexts.isNone = true := by kernel_rfl
theorem mrgE_k25 : Try.pinned.checked.prog.stopsHeard = true := by kernel_rfl
theorem mrgE_k26 : Try.pinned.checked.prog.mayEnter = true := io_enter
theorem mrgE_k27 : (Rows.fnExactMergeNodeRow.lifted == Try.pinned.checked.prog.liftsFinal) = true := by
  show (false == Try.prog.liftsFinal) = true
  rw [io_lifts]; rfl
theorem mrgE_k28 : (Try.pinned.checked.prog.make == some Rows.fnExactMergeNodeRow.make) = true := by
  show (Try.prog.make == some Make.cut) = true
  rw [io_make]; rfl
theorem mrgE_k29 : (Rows.fnExactMergeNodeRow.kinds == (if Rows.fnExactMergeNodeRow.domain.isEmpty then [] else Try.f10.params.toList.map fun t => match Try.pinned.checked.prog.underlying t with | some (.int k) => some k | _ => none)) = true := by kernel_rfl
theorem mrgE_k30 : (Rows.fnExactMergeNodeRow.pinned == Rows.fnExactMergeNodeRow.pinnedBy) = true := by kernel_rfl
theorem mrgE_k31 : (Rows.fnExactMergeNodeRow.veiled == (Try.f10.params.toList ++ Rows.fnExactMergeNodeSpec.plain.varTypes Try.pinned.checked.prog ++ Try.f10.resultTypes.toList).any (Try.pinned.checked.prog.veiledRec ·)) = true := by kernel_rfl
theorem mrgE_k32 : Rows.fnExactMergeNodeRow.veiledFits Try.pinned.checked.prog Try.f10.params.toList (Try.f10.params.toList ++ Rows.fnExactMergeNodeSpec.plain.varTypes Try.pinned.checked.prog ++ Try.f10.resultTypes.toList) = true := by kernel_rfl
theorem mrgE_facts : joinedFacts Try.pinned.checked.prog 10 Try.f10 Rows.fnExactMergeNodeSpec Rows.fnExactMergeNodeRow = true := joined_mk mrgE_k1 mrgE_k2 mrgE_k3 mrgE_k4 mrgE_k5 mrgE_k6 mrgE_k7 mrgE_k8 mrgE_k9 mrgE_k10 mrgE_k11 mrgE_k12 mrgE_k13 mrgE_k14 mrgE_k15 mrgE_k16 mrgE_k17 mrgE_k18 mrgE_k19 mrgE_k20 mrgE_k21 mrgE_k22 mrgE_k23 mrgE_k24 mrgE_k25 mrgE_k26 mrgE_k27 mrgE_k28 mrgE_k29 mrgE_k30 mrgE_k31 mrgE_k32
theorem mrgE_inst : (Try.f10).isInstance Try.pinned.checked.prog Rows.fnExactMergeNodeRow.origin Rows.fnExactMergeNodeRow.targs := of_decide_eq_true (by kernel_rfl)
theorem mrgE_wrap : (Try.f10).isWrapper Try.pinned.checked.prog Rows.fnExactMergeNodeRow.wrapper Rows.fnExactMergeNodeRow.mainSum := by unfold Func.isWrapper; first | (rw [if_pos (by decide +kernel)]; kernel_rfl) | (rw [if_neg (by decide +kernel)]; exact ⟨rfl, rfl⟩)
theorem mrgE_holds : Rows.FnExactMergeNodeSaid :=
  OpenClaim.holds_of_wide 10 Try.f10 rfl rfl rfl rfl rfl rfl rfl ⟨rfl, rfl, rfl, rfl, rfl⟩ rfl rfl rfl rfl rfl mrgE_named Try.func10 mrgE_facts mrgE_inst mrgE_wrap
    (fun os started H enc _ => mrgE_lifted os started H enc)
#print axioms mrgE_holds
end Go.Proofs.Ytgfnmhfdmmnaoaa
