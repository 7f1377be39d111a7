/-
  FnMergeNodeNames returns true whatever the bytes, and they read behind the call as they read before. No condition.
-/
import Derived.Test.YtiobnaielfeeaaaPmJ

set_option linter.unusedSimpArgs false
set_option linter.unusedVariables false
set_option linter.unnecessarySimpa false
set_option maxRecDepth 100000
set_option maxHeartbeats 16000000
namespace Go.Proofs.Ytiobnaielfeeaaa
open Go.ChangeShapes Go.WideShapes Go.ChangeAt Go.RowKit
theorem mgN_lifted (os : Os) (started : os.Started) (H : Type) (enc : TypeId × Value → H) :
    ReturnsInHanded {} Try.checked os 12 .any (Rows.fnMergeNodeNamesSpec.pre6 enc Try.prog Try.f12 Rows.fnMergeNodeNamesRow.domain false) (Rows.fnMergeNodeNamesSpec.post enc Try.prog Try.f12 false true false false) := by
  refine returnsInHanded_of_change (C := Try.checked) Try.own started (by kernel_rfl) Try.func12
    (ChangeSpec.witness6 (enc := enc) (C := Try.checked) false ⟨#[], #[.slice none 0 0], []⟩ 12 (by kernel_rfl) (by kernel_rfl) (by kernel_rfl) (by kernel_rfl)) ?_
  intro W base args ds gs before hval0 hW hcnd _
  have hval : ∀ (j : Nat) t v, Try.f12.params[j]? = some t → args[j]? = some v → Value.okWide Try.prog W .any base t v := hval0
  have hW' := hW
  obtain ⟨p, q, hA0, hV, rfl, hfz, hnd⟩ := hW
  have hA : DataW.TrodAll enc Try.prog W 0 (fun _ => true) true Try.f12.params.toList args.toList ds p := hA0
  rw [Try.params12] at hA hval
  obtain ⟨v0, d0, rfl, rfl, h0⟩ := trodAll_one hA
  obtain ⟨rfl, rfl⟩ := trodVars_none hV
  obtain ⟨qa0, ql0, qc0, rfl⟩ := okWide_slice Try.underlying22 (hval 0 22 v0 rfl rfl)
  obtain ⟨fuel0, h0⟩ := h0
  obtain ⟨x0, hx0⟩ := rv_bytes h0
  refine (law_bytes (Eng.lawMrgN_AC0 x0) W hx0).mono fun e W' ⟨he, hg⟩ => ?_
  subst he
  refine ⟨_, rfl, post_grow rfl ?_ (by kernel_rfl) rfl hW' hg⟩
  intro t ht
  rw [Try.params12] at ht
  simp at ht
  subst ht
  exact ⟨by kernel_rfl, of_decide_eq_true (by kernel_rfl)⟩
theorem mgN_named : Try.pinned.checked.prog.funcNamed Rows.fnMergeNodeNamesRow.func = some 12 := by kernel_rfl
theorem mgN_k1 : Rows.fnMergeNodeNamesRow.wf (OpenSpec.ofChange Rows.fnMergeNodeNamesSpec) = true := by kernel_rfl
theorem mgN_k2 : laidOutB Try.pinned.checked.prog = true := by kernel_rfl
theorem mgN_k3 : mapsRowed Try.pinned.checked.prog = true := by kernel_rfl
theorem mgN_k4 : Try.f12.params.all (Try.pinned.checked.prog.readableRec ·) = true := by kernel_rfl
theorem mgN_k5 : namedTie Try.pinned.checked.prog Rows.fnMergeNodeNamesRow.named Rows.fnMergeNodeNamesSpec.vars = true := by kernel_rfl
theorem mgN_k6 : (Rows.fnMergeNodeNamesRow.stops == []) = true := by kernel_rfl
theorem mgN_k7 : (Try.pinned.checked.prog.stops == []) = true := by kernel_rfl
theorem mgN_k8 : (Rows.fnMergeNodeNamesRow.knobs == []) = true := by kernel_rfl
theorem mgN_k9 : (Try.pinned.checked.prog.stopKnobs == []) = true := by kernel_rfl
theorem mgN_k10 : (Rows.fnMergeNodeNamesRow.inPlace == Try.pinned.checked.prog.inPlace 12) = true := by kernel_rfl
theorem mgN_k11 : (Rows.fnMergeNodeNamesRow.unfollowed == Try.pinned.checked.prog.unfollowed 12) = true := by kernel_rfl
theorem mgN_k12 : (Rows.fnMergeNodeNamesRow.recurses == Try.pinned.checked.prog.recurses 12) = true := by kernel_rfl
theorem mgN_k13 : (Rows.fnMergeNodeNamesRow.named == Try.pinned.checked.prog.varsNamed 12) = true := by kernel_rfl
theorem mgN_k14 : (Rows.fnMergeNodeNamesRow.maps == (Try.f12.params.toList ++ Rows.fnMergeNodeNamesSpec.plain.varTypes Try.pinned.checked.prog).any (Try.pinned.checked.prog.mapsRec ·)) = true := by kernel_rfl
theorem mgN_k15 : (Rows.fnMergeNodeNamesRow.ifaces == (Try.f12.params.toList ++ Rows.fnMergeNodeNamesSpec.plain.varTypes Try.pinned.checked.prog).any (Try.pinned.checked.prog.ifacesRec ·)) = true := by kernel_rfl
theorem mgN_k16 : (Rows.fnMergeNodeNamesRow.mapsOut == Try.pinned.checked.prog.mapsAmong Try.f12.resultTypes.toList) = true := by kernel_rfl
theorem mgN_k17 : (Rows.fnMergeNodeNamesRow.loops == (Try.f12.params.toList ++ Rows.fnMergeNodeNamesSpec.plain.varTypes Try.pinned.checked.prog).any (Try.pinned.checked.prog.loopsFrom ·)) = true := by kernel_rfl
theorem mgN_k18 : (Rows.fnMergeNodeNamesRow.wideKeys == (Try.f12.params.toList ++ Rows.fnMergeNodeNamesSpec.plain.varTypes Try.pinned.checked.prog ++ Try.f12.resultTypes.toList).any (Try.pinned.checked.prog.wideKeysFrom ·)) = true := by kernel_rfl
theorem mgN_k19 : Rows.fnMergeNodeNamesSpec.vars.all (Try.pinned.checked.prog.varReadable ·) = true := by kernel_rfl
theorem mgN_k20 : Try.f12.resultTypes.all (fun t => Try.pinned.checked.prog.readableRec t && decide (t < Try.pinned.checked.prog.types.size)) = true := by kernel_rfl
theorem mgN_k21 : (Rows.fnMergeNodeNamesRow.ifacesOut == Try.f12.resultTypes.toList.any (Try.pinned.checked.prog.ifacesRec ·)) = true := by kernel_rfl
theorem mgN_k22 : (Rows.fnMergeNodeNamesRow.loopsOut == Try.f12.resultTypes.toList.any (Try.pinned.checked.prog.loopsFrom ·)) = true := by kernel_rfl
theorem mgN_k23 : (Rows.fnMergeNodeNamesRow.plainKeys == Try.pinned.checked.prog.plainKeys) = true := by kernel_rfl
theorem mgN_k24 : Rows.fnMergeNodeNamesRow.shortTexts.isNone = true := by kernel_rfl
theorem mgN_k25 : Try.pinned.checked.prog.stopsHeard = true := by kernel_rfl
theorem mgN_k26 : Try.pinned.checked.prog.mayEnter = true := io_enter
theorem mgN_k27 : (Rows.fnMergeNodeNamesRow.lifted == Try.pinned.checked.prog.liftsFinal) = true := by
  show (false == Try.prog.liftsFinal) = true
  rw [io_lifts]; rfl
theorem mgN_k28 : (Try.pinned.checked.prog.make == some Rows.fnMergeNodeNamesRow.make) = true := by
  show (Try.prog.make == some Make.cut) = true
  rw [io_make]; rfl
theorem mgN_k29 : (Rows.fnMergeNodeNamesRow.kinds == (if Rows.fnMergeNodeNamesRow.domain.isEmpty then [] else Try.f12.params.toList.map fun t => match Try.pinned.checked.prog.underlying t with | some (.int k) => some k | _ => none)) = true := by kernel_rfl
theorem mgN_k30 : (Rows.fnMergeNodeNamesRow.pinned == Rows.fnMergeNodeNamesRow.pinnedBy) = true := by kernel_rfl
theorem mgN_k31 : (Rows.fnMergeNodeNamesRow.veiled == (Try.f12.params.toList ++ Rows.fnMergeNodeNamesSpec.plain.varTypes Try.pinned.checked.prog ++ Try.f12.resultTypes.toList).any (Try.pinned.checked.prog.veiledRec ·)) = true := by kernel_rfl
theorem mgN_k32 : Rows.fnMergeNodeNamesRow.veiledFits Try.pinned.checked.prog Try.f12.params.toList (Try.f12.params.toList ++ Rows.fnMergeNodeNamesSpec.plain.varTypes Try.pinned.checked.prog ++ Try.f12.resultTypes.toList) = true := by kernel_rfl
theorem mgN_facts : joinedFacts Try.pinned.checked.prog 12 Try.f12 Rows.fnMergeNodeNamesSpec Rows.fnMergeNodeNamesRow = true := joined_mk mgN_k1 mgN_k2 mgN_k3 mgN_k4 mgN_k5 mgN_k6 mgN_k7 mgN_k8 mgN_k9 mgN_k10 mgN_k11 mgN_k12 mgN_k13 mgN_k14 mgN_k15 mgN_k16 mgN_k17 mgN_k18 mgN_k19 mgN_k20 mgN_k21 mgN_k22 mgN_k23 mgN_k24 mgN_k25 mgN_k26 mgN_k27 mgN_k28 mgN_k29 mgN_k30 mgN_k31 mgN_k32
theorem mgN_inst : (Try.f12).isInstance Try.pinned.checked.prog Rows.fnMergeNodeNamesRow.origin Rows.fnMergeNodeNamesRow.targs := of_decide_eq_true (by kernel_rfl)
theorem mgN_wrap : (Try.f12).isWrapper Try.pinned.checked.prog Rows.fnMergeNodeNamesRow.wrapper Rows.fnMergeNodeNamesRow.mainSum := by unfold Func.isWrapper; first | (rw [if_pos (by decide +kernel)]; kernel_rfl) | (rw [if_neg (by decide +kernel)]; exact ⟨rfl, rfl⟩)
theorem mgN_holds : Rows.FnMergeNodeNamesSaid :=
  OpenClaim.holds_of_wide 12 Try.f12 rfl rfl rfl rfl rfl rfl rfl ⟨rfl, rfl, rfl, rfl, rfl⟩ rfl rfl rfl rfl rfl mgN_named Try.func12 mgN_facts mgN_inst mgN_wrap
    (fun os started H enc _ => mgN_lifted os started H enc)
#print axioms mgN_holds
end Go.Proofs.Ytiobnaielfeeaaa
