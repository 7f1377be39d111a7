/-
  FnCompareNodesThree returns true whatever the bytes, and they read behind the call as they read before. No condition.
-/
import Derived.Test.YtiobnaielfeeaaaPcG

set_option linter.unusedSimpArgs false
set_option linter.unusedVariables false
set_option linter.unnecessarySimpa false
set_option maxRecDepth 100000
set_option maxHeartbeats 16000000
namespace Go.Proofs.Ytiobnaielfeeaaa
open Go.ChangeShapes Go.WideShapes Go.ChangeAt Go.RowKit
theorem cmT_lifted (os : Os) (started : os.Started) (H : Type) (enc : TypeId × Value → H) :
    ReturnsInHanded {} Try.checked os 5 .any (Rows.fnCompareNodesThreeSpec.pre6 enc Try.prog Try.f5 Rows.fnCompareNodesThreeRow.domain false) (Rows.fnCompareNodesThreeSpec.post enc Try.prog Try.f5 false true false false) := by
  refine returnsInHanded_of_change (C := Try.checked) Try.own started (by kernel_rfl) Try.func5
    (ChangeSpec.witness6 (enc := enc) (C := Try.checked) false ⟨#[], #[.slice none 0 0], []⟩ 12 (by kernel_rfl) (by kernel_rfl) (by kernel_rfl) (by kernel_rfl)) ?_
  intro W base args ds gs before hval0 hW hcnd _
  have hval : ∀ (j : Nat) t v, Try.f5.params[j]? = some t → args[j]? = some v → Value.okWide Try.prog W .any base t v := hval0
  have hW' := hW
  obtain ⟨p, q, hA0, hV, rfl, hfz, hnd⟩ := hW
  have hA : DataW.TrodAll enc Try.prog W 0 (fun _ => true) true Try.f5.params.toList args.toList ds p := hA0
  rw [Try.params5] at hA hval
  obtain ⟨v0, d0, rfl, rfl, h0⟩ := trodAll_one hA
  obtain ⟨rfl, rfl⟩ := trodVars_none hV
  obtain ⟨qa0, ql0, qc0, rfl⟩ := okWide_slice Try.underlying22 (hval 0 22 v0 rfl rfl)
  obtain ⟨fuel0, h0⟩ := h0
  obtain ⟨x0, hx0⟩ := rv_bytes h0
  refine (law_bytes (Eng.lawCmpT_AC0 x0) W hx0).mono fun e W' ⟨he, hg⟩ => ?_
  subst he
  refine ⟨_, rfl, post_grow rfl ?_ (by kernel_rfl) rfl hW' hg⟩
  intro t ht
  rw [Try.params5] at ht
  simp at ht
  subst ht
  exact ⟨by kernel_rfl, of_decide_eq_true (by kernel_rfl)⟩
theorem cmT_named : Try.pinned.checked.prog.funcNamed Rows.fnCompareNodesThreeRow.func = some 5 := by kernel_rfl
theorem cmT_k1 : Rows.fnCompareNodesThreeRow.wf (OpenSpec.ofChange Rows.fnCompareNodesThreeSpec) = true := by kernel_rfl
theorem cmT_k2 : laidOutB Try.pinned.checked.prog = true := by kernel_rfl
theorem cmT_k3 : mapsRowed Try.pinned.checked.prog = true := by kernel_rfl
theorem cmT_k4 : Try.f5.params.all (Try.pinned.checked.prog.readableRec ·) = true := by kernel_rfl
theorem cmT_k5 : namedTie Try.pinned.checked.prog Rows.fnCompareNodesThreeRow.named Rows.fnCompareNodesThreeSpec.vars = true := by kernel_rfl
theorem cmT_k6 : (Rows.fnCompareNodesThreeRow.stops == []) = true := by kernel_rfl
theorem cmT_k7 : (Try.pinned.checked.prog.stops == []) = true := by kernel_rfl
theorem cmT_k8 : (Rows.fnCompareNodesThreeRow.knobs == []) = true := by kernel_rfl
theorem cmT_k9 : (Try.pinned.checked.prog.stopKnobs == []) = true := by kernel_rfl
theorem cmT_k10 : (Rows.fnCompareNodesThreeRow.inPlace == Try.pinned.checked.prog.inPlace 5) = true := by kernel_rfl
theorem cmT_k11 : (Rows.fnCompareNodesThreeRow.unfollowed == Try.pinned.checked.prog.unfollowed 5) = true := by kernel_rfl
theorem cmT_k12 : (Rows.fnCompareNodesThreeRow.recurses == Try.pinned.checked.prog.recurses 5) = true := by kernel_rfl
theorem cmT_k13 : (Rows.fnCompareNodesThreeRow.named == Try.pinned.checked.prog.varsNamed 5) = true := by kernel_rfl
theorem cmT_k14 : (Rows.fnCompareNodesThreeRow.maps == (Try.f5.params.toList ++ Rows.fnCompareNodesThreeSpec.plain.varTypes Try.pinned.checked.prog).any (Try.pinned.checked.prog.mapsRec ·)) = true := by kernel_rfl
theorem cmT_k15 : (Rows.fnCompareNodesThreeRow.ifaces == (Try.f5.params.toList ++ Rows.fnCompareNodesThreeSpec.plain.varTypes Try.pinned.checked.prog).any (Try.pinned.checked.prog.ifacesRec ·)) = true := by kernel_rfl
theorem cmT_k16 : (Rows.fnCompareNodesThreeRow.mapsOut == Try.pinned.checked.prog.mapsAmong Try.f5.resultTypes.toList) = true := by kernel_rfl
theorem cmT_k17 : (Rows.fnCompareNodesThreeRow.loops == (Try.f5.params.toList ++ Rows.fnCompareNodesThreeSpec.plain.varTypes Try.pinned.checked.prog).any (Try.pinned.checked.prog.loopsFrom ·)) = true := by kernel_rfl
theorem cmT_k18 : (Rows.fnCompareNodesThreeRow.wideKeys == (Try.f5.params.toList ++ Rows.fnCompareNodesThreeSpec.plain.varTypes Try.pinned.checked.prog ++ Try.f5.resultTypes.toList).any (Try.pinned.checked.prog.wideKeysFrom ·)) = true := by kernel_rfl
theorem cmT_k19 : Rows.fnCompareNodesThreeSpec.vars.all (Try.pinned.checked.prog.varReadable ·) = true := by kernel_rfl
theorem cmT_k20 : Try.f5.resultTypes.all (fun t => Try.pinned.checked.prog.readableRec t && decide (t < Try.pinned.checked.prog.types.size)) = true := by kernel_rfl
theorem cmT_k21 : (Rows.fnCompareNodesThreeRow.ifacesOut == Try.f5.resultTypes.toList.any (Try.pinned.checked.prog.ifacesRec ·)) = true := by kernel_rfl
theorem cmT_k22 : (Rows.fnCompareNodesThreeRow.loopsOut == Try.f5.resultTypes.toList.any (Try.pinned.checked.prog.loopsFrom ·)) = true := by kernel_rfl
theorem cmT_k23 : (Rows.fnCompareNodesThreeRow.plainKeys == Try.pinned.checked.prog.plainKeys) = true := by kernel_rfl
theorem cmT_k24 : Rows.fnCompareNodesThreeRow.shortTexts.isNone = true := by kernel_rfl
theorem cmT_k25 : Try.pinned.checked.prog.stopsHeard = true := by kernel_rfl
theorem cmT_k26 : Try.pinned.checked.prog.mayEnter = true := io_enter
theorem cmT_k27 : (Rows.fnCompareNodesThreeRow.lifted == Try.pinned.checked.prog.liftsFinal) = true := by
  show (false == Try.prog.liftsFinal) = true
  rw [io_lifts]; rfl
theorem cmT_k28 : (Try.pinned.checked.prog.make == some Rows.fnCompareNodesThreeRow.make) = true := by
  show (Try.prog.make == some Make.cut) = true
  rw [io_make]; rfl
theorem cmT_k29 : (Rows.fnCompareNodesThreeRow.kinds == (if Rows.fnCompareNodesThreeRow.domain.isEmpty then [] else Try.f5.params.toList.map fun t => match Try.pinned.checked.prog.underlying t with | some (.int k) => some k | _ => none)) = true := by kernel_rfl
theorem cmT_k30 : (Rows.fnCompareNodesThreeRow.pinned == Rows.fnCompareNodesThreeRow.pinnedBy) = true := by kernel_rfl
theorem cmT_k31 : (Rows.fnCompareNodesThreeRow.veiled == (Try.f5.params.toList ++ Rows.fnCompareNodesThreeSpec.plain.varTypes Try.pinned.checked.prog ++ Try.f5.resultTypes.toList).any (Try.pinned.checked.prog.veiledRec ·)) = true := by kernel_rfl
theorem cmT_k32 : Rows.fnCompareNodesThreeRow.veiledFits Try.pinned.checked.prog Try.f5.params.toList (Try.f5.params.toList ++ Rows.fnCompareNodesThreeSpec.plain.varTypes Try.pinned.checked.prog ++ Try.f5.resultTypes.toList) = true := by kernel_rfl
theorem cmT_facts : joinedFacts Try.pinned.checked.prog 5 Try.f5 Rows.fnCompareNodesThreeSpec Rows.fnCompareNodesThreeRow = true := joined_mk cmT_k1 cmT_k2 cmT_k3 cmT_k4 cmT_k5 cmT_k6 cmT_k7 cmT_k8 cmT_k9 cmT_k10 cmT_k11 cmT_k12 cmT_k13 cmT_k14 cmT_k15 cmT_k16 cmT_k17 cmT_k18 cmT_k19 cmT_k20 cmT_k21 cmT_k22 cmT_k23 cmT_k24 cmT_k25 cmT_k26 cmT_k27 cmT_k28 cmT_k29 cmT_k30 cmT_k31 cmT_k32
theorem cmT_inst : (Try.f5).isInstance Try.pinned.checked.prog Rows.fnCompareNodesThreeRow.origin Rows.fnCompareNodesThreeRow.targs := of_decide_eq_true (by kernel_rfl)
theorem cmT_wrap : (Try.f5).isWrapper Try.pinned.checked.prog Rows.fnCompareNodesThreeRow.wrapper Rows.fnCompareNodesThreeRow.mainSum := by unfold Func.isWrapper; first | (rw [if_pos (by decide +kernel)]; kernel_rfl) | (rw [if_neg (by decide +kernel)]; exact ⟨rfl, rfl⟩)
theorem cmT_holds : Rows.FnCompareNodesThreeSaid :=
  OpenClaim.holds_of_wide 5 Try.f5 rfl rfl rfl rfl rfl rfl rfl ⟨rfl, rfl, rfl, rfl, rfl⟩ rfl rfl rfl rfl rfl cmT_named Try.func5 cmT_facts cmT_inst cmT_wrap
    (fun os started H enc _ => cmT_lifted os started H enc)
#print axioms cmT_holds
end Go.Proofs.Ytiobnaielfeeaaa
