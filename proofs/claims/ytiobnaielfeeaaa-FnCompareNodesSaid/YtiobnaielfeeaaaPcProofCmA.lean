/-
  FnCompareNodes returns true whatever the bytes, and they read behind the call as they read before. No condition.
-/
import Derived.Test.YtiobnaielfeeaaaPcG

set_option linter.unusedSimpArgs false
set_option linter.unusedVariables false
set_option linter.unnecessarySimpa false
set_option maxRecDepth 100000
set_option maxHeartbeats 16000000
namespace Go.Proofs.Ytiobnaielfeeaaa
open Go.ChangeShapes Go.WideShapes Go.ChangeAt Go.RowKit
theorem cmA_lifted (os : Os) (started : os.Started) (H : Type) (enc : TypeId × Value → H) :
    ReturnsInHanded {} Try.checked os 6 .any (Rows.fnCompareNodesSpec.pre6 enc Try.prog Try.f6 Rows.fnCompareNodesRow.domain false) (Rows.fnCompareNodesSpec.post enc Try.prog Try.f6 false true false false) := by
  refine returnsInHanded_of_change (C := Try.checked) Try.own started (by kernel_rfl) Try.func6
    (ChangeSpec.witness6 (enc := enc) (C := Try.checked) false ⟨#[], #[.slice none 0 0], []⟩ 12 (by kernel_rfl) (by kernel_rfl) (by kernel_rfl) (by kernel_rfl)) ?_
  intro W base args ds gs before hval0 hW hcnd _
  have hval : ∀ (j : Nat) t v, Try.f6.params[j]? = some t → args[j]? = some v → Value.okWide Try.prog W .any base t v := hval0
  have hW' := hW
  obtain ⟨p, q, hA0, hV, rfl, hfz, hnd⟩ := hW
  have hA : DataW.TrodAll enc Try.prog W 0 (fun _ => true) true Try.f6.params.toList args.toList ds p := hA0
  rw [Try.params6] at hA hval
  obtain ⟨v0, d0, rfl, rfl, h0⟩ := trodAll_one hA
  obtain ⟨rfl, rfl⟩ := trodVars_none hV
  obtain ⟨qa0, ql0, qc0, rfl⟩ := okWide_slice Try.underlying22 (hval 0 22 v0 rfl rfl)
  obtain ⟨fuel0, h0⟩ := h0
  obtain ⟨x0, hx0⟩ := rv_bytes h0
  refine (law_bytes (Eng.lawCmp_AC0 x0) W hx0).mono fun e W' ⟨he, hg⟩ => ?_
  subst he
  refine ⟨_, rfl, post_grow rfl ?_ (by kernel_rfl) rfl hW' hg⟩
  intro t ht
  rw [Try.params6] at ht
  simp at ht
  subst ht
  exact ⟨by kernel_rfl, of_decide_eq_true (by kernel_rfl)⟩
theorem cmA_named : Try.pinned.checked.prog.funcNamed Rows.fnCompareNodesRow.func = some 6 := by kernel_rfl
theorem cmA_k1 : Rows.fnCompareNodesRow.wf (OpenSpec.ofChange Rows.fnCompareNodesSpec) = true := by kernel_rfl
theorem cmA_k2 : laidOutB Try.pinned.checked.prog = true := by kernel_rfl
theorem cmA_k3 : mapsRowed Try.pinned.checked.prog = true := by kernel_rfl
theorem cmA_k4 : Try.f6.params.all (Try.pinned.checked.prog.readableRec ·) = true := by kernel_rfl
theorem cmA_k5 : namedTie Try.pinned.checked.prog Rows.fnCompareNodesRow.named Rows.fnCompareNodesSpec.vars = true := by kernel_rfl
theorem cmA_k6 : (Rows.fnCompareNodesRow.stops == []) = true := by kernel_rfl
theorem cmA_k7 : (Try.pinned.checked.prog.stops == []) = true := by kernel_rfl
theorem cmA_k8 : (Rows.fnCompareNodesRow.knobs == []) = true := by kernel_rfl
theorem cmA_k9 : (Try.pinned.checked.prog.stopKnobs == []) = true := by kernel_rfl
theorem cmA_k10 : (Rows.fnCompareNodesRow.inPlace == Try.pinned.checked.prog.inPlace 6) = true := by kernel_rfl
theorem cmA_k11 : (Rows.fnCompareNodesRow.unfollowed == Try.pinned.checked.prog.unfollowed 6) = true := by kernel_rfl
theorem cmA_k12 : (Rows.fnCompareNodesRow.recurses == Try.pinned.checked.prog.recurses 6) = true := by kernel_rfl
theorem cmA_k13 : (Rows.fnCompareNodesRow.named == Try.pinned.checked.prog.varsNamed 6) = true := by kernel_rfl
theorem cmA_k14 : (Rows.fnCompareNodesRow.maps == (Try.f6.params.toList ++ Rows.fnCompareNodesSpec.plain.varTypes Try.pinned.checked.prog).any (Try.pinned.checked.prog.mapsRec ·)) = true := by kernel_rfl
theorem cmA_k15 : (Rows.fnCompareNodesRow.ifaces == (Try.f6.params.toList ++ Rows.fnCompareNodesSpec.plain.varTypes Try.pinned.checked.prog).any (Try.pinned.checked.prog.ifacesRec ·)) = true := by kernel_rfl
theorem cmA_k16 : (Rows.fnCompareNodesRow.mapsOut == Try.pinned.checked.prog.mapsAmong Try.f6.resultTypes.toList) = true := by kernel_rfl
theorem cmA_k17 : (Rows.fnCompareNodesRow.loops == (Try.f6.params.toList ++ Rows.fnCompareNodesSpec.plain.varTypes Try.pinned.checked.prog).any (Try.pinned.checked.prog.loopsFrom ·)) = true := by kernel_rfl
theorem cmA_k18 : (Rows.fnCompareNodesRow.wideKeys == (Try.f6.params.toList ++ Rows.fnCompareNodesSpec.plain.varTypes Try.pinned.checked.prog ++ Try.f6.resultTypes.toList).any (Try.pinned.checked.prog.wideKeysFrom ·)) = true := by kernel_rfl
theorem cmA_k19 : Rows.fnCompareNodesSpec.vars.all (Try.pinned.checked.prog.varReadable ·) = true := by kernel_rfl
theorem cmA_k20 : Try.f6.resultTypes.all (fun t => Try.pinned.checked.prog.readableRec t && decide (t < Try.pinned.checked.prog.types.size)) = true := by kernel_rfl
theorem cmA_k21 : (Rows.fnCompareNodesRow.ifacesOut == Try.f6.resultTypes.toList.any (Try.pinned.checked.prog.ifacesRec ·)) = true := by kernel_rfl
theorem cmA_k22 : (Rows.fnCompareNodesRow.loopsOut == Try.f6.resultTypes.toList.any (Try.pinned.checked.prog.loopsFrom ·)) = true := by kernel_rfl
theorem cmA_k23 : (Rows.fnCompareNodesRow.plainKeys == Try.pinned.checked.prog.plainKeys) = true := by kernel_rfl
theorem cmA_k24 : Rows.fnCompareNodesRow.shortTexts.isNone = true := by kernel_rfl
theorem cmA_k25 : Try.pinned.checked.prog.stopsHeard = true := by kernel_rfl
theorem cmA_k26 : Try.pinned.checked.prog.mayEnter = true := io_enter
theorem cmA_k27 : (Rows.fnCompareNodesRow.lifted == Try.pinned.checked.prog.liftsFinal) = true := by
  show (false == Try.prog.liftsFinal) = true
  rw [io_lifts]; rfl
theorem cmA_k28 : (Try.pinned.checked.prog.make == some Rows.fnCompareNodesRow.make) = true := by
  show (Try.prog.make == some Make.cut) = true
  rw [io_make]; rfl
theorem cmA_k29 : (Rows.fnCompareNodesRow.kinds == (if Rows.fnCompareNodesRow.domain.isEmpty then [] else Try.f6.params.toList.map fun t => match Try.pinned.checked.prog.underlying t with | some (.int k) => some k | _ => none)) = true := by kernel_rfl
theorem cmA_k30 : (Rows.fnCompareNodesRow.pinned == Rows.fnCompareNodesRow.pinnedBy) = true := by kernel_rfl
theorem cmA_k31 : (Rows.fnCompareNodesRow.veiled == (Try.f6.params.toList ++ Rows.fnCompareNodesSpec.plain.varTypes Try.pinned.checked.prog ++ Try.f6.resultTypes.toList).any (Try.pinned.checked.prog.veiledRec ·)) = true := by kernel_rfl
theorem cmA_k32 : Rows.fnCompareNodesRow.veiledFits Try.pinned.checked.prog Try.f6.params.toList (Try.f6.params.toList ++ Rows.fnCompareNodesSpec.plain.varTypes Try.pinned.checked.prog ++ Try.f6.resultTypes.toList) = true := by kernel_rfl
theorem cmA_facts : joinedFacts Try.pinned.checked.prog 6 Try.f6 Rows.fnCompareNodesSpec Rows.fnCompareNodesRow = true := joined_mk cmA_k1 cmA_k2 cmA_k3 cmA_k4 cmA_k5 cmA_k6 cmA_k7 cmA_k8 cmA_k9 cmA_k10 cmA_k11 cmA_k12 cmA_k13 cmA_k14 cmA_k15 cmA_k16 cmA_k17 cmA_k18 cmA_k19 cmA_k20 cmA_k21 cmA_k22 cmA_k23 cmA_k24 cmA_k25 cmA_k26 cmA_k27 cmA_k28 cmA_k29 cmA_k30 cmA_k31 cmA_k32
theorem cmA_inst : (Try.f6).isInstance Try.pinned.checked.prog Rows.fnCompareNodesRow.origin Rows.fnCompareNodesRow.targs := of_decide_eq_true (by kernel_rfl)
theorem cmA_wrap : (Try.f6).isWrapper Try.pinned.checked.prog Rows.fnCompareNodesRow.wrapper Rows.fnCompareNodesRow.mainSum := by unfold Func.isWrapper; first | (rw [if_pos (by decide +kernel)]; kernel_rfl) | (rw [if_neg (by decide +kernel)]; exact ⟨rfl, rfl⟩)
theorem cmA_holds : Rows.FnCompareNodesSaid :=
  OpenClaim.holds_of_wide 6 Try.f6 rfl rfl rfl rfl rfl rfl rfl ⟨rfl, rfl, rfl, rfl, rfl⟩ rfl rfl rfl rfl rfl cmA_named Try.func6 cmA_facts cmA_inst cmA_wrap
    (fun os started H enc _ => cmA_lifted os started H enc)
#print axioms cmA_holds
end Go.Proofs.Ytiobnaielfeeaaa
