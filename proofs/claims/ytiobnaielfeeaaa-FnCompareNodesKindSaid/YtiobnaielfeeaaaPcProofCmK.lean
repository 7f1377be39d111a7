/-
  FnCompareNodesKind returns true whatever the bytes, and they read behind the call as they read before. No condition.
-/
import Derived.Test.YtiobnaielfeeaaaPcG

set_option linter.unusedSimpArgs false
set_option linter.unusedVariables false
set_option linter.unnecessarySimpa false
set_option maxRecDepth 100000
set_option maxHeartbeats 16000000
namespace Go.Proofs.Ytiobnaielfeeaaa
open Go.ChangeShapes Go.WideShapes Go.ChangeAt Go.RowKit
theorem cmK_lifted (os : Os) (started : os.Started) (H : Type) (enc : TypeId × Value → H) :
    ReturnsInHanded {} Try.checked os 4 .any (Rows.fnCompareNodesKindSpec.pre6 enc Try.prog Try.f4 Rows.fnCompareNodesKindRow.domain false) (Rows.fnCompareNodesKindSpec.post enc Try.prog Try.f4 false true false false) := by
  refine returnsInHanded_of_change (C := Try.checked) Try.own started (by kernel_rfl) Try.func4
    (ChangeSpec.witness6 (enc := enc) (C := Try.checked) false ⟨#[], #[.slice none 0 0], []⟩ 12 (by kernel_rfl) (by kernel_rfl) (by kernel_rfl) (by kernel_rfl)) ?_
  intro W base args ds gs before hval0 hW hcnd _
  have hval : ∀ (j : Nat) t v, Try.f4.params[j]? = some t → args[j]? = some v → Value.okWide Try.prog W .any base t v := hval0
  have hW' := hW
  obtain ⟨p, q, hA0, hV, rfl, hfz, hnd⟩ := hW
  have hA : DataW.TrodAll enc Try.prog W 0 (fun _ => true) true Try.f4.params.toList args.toList ds p := hA0
  rw [Try.params4] at hA hval
  obtain ⟨v0, d0, rfl, rfl, h0⟩ := trodAll_one hA
  obtain ⟨rfl, rfl⟩ := trodVars_none hV
  obtain ⟨qa0, ql0, qc0, rfl⟩ := okWide_slice Try.underlying22 (hval 0 22 v0 rfl rfl)
  obtain ⟨fuel0, h0⟩ := h0
  obtain ⟨x0, hx0⟩ := rv_bytes h0
  refine (law_bytes (Eng.lawCmpK_AC0 x0) W hx0).mono fun e W' ⟨he, hg⟩ => ?_
  subst he
  refine ⟨_, rfl, post_grow rfl ?_ (by kernel_rfl) rfl hW' hg⟩
  intro t ht
  rw [Try.params4] at ht
  simp at ht
  subst ht
  exact ⟨by kernel_rfl, of_decide_eq_true (by kernel_rfl)⟩
theorem cmK_named : Try.pinned.checked.prog.funcNamed Rows.fnCompareNodesKindRow.func = some 4 := by kernel_rfl
theorem cmK_k1 : Rows.fnCompareNodesKindRow.wf (OpenSpec.ofChange Rows.fnCompareNodesKindSpec) = true := by kernel_rfl
theorem cmK_k2 : laidOutB Try.pinned.checked.prog = true := by kernel_rfl
theorem cmK_k3 : mapsRowed Try.pinned.checked.prog = true := by kernel_rfl
theorem cmK_k4 : Try.f4.params.all (Try.pinned.checked.prog.readableRec ·) = true := by kernel_rfl
theorem cmK_k5 : namedTie Try.pinned.checked.prog Rows.fnCompareNodesKindRow.named Rows.fnCompareNodesKindSpec.vars = true := by kernel_rfl
theorem cmK_k6 : (Rows.fnCompareNodesKindRow.stops == []) = true := by kernel_rfl
theorem cmK_k7 : (Try.pinned.checked.prog.stops == []) = true := by kernel_rfl
theorem cmK_k8 : (Rows.fnCompareNodesKindRow.knobs == []) = true := by kernel_rfl
theorem cmK_k9 : (Try.pinned.checked.prog.stopKnobs == []) = true := by kernel_rfl
theorem cmK_k10 : (Rows.fnCompareNodesKindRow.inPlace == Try.pinned.checked.prog.inPlace 4) = true := by kernel_rfl
theorem cmK_k11 : (Rows.fnCompareNodesKindRow.unfollowed == Try.pinned.checked.prog.unfollowed 4) = true := by kernel_rfl
theorem cmK_k12 : (Rows.fnCompareNodesKindRow.recurses == Try.pinned.checked.prog.recurses 4) = true := by kernel_rfl
theorem cmK_k13 : (Rows.fnCompareNodesKindRow.named == Try.pinned.checked.prog.varsNamed 4) = true := by kernel_rfl
theorem cmK_k14 : (Rows.fnCompareNodesKindRow.maps == (Try.f4.params.toList ++ Rows.fnCompareNodesKindSpec.plain.varTypes Try.pinned.checked.prog).any (Try.pinned.checked.prog.mapsRec ·)) = true := by kernel_rfl
theorem cmK_k15 : (Rows.fnCompareNodesKindRow.ifaces == (Try.f4.params.toList ++ Rows.fnCompareNodesKindSpec.plain.varTypes Try.pinned.checked.prog).any (Try.pinned.checked.prog.ifacesRec ·)) = true := by kernel_rfl
theorem cmK_k16 : (Rows.fnCompareNodesKindRow.mapsOut == Try.pinned.checked.prog.mapsAmong Try.f4.resultTypes.toList) = true := by kernel_rfl
theorem cmK_k17 : (Rows.fnCompareNodesKindRow.loops == (Try.f4.params.toList ++ Rows.fnCompareNodesKindSpec.plain.varTypes Try.pinned.checked.prog).any (Try.pinned.checked.prog.loopsFrom ·)) = true := by kernel_rfl
theorem cmK_k18 : (Rows.fnCompareNodesKindRow.wideKeys == (Try.f4.params.toList ++ Rows.fnCompareNodesKindSpec.plain.varTypes Try.pinned.checked.prog ++ Try.f4.resultTypes.toList).any (Try.pinned.checked.prog.wideKeysFrom ·)) = true := by kernel_rfl
theorem cmK_k19 : Rows.fnCompareNodesKindSpec.vars.all (Try.pinned.checked.prog.varReadable ·) = true := by kernel_rfl
theorem cmK_k20 : Try.f4.resultTypes.all (fun t => Try.pinned.checked.prog.readableRec t && decide (t < Try.pinned.checked.prog.types.size)) = true := by kernel_rfl
theorem cmK_k21 : (Rows.fnCompareNodesKindRow.ifacesOut == Try.f4.resultTypes.toList.any (Try.pinned.checked.prog.ifacesRec ·)) = true := by kernel_rfl
theorem cmK_k22 : (Rows.fnCompareNodesKindRow.loopsOut == Try.f4.resultTypes.toList.any (Try.pinned.checked.prog.loopsFrom ·)) = true := by kernel_rfl
theorem cmK_k23 : (Rows.fnCompareNodesKindRow.plainKeys == Try.pinned.checked.prog.plainKeys) = true := by kernel_rfl
theorem cmK_k24 : Rows.fnCompareNodesKindRow.shortTexts.isNone = true := by kernel_rfl
theorem cmK_k25 : Try.pinned.checked.prog.stopsHeard = true := by kernel_rfl
theorem cmK_k26 : Try.pinned.checked.prog.mayEnter = true := io_enter
theorem cmK_k27 : (Rows.fnCompareNodesKindRow.lifted == Try.pinned.checked.prog.liftsFinal) = true := by
  show (false == Try.prog.liftsFinal) = true
  rw [io_lifts]; rfl
theorem cmK_k28 : (Try.pinned.checked.prog.make == some Rows.fnCompareNodesKindRow.make) = true := by
  show (Try.prog.make == some Make.cut) = true
  rw [io_make]; rfl
theorem cmK_k29 : (Rows.fnCompareNodesKindRow.kinds == (if Rows.fnCompareNodesKindRow.domain.isEmpty then [] else Try.f4.params.toList.map fun t => match Try.pinned.checked.prog.underlying t with | some (.int k) => some k | _ => none)) = true := by kernel_rfl
theorem cmK_k30 : (Rows.fnCompareNodesKindRow.pinned == Rows.fnCompareNodesKindRow.pinnedBy) = true := by kernel_rfl
theorem cmK_k31 : (Rows.fnCompareNodesKindRow.veiled == (Try.f4.params.toList ++ Rows.fnCompareNodesKindSpec.plain.varTypes Try.pinned.checked.prog ++ Try.f4.resultTypes.toList).any (Try.pinned.checked.prog.veiledRec ·)) = true := by kernel_rfl
theorem cmK_k32 : Rows.fnCompareNodesKindRow.veiledFits Try.pinned.checked.prog Try.f4.params.toList (Try.f4.params.toList ++ Rows.fnCompareNodesKindSpec.plain.varTypes Try.pinned.checked.prog ++ Try.f4.resultTypes.toList) = true := by kernel_rfl
theorem cmK_facts : joinedFacts Try.pinned.checked.prog 4 Try.f4 Rows.fnCompareNodesKindSpec Rows.fnCompareNodesKindRow = true := joined_mk cmK_k1 cmK_k2 cmK_k3 cmK_k4 cmK_k5 cmK_k6 cmK_k7 cmK_k8 cmK_k9 cmK_k10 cmK_k11 cmK_k12 cmK_k13 cmK_k14 cmK_k15 cmK_k16 cmK_k17 cmK_k18 cmK_k19 cmK_k20 cmK_k21 cmK_k22 cmK_k23 cmK_k24 cmK_k25 cmK_k26 cmK_k27 cmK_k28 cmK_k29 cmK_k30 cmK_k31 cmK_k32
theorem cmK_inst : (Try.f4).isInstance Try.pinned.checked.prog Rows.fnCompareNodesKindRow.origin Rows.fnCompareNodesKindRow.targs := of_decide_eq_true (by kernel_rfl)
theorem cmK_wrap : (Try.f4).isWrapper Try.pinned.checked.prog Rows.fnCompareNodesKindRow.wrapper Rows.fnCompareNodesKindRow.mainSum := by unfold Func.isWrapper; first | (rw [if_pos (by decide +kernel)]; kernel_rfl) | (rw [if_neg (by decide +kernel)]; exact ⟨rfl, rfl⟩)
theorem cmK_holds : Rows.FnCompareNodesKindSaid :=
  OpenClaim.holds_of_wide 4 Try.f4 rfl rfl rfl rfl rfl rfl rfl ⟨rfl, rfl, rfl, rfl, rfl⟩ rfl rfl rfl rfl rfl cmK_named Try.func4 cmK_facts cmK_inst cmK_wrap
    (fun os started H enc _ => cmK_lifted os started H enc)
#print axioms cmK_holds
end Go.Proofs.Ytiobnaielfeeaaa
