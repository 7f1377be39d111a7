/-
  FnMergeNode returns true whatever the bytes, and they read behind the call as they read before. No condition.
-/
import Derived.Test.YtiobnaielfeeaaaPmJ

set_option linter.unusedSimpArgs false
set_option linter.unusedVariables false
set_option linter.unnecessarySimpa false
set_option maxRecDepth 100000
set_option maxHeartbeats 16000000
namespace Go.Proofs.Ytiobnaielfeeaaa
open Go.ChangeShapes Go.WideShapes Go.ChangeAt Go.RowKit
theorem mgA_lifted (os : Os) (started : os.Started) (H : Type) (enc : TypeId × Value → H) :
    ReturnsInHanded {} Try.checked os 10 .any (Rows.fnMergeNodeSpec.pre6 enc Try.prog Try.f10 Rows.fnMergeNodeRow.domain false) (Rows.fnMergeNodeSpec.post enc Try.prog Try.f10 false true false false) := by
  refine returnsInHanded_of_change (C := Try.checked) Try.own started (by kernel_rfl) Try.func10
    (ChangeSpec.witness6 (enc := enc) (C := Try.checked) false ⟨#[], #[.slice none 0 0], []⟩ 12 (by kernel_rfl) (by kernel_rfl) (by kernel_rfl) (by kernel_rfl)) ?_
  intro W base args ds gs before hval0 hW hcnd _
  have hval : ∀ (j : Nat) t v, Try.f10.params[j]? = some t → args[j]? = some v → Value.okWide Try.prog W .any base t v := hval0
  have hW' := hW
  obtain ⟨p, q, hA0, hV, rfl, hfz, hnd⟩ := hW
  have hA : DataW.TrodAll enc Try.prog W 0 (fun _ => true) true Try.f10.params.toList args.toList ds p := hA0
  rw [Try.params10] at hA hval
  obtain ⟨v0, d0, rfl, rfl, h0⟩ := trodAll_one hA
  obtain ⟨rfl, rfl⟩ := trodVars_none hV
  obtain ⟨qa0, ql0, qc0, rfl⟩ := okWide_slice Try.underlying22 (hval 0 22 v0 rfl rfl)
  obtain ⟨fuel0, h0⟩ := h0
  obtain ⟨x0, hx0⟩ := rv_bytes h0
  refine (law_bytes (Eng.lawMrg_AC0 x0) W hx0).mono fun e W' ⟨he, hg⟩ => ?_
  subst he
  refine ⟨_, rfl, post_grow rfl ?_ (by kernel_rfl) rfl hW' hg⟩
  intro t ht
  rw [Try.params10] at ht
  simp at ht
  subst ht
  exact ⟨by kernel_rfl, of_decide_eq_true (by kernel_rfl)⟩
theorem mgA_named : Try.pinned.checked.prog.funcNamed Rows.fnMergeNodeRow.func = some 10 := by kernel_rfl
theorem mgA_k1 : Rows.fnMergeNodeRow.wf (OpenSpec.ofChange Rows.fnMergeNodeSpec) = true := by kernel_rfl
theorem mgA_k2 : laidOutB Try.pinned.checked.prog = true := by kernel_rfl
theorem mgA_k3 : mapsRowed Try.pinned.checked.prog = true := by kernel_rfl
theorem mgA_k4 : Try.f10.params.all (Try.pinned.checked.prog.readableRec ·) = true := by kernel_rfl
theorem mgA_k5 : namedTie Try.pinned.checked.prog Rows.fnMergeNodeRow.named Rows.fnMergeNodeSpec.vars = true := by kernel_rfl
theorem mgA_k6 : (Rows.fnMergeNodeRow.stops == []) = true := by kernel_rfl
theorem mgA_k7 : (Try.pinned.checked.prog.stops == []) = true := by kernel_rfl
theorem mgA_k8 : (Rows.fnMergeNodeRow.knobs == []) = true := by kernel_rfl
theorem mgA_k9 : (Try.pinned.checked.prog.stopKnobs == []) = true := by kernel_rfl
theorem mgA_k10 : (Rows.fnMergeNodeRow.inPlace == Try.pinned.checked.prog.inPlace 10) = true := by kernel_rfl
theorem mgA_k11 : (Rows.fnMergeNodeRow.unfollowed == Try.pinned.checked.prog.unfollowed 10) = true := by kernel_rfl
theorem mgA_k12 : (Rows.fnMergeNodeRow.recurses == Try.pinned.checked.prog.recurses 10) = true := by kernel_rfl
theorem mgA_k13 : (Rows.fnMergeNodeRow.named == Try.pinned.checked.prog.varsNamed 10) = true := by kernel_rfl
theorem mgA_k14 : (Rows.fnMergeNodeRow.maps == (Try.f10.params.toList ++ Rows.fnMergeNodeSpec.plain.varTypes Try.pinned.checked.prog).any (Try.pinned.checked.prog.mapsRec ·)) = true := by kernel_rfl
theorem mgA_k15 : (Rows.fnMergeNodeRow.ifaces == (Try.f10.params.toList ++ Rows.fnMergeNodeSpec.plain.varTypes Try.pinned.checked.prog).any (Try.pinned.checked.prog.ifacesRec ·)) = true := by kernel_rfl
theorem mgA_k16 : (Rows.fnMergeNodeRow.mapsOut == Try.pinned.checked.prog.mapsAmong Try.f10.resultTypes.toList) = true := by kernel_rfl
theorem mgA_k17 : (Rows.fnMergeNodeRow.loops == (Try.f10.params.toList ++ Rows.fnMergeNodeSpec.plain.varTypes Try.pinned.checked.prog).any (Try.pinned.checked.prog.loopsFrom ·)) = true := by kernel_rfl
theorem mgA_k18 : (Rows.fnMergeNodeRow.wideKeys == (Try.f10.params.toList ++ Rows.fnMergeNodeSpec.plain.varTypes Try.pinned.checked.prog ++ Try.f10.resultTypes.toList).any (Try.pinned.checked.prog.wideKeysFrom ·)) = true := by kernel_rfl
theorem mgA_k19 : Rows.fnMergeNodeSpec.vars.all (Try.pinned.checked.prog.varReadable ·) = true := by kernel_rfl
theorem mgA_k20 : Try.f10.resultTypes.all (fun t => Try.pinned.checked.prog.readableRec t && decide (t < Try.pinned.checked.prog.types.size)) = true := by kernel_rfl
theorem mgA_k21 : (Rows.fnMergeNodeRow.ifacesOut == Try.f10.resultTypes.toList.any (Try.pinned.checked.prog.ifacesRec ·)) = true := by kernel_rfl
theorem mgA_k22 : (Rows.fnMergeNodeRow.loopsOut == Try.f10.resultTypes.toList.any (Try.pinned.checked.prog.loopsFrom ·)) = true := by kernel_rfl
theorem mgA_k23 : (Rows.fnMergeNodeRow.plainKeys == Try.pinned.checked.prog.plainKeys) = true := by kernel_rfl
theorem mgA_k24 : Rows.fnMergeNodeRow.shortTexts.isNone = true := by kernel_rfl
theorem mgA_k25 : Try.pinned.checked.prog.stopsHeard = true := by kernel_rfl
theorem mgA_k26 : Try.pinned.checked.prog.mayEnter = true := io_enter
theorem mgA_k27 : (Rows.fnMergeNodeRow.lifted == Try.pinned.checked.prog.liftsFinal) = true := by
  show (false == Try.prog.liftsFinal) = true
  rw [io_lifts]; rfl
theorem mgA_k28 : (Try.pinned.checked.prog.make == some Rows.fnMergeNodeRow.make) = true := by
  show (Try.prog.make == some Make.cut) = true
  rw [io_make]; rfl
theorem mgA_k29 : (Rows.fnMergeNodeRow.kinds == (if Rows.fnMergeNodeRow.domain.isEmpty then [] else Try.f10.params.toList.map fun t => match Try.pinned.checked.prog.underlying t with | some (.int k) => some k | _ => none)) = true := by kernel_rfl
theorem mgA_k30 : (Rows.fnMergeNodeRow.pinned == Rows.fnMergeNodeRow.pinnedBy) = true := by kernel_rfl
theorem mgA_k31 : (Rows.fnMergeNodeRow.veiled == (Try.f10.params.toList ++ Rows.fnMergeNodeSpec.plain.varTypes Try.pinned.checked.prog ++ Try.f10.resultTypes.toList).any (Try.pinned.checked.prog.veiledRec ·)) = true := by kernel_rfl
theorem mgA_k32 : Rows.fnMergeNodeRow.veiledFits Try.pinned.checked.prog Try.f10.params.toList (Try.f10.params.toList ++ Rows.fnMergeNodeSpec.plain.varTypes Try.pinned.checked.prog ++ Try.f10.resultTypes.toList) = true := by kernel_rfl
theorem mgA_facts : joinedFacts Try.pinned.checked.prog 10 Try.f10 Rows.fnMergeNodeSpec Rows.fnMergeNodeRow = true := joined_mk mgA_k1 mgA_k2 mgA_k3 mgA_k4 mgA_k5 mgA_k6 mgA_k7 mgA_k8 mgA_k9 mgA_k10 mgA_k11 mgA_k12 mgA_k13 mgA_k14 mgA_k15 mgA_k16 mgA_k17 mgA_k18 mgA_k19 mgA_k20 mgA_k21 mgA_k22 mgA_k23 mgA_k24 mgA_k25 mgA_k26 mgA_k27 mgA_k28 mgA_k29 mgA_k30 mgA_k31 mgA_k32
theorem mgA_inst : (Try.f10).isInstance Try.pinned.checked.prog Rows.fnMergeNodeRow.origin Rows.fnMergeNodeRow.targs := of_decide_eq_true (by kernel_rfl)
theorem mgA_wrap : (Try.f10).isWrapper Try.pinned.checked.prog Rows.fnMergeNodeRow.wrapper Rows.fnMergeNodeRow.mainSum := by unfold Func.isWrapper; first | (rw [if_pos (by decide +kernel)]; kernel_rfl) | (rw [if_neg (by decide +kernel)]; exact ⟨rfl, rfl⟩)
theorem mgA_holds : Rows.FnMergeNodeSaid :=
  OpenClaim.holds_of_wide 10 Try.f10 rfl rfl rfl rfl rfl rfl rfl ⟨rfl, rfl, rfl, rfl, rfl⟩ rfl rfl rfl rfl rfl mgA_named Try.func10 mgA_facts mgA_inst mgA_wrap
    (fun os started H enc _ => mgA_lifted os started H enc)
#print axioms mgA_holds
end Go.Proofs.Ytiobnaielfeeaaa
