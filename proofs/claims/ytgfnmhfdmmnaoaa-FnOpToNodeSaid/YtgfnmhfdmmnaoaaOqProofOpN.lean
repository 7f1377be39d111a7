/-
  FnOpToNode returns true whatever the bytes, and they read behind the call as they read before. No condition.
-/
import Derived.Test.YtgfnmhfdmmnaoaaOqI

set_option linter.unusedSimpArgs false
set_option linter.unusedVariables false
set_option linter.unnecessarySimpa false
set_option maxRecDepth 100000
set_option maxHeartbeats 16000000
namespace Go.Proofs.Ytgfnmhfdmmnaoaa
open Go.ChangeShapes Go.WideShapes Go.ChangeAt Go.RowKit
theorem opN_lifted (os : Os) (started : os.Started) (H : Type) (enc : TypeId × Value → H) :
    ReturnsInHanded {} Try.checked os 8 .any (Rows.fnOpToNodeSpec.pre6 enc Try.prog Try.f8 Rows.fnOpToNodeRow.domain false) (Rows.fnOpToNodeSpec.post enc Try.prog Try.f8 false true false false) := by
  refine returnsInHanded_of_change (C := Try.checked) Try.own started (by kernel_rfl) Try.func8
    (ChangeSpec.witness6 (enc := enc) (C := Try.checked) false ⟨#[], #[.slice none 0 0], []⟩ 12 (by kernel_rfl) (by kernel_rfl) (by kernel_rfl) (by kernel_rfl)) ?_
  intro W base args ds gs before hval0 hW hcnd _
  have hval : ∀ (j : Nat) t v, Try.f8.params[j]? = some t → args[j]? = some v → Value.okWide Try.prog W .any base t v := hval0
  have hW' := hW
  obtain ⟨p, q, hA0, hV, rfl, hfz, hnd⟩ := hW
  have hA : DataW.TrodAll enc Try.prog W 0 (fun _ => true) true Try.f8.params.toList args.toList ds p := hA0
  rw [Try.params8] at hA hval
  obtain ⟨v0, d0, rfl, rfl, h0⟩ := trodAll_one hA
  obtain ⟨rfl, rfl⟩ := trodVars_none hV
  obtain ⟨qa0, ql0, qc0, rfl⟩ := okWide_slice Try.underlying22 (hval 0 22 v0 rfl rfl)
  obtain ⟨fuel0, h0⟩ := h0
  obtain ⟨x0, hx0⟩ := rv_bytes h0
  refine (law_bytes (Eng.lawOpToNode_AC0 x0) W hx0).mono fun e W' ⟨he, hg⟩ => ?_
  subst he
  refine ⟨_, rfl, post_grow rfl ?_ (by kernel_rfl) rfl hW' hg⟩
  intro t ht
  rw [Try.params8] at ht
  simp at ht
  subst ht
  exact ⟨by kernel_rfl, of_decide_eq_true (by kernel_rfl)⟩
theorem opN_named : Try.pinned.checked.prog.funcNamed Rows.fnOpToNodeRow.func = some 8 := by kernel_rfl
theorem opN_k1 : Rows.fnOpToNodeRow.wf (OpenSpec.ofChange Rows.fnOpToNodeSpec) = true := by kernel_rfl
theorem opN_k2 : laidOutB Try.pinned.checked.prog = true := by kernel_rfl
theorem opN_k3 : mapsRowed Try.pinned.checked.prog = true := by kernel_rfl
theorem opN_k4 : Try.f8.params.all (Try.pinned.checked.prog.readableRec ·) = true := by kernel_rfl
theorem opN_k5 : namedTie Try.pinned.checked.prog Rows.fnOpToNodeRow.named Rows.fnOpToNodeSpec.vars = true := by kernel_rfl
theorem opN_k6 : (Rows.fnOpToNodeRow.stops == []) = true := by kernel_rfl
theorem opN_k7 : (Try.pinned.checked.prog.stops == []) = true := by kernel_rfl
theorem opN_k8 : (Rows.fnOpToNodeRow.knobs == []) = true := by kernel_rfl
theorem opN_k9 : (Try.pinned.checked.prog.stopKnobs == []) = true := by kernel_rfl
theorem opN_k10 : (Rows.fnOpToNodeRow.inPlace == Try.pinned.checked.prog.inPlace 8) = true := by kernel_rfl
theorem opN_k11 : (Rows.fnOpToNodeRow.unfollowed == Try.pinned.checked.prog.unfollowed 8) = true := by kernel_rfl
theorem opN_k12 : (Rows.fnOpToNodeRow.recurses == Try.pinned.checked.prog.recurses 8) = true := by kernel_rfl
theorem opN_k13 : (Rows.fnOpToNodeRow.named == Try.pinned.checked.prog.varsNamed 8) = true := by kernel_rfl
theorem opN_k14 : (Rows.fnOpToNodeRow.maps == (Try.f8.params.toList ++ Rows.fnOpToNodeSpec.plain.varTypes Try.pinned.checked.prog).any (Try.pinned.checked.prog.mapsRec ·)) = true := by kernel_rfl
theorem opN_k15 : (Rows.fnOpToNodeRow.ifaces == (Try.f8.params.toList ++ Rows.fnOpToNodeSpec.plain.varTypes Try.pinned.checked.prog).any (Try.pinned.checked.prog.ifacesRec ·)) = true := by kernel_rfl
theorem opN_k16 : (Rows.fnOpToNodeRow.mapsOut == Try.pinned.checked.prog.mapsAmong Try.f8.resultTypes.toList) = true := by kernel_rfl
theorem opN_k17 : (Rows.fnOpToNodeRow.loops == (Try.f8.params.toList ++ Rows.fnOpToNodeSpec.plain.varTypes Try.pinned.checked.prog).any (Try.pinned.checked.prog.loopsFrom ·)) = true := by kernel_rfl
theorem opN_k18 : (Rows.fnOpToNodeRow.wideKeys == (Try.f8.params.toList ++ Rows.fnOpToNodeSpec.plain.varTypes Try.pinned.checked.prog ++ Try.f8.resultTypes.toList).any (Try.pinned.checked.prog.wideKeysFrom ·)) = true := by kernel_rfl
theorem opN_k19 : Rows.fnOpToNodeSpec.vars.all (Try.pinned.checked.prog.varReadable ·) = true := by kernel_rfl
theorem opN_k20 : Try.f8.resultTypes.all (fun t => Try.pinned.checked.prog.readableRec t && decide (t < Try.pinned.checked.prog.types.size)) = true := by kernel_rfl
theorem opN_k21 : (Rows.fnOpToNodeRow.ifacesOut == Try.f8.resultTypes.toList.any (Try.pinned.checked.prog.ifacesRec ·)) = true := by kernel_rfl
theorem opN_k22 : (Rows.fnOpToNodeRow.loopsOut == Try.f8.resultTypes.toList.any (Try.pinned.checked.prog.loopsFrom ·)) = true := by kernel_rfl
theorem opN_k23 : (Rows.fnOpToNodeRow.plainKeys == Try.pinned.checked.prog.plainKeys) = true := by kernel_rfl
theorem opN_k24 : Rows.fnOpToNodeRow.shortTexts.isNone = true := by kernel_rfl
theorem opN_k25 : Try.pinned.checked.prog.stopsHeard = true := by kernel_rfl
theorem opN_k26 : Try.pinned.checked.prog.mayEnter = true := io_enter
theorem opN_k27 : (Rows.fnOpToNodeRow.lifted == Try.pinned.checked.prog.liftsFinal) = true := by
  show (false == Try.prog.liftsFinal) = true
  rw [io_lifts]; rfl
theorem opN_k28 : (Try.pinned.checked.prog.make == some Rows.fnOpToNodeRow.make) = true := by
  show (Try.prog.make == some Make.cut) = true
  rw [io_make]; rfl
theorem opN_k29 : (Rows.fnOpToNodeRow.kinds == (if Rows.fnOpToNodeRow.domain.isEmpty then [] else Try.f8.params.toList.map fun t => match Try.pinned.checked.prog.underlying t with | some (.int k) => some k | _ => none)) = true := by kernel_rfl
theorem opN_k30 : (Rows.fnOpToNodeRow.pinned == Rows.fnOpToNodeRow.pinnedBy) = true := by kernel_rfl
theorem opN_k31 : (Rows.fnOpToNodeRow.veiled == (Try.f8.params.toList ++ Rows.fnOpToNodeSpec.plain.varTypes Try.pinned.checked.prog ++ Try.f8.resultTypes.toList).any (Try.pinned.checked.prog.veiledRec ·)) = true := by kernel_rfl
theorem opN_k32 : Rows.fnOpToNodeRow.veiledFits Try.pinned.checked.prog Try.f8.params.toList (Try.f8.params.toList ++ Rows.fnOpToNodeSpec.plain.varTypes Try.pinned.checked.prog ++ Try.f8.resultTypes.toList) = true := by kernel_rfl
theorem opN_facts : joinedFacts Try.pinned.checked.prog 8 Try.f8 Rows.fnOpToNodeSpec Rows.fnOpToNodeRow = true := joined_mk opN_k1 opN_k2 opN_k3 opN_k4 opN_k5 opN_k6 opN_k7 opN_k8 opN_k9 opN_k10 opN_k11 opN_k12 opN_k13 opN_k14 opN_k15 opN_k16 opN_k17 opN_k18 opN_k19 opN_k20 opN_k21 opN_k22 opN_k23 opN_k24 opN_k25 opN_k26 opN_k27 opN_k28 opN_k29 opN_k30 opN_k31 opN_k32
theorem opN_inst : (Try.f8).isInstance Try.pinned.checked.prog Rows.fnOpToNodeRow.origin Rows.fnOpToNodeRow.targs := of_decide_eq_true (by kernel_rfl)
theorem opN_wrap : (Try.f8).isWrapper Try.pinned.checked.prog Rows.fnOpToNodeRow.wrapper Rows.fnOpToNodeRow.mainSum := by unfold Func.isWrapper; first | (rw [if_pos (by decide +kernel)]; kernel_rfl) | (rw [if_neg (by decide +kernel)]; exact ⟨rfl, rfl⟩)
theorem opN_holds : Rows.FnOpToNodeSaid :=
  OpenClaim.holds_of_wide 8 Try.f8 rfl rfl rfl rfl rfl rfl rfl ⟨rfl, rfl, rfl, rfl, rfl⟩ rfl rfl rfl rfl rfl opN_named Try.func8 opN_facts opN_inst opN_wrap
    (fun os started H enc _ => opN_lifted os started H enc)
#print axioms opN_holds
end Go.Proofs.Ytgfnmhfdmmnaoaa
