/-
  FnKeyCount returns true whatever the bytes, and they read behind the call as they read before. No condition.
-/
import Derived.Test.YtiobnaielfeeaaaPrH

set_option linter.unusedSimpArgs false
set_option linter.unusedVariables false
set_option linter.unnecessarySimpa false
set_option maxRecDepth 100000
set_option maxHeartbeats 16000000
namespace Go.Proofs.Ytiobnaielfeeaaa
open Go.ChangeShapes Go.WideShapes Go.ChangeAt Go.RowKit
theorem kyC_lifted (os : Os) (started : os.Started) (H : Type) (enc : TypeId × Value → H) :
    ReturnsInHanded {} Try.checked os 8 .any (Rows.fnKeyCountSpec.pre6 enc Try.prog Try.f8 Rows.fnKeyCountRow.domain false) (Rows.fnKeyCountSpec.post enc Try.prog Try.f8 false true false false) := by
  refine returnsInHanded_of_change (C := Try.checked) Try.own started (by kernel_rfl) Try.func8
    (ChangeSpec.witness6 (enc := enc) (C := Try.checked) false ⟨#[], #[.slice none 0 0], []⟩ 12 (by kernel_rfl) (by kernel_rfl) (by kernel_rfl) (by kernel_rfl)) ?_
  intro W base args ds gs before hval0 hW hcnd _
  have hval : ∀ (j : Nat) t v, Try.f8.params[j]? = some t → args[j]? = some v → Value.okWide Try.prog W .any base t v := hval0
  have hW' := hW
  obtain ⟨p, q, hA0, hV, rfl, hfz, hnd⟩ := hW
  have hA : DataW.TrodAll enc Try.prog W 0 (fun _ => true) true Try.f8.params.toList args.toList ds p := hA0
  rw [Try.params8] at hA hval
  obtain ⟨v0, d0, rfl, rfl, h0⟩ := trodAll_one hA
  obtain ⟨rfl, rfl⟩ := trodVars_none hV
  obtain ⟨qa0, ql0, qc0, rfl⟩ := okWide_slice Try.underlying22 (hval 0 22 v0 rfl rfl)
  obtain ⟨fuel0, h0⟩ := h0
  obtain ⟨x0, hx0⟩ := rv_bytes h0
  refine (law_bytes (Eng.lawKyC_AC0 x0) W hx0).mono fun e W' ⟨he, hg⟩ => ?_
  subst he
  refine ⟨_, rfl, post_grow rfl ?_ (by kernel_rfl) rfl hW' hg⟩
  intro t ht
  rw [Try.params8] at ht
  simp at ht
  subst ht
  exact ⟨by kernel_rfl, of_decide_eq_true (by kernel_rfl)⟩
theorem kyC_named : Try.pinned.checked.prog.funcNamed Rows.fnKeyCountRow.func = some 8 := by kernel_rfl
theorem kyC_k1 : Rows.fnKeyCountRow.wf (OpenSpec.ofChange Rows.fnKeyCountSpec) = true := by kernel_rfl
theorem kyC_k2 : laidOutB Try.pinned.checked.prog = true := by kernel_rfl
theorem kyC_k3 : mapsRowed Try.pinned.checked.prog = true := by kernel_rfl
theorem kyC_k4 : Try.f8.params.all (Try.pinned.checked.prog.readableRec ·) = true := by kernel_rfl
theorem kyC_k5 : namedTie Try.pinned.checked.prog Rows.fnKeyCountRow.named Rows.fnKeyCountSpec.vars = true := by kernel_rfl
theorem kyC_k6 : (Rows.fnKeyCountRow.stops == []) = true := by kernel_rfl
theorem kyC_k7 : (Try.pinned.checked.prog.stops == []) = true := by kernel_rfl
theorem kyC_k8 : (Rows.fnKeyCountRow.knobs == []) = true := by kernel_rfl
theorem kyC_k9 : (Try.pinned.checked.prog.stopKnobs == []) = true := by kernel_rfl
theorem kyC_k10 : (Rows.fnKeyCountRow.inPlace == Try.pinned.checked.prog.inPlace 8) = true := by kernel_rfl
theorem kyC_k11 : (Rows.fnKeyCountRow.unfollowed == Try.pinned.checked.prog.unfollowed 8) = true := by kernel_rfl
theorem kyC_k12 : (Rows.fnKeyCountRow.recurses == Try.pinned.checked.prog.recurses 8) = true := by kernel_rfl
theorem kyC_k13 : (Rows.fnKeyCountRow.named == Try.pinned.checked.prog.varsNamed 8) = true := by kernel_rfl
theorem kyC_k14 : (Rows.fnKeyCountRow.maps == (Try.f8.params.toList ++ Rows.fnKeyCountSpec.plain.varTypes Try.pinned.checked.prog).any (Try.pinned.checked.prog.mapsRec ·)) = true := by kernel_rfl
theorem kyC_k15 : (Rows.fnKeyCountRow.ifaces == (Try.f8.params.toList ++ Rows.fnKeyCountSpec.plain.varTypes Try.pinned.checked.prog).any (Try.pinned.checked.prog.ifacesRec ·)) = true := by kernel_rfl
theorem kyC_k16 : (Rows.fnKeyCountRow.mapsOut == Try.pinned.checked.prog.mapsAmong Try.f8.resultTypes.toList) = true := by kernel_rfl
theorem kyC_k17 : (Rows.fnKeyCountRow.loops == (Try.f8.params.toList ++ Rows.fnKeyCountSpec.plain.varTypes Try.pinned.checked.prog).any (Try.pinned.checked.prog.loopsFrom ·)) = true := by kernel_rfl
theorem kyC_k18 : (Rows.fnKeyCountRow.wideKeys == (Try.f8.params.toList ++ Rows.fnKeyCountSpec.plain.varTypes Try.pinned.checked.prog ++ Try.f8.resultTypes.toList).any (Try.pinned.checked.prog.wideKeysFrom ·)) = true := by kernel_rfl
theorem kyC_k19 : Rows.fnKeyCountSpec.vars.all (Try.pinned.checked.prog.varReadable ·) = true := by kernel_rfl
theorem kyC_k20 : Try.f8.resultTypes.all (fun t => Try.pinned.checked.prog.readableRec t && decide (t < Try.pinned.checked.prog.types.size)) = true := by kernel_rfl
theorem kyC_k21 : (Rows.fnKeyCountRow.ifacesOut == Try.f8.resultTypes.toList.any (Try.pinned.checked.prog.ifacesRec ·)) = true := by kernel_rfl
theorem kyC_k22 : (Rows.fnKeyCountRow.loopsOut == Try.f8.resultTypes.toList.any (Try.pinned.checked.prog.loopsFrom ·)) = true := by kernel_rfl
theorem kyC_k23 : (Rows.fnKeyCountRow.plainKeys == Try.pinned.checked.prog.plainKeys) = true := by kernel_rfl
theorem kyC_k24 : Rows.fnKeyCountRow.shortTexts.isNone = true := by kernel_rfl
theorem kyC_k25 : Try.pinned.checked.prog.stopsHeard = true := by kernel_rfl
theorem kyC_k26 : Try.pinned.checked.prog.mayEnter = true := io_enter
theorem kyC_k27 : (Rows.fnKeyCountRow.lifted == Try.pinned.checked.prog.liftsFinal) = true := by
  show (false == Try.prog.liftsFinal) = true
  rw [io_lifts]; rfl
theorem kyC_k28 : (Try.pinned.checked.prog.make == some Rows.fnKeyCountRow.make) = true := by
  show (Try.prog.make == some Make.cut) = true
  rw [io_make]; rfl
theorem kyC_k29 : (Rows.fnKeyCountRow.kinds == (if Rows.fnKeyCountRow.domain.isEmpty then [] else Try.f8.params.toList.map fun t => match Try.pinned.checked.prog.underlying t with | some (.int k) => some k | _ => none)) = true := by kernel_rfl
theorem kyC_k30 : (Rows.fnKeyCountRow.pinned == Rows.fnKeyCountRow.pinnedBy) = true := by kernel_rfl
theorem kyC_k31 : (Rows.fnKeyCountRow.veiled == (Try.f8.params.toList ++ Rows.fnKeyCountSpec.plain.varTypes Try.pinned.checked.prog ++ Try.f8.resultTypes.toList).any (Try.pinned.checked.prog.veiledRec ·)) = true := by kernel_rfl
theorem kyC_k32 : Rows.fnKeyCountRow.veiledFits Try.pinned.checked.prog Try.f8.params.toList (Try.f8.params.toList ++ Rows.fnKeyCountSpec.plain.varTypes Try.pinned.checked.prog ++ Try.f8.resultTypes.toList) = true := by kernel_rfl
theorem kyC_facts : joinedFacts Try.pinned.checked.prog 8 Try.f8 Rows.fnKeyCountSpec Rows.fnKeyCountRow = true := joined_mk kyC_k1 kyC_k2 kyC_k3 kyC_k4 kyC_k5 kyC_k6 kyC_k7 kyC_k8 kyC_k9 kyC_k10 kyC_k11 kyC_k12 kyC_k13 kyC_k14 kyC_k15 kyC_k16 kyC_k17 kyC_k18 kyC_k19 kyC_k20 kyC_k21 kyC_k22 kyC_k23 kyC_k24 kyC_k25 kyC_k26 kyC_k27 kyC_k28 kyC_k29 kyC_k30 kyC_k31 kyC_k32
theorem kyC_inst : (Try.f8).isInstance Try.pinned.checked.prog Rows.fnKeyCountRow.origin Rows.fnKeyCountRow.targs := of_decide_eq_true (by kernel_rfl)
theorem kyC_wrap : (Try.f8).isWrapper Try.pinned.checked.prog Rows.fnKeyCountRow.wrapper Rows.fnKeyCountRow.mainSum := by unfold Func.isWrapper; first | (rw [if_pos (by decide +kernel)]; kernel_rfl) | (rw [if_neg (by decide +kernel)]; exact ⟨rfl, rfl⟩)
theorem kyC_holds : Rows.FnKeyCountSaid :=
  OpenClaim.holds_of_wide 8 Try.f8 rfl rfl rfl rfl rfl rfl rfl ⟨rfl, rfl, rfl, rfl, rfl⟩ rfl rfl rfl rfl rfl kyC_named Try.func8 kyC_facts kyC_inst kyC_wrap
    (fun os started H enc _ => kyC_lifted os started H enc)
#print axioms kyC_holds
end Go.Proofs.Ytiobnaielfeeaaa
