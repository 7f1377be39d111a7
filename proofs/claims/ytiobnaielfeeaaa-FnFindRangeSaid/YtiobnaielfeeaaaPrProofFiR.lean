/-
  FnFindRange returns true whatever the bytes, and they read behind the call as they read before. No condition.
-/
import Derived.Test.YtiobnaielfeeaaaPrH

set_option linter.unusedSimpArgs false
set_option linter.unusedVariables false
set_option linter.unnecessarySimpa false
set_option maxRecDepth 100000
set_option maxHeartbeats 16000000
namespace Go.Proofs.Ytiobnaielfeeaaa
open Go.ChangeShapes Go.WideShapes Go.ChangeAt Go.RowKit
theorem fiR_lifted (os : Os) (started : os.Started) (H : Type) (enc : TypeId × Value → H) :
    ReturnsInHanded {} Try.checked os 9 .any (Rows.fnFindRangeSpec.pre6 enc Try.prog Try.f9 Rows.fnFindRangeRow.domain false) (Rows.fnFindRangeSpec.post enc Try.prog Try.f9 false true false false) := by
  refine returnsInHanded_of_change (C := Try.checked) Try.own started (by kernel_rfl) Try.func9
    (ChangeSpec.witness6 (enc := enc) (C := Try.checked) false ⟨#[], #[.slice none 0 0], []⟩ 12 (by kernel_rfl) (by kernel_rfl) (by kernel_rfl) (by kernel_rfl)) ?_
  intro W base args ds gs before hval0 hW hcnd _
  have hval : ∀ (j : Nat) t v, Try.f9.params[j]? = some t → args[j]? = some v → Value.okWide Try.prog W .any base t v := hval0
  have hW' := hW
  obtain ⟨p, q, hA0, hV, rfl, hfz, hnd⟩ := hW
  have hA : DataW.TrodAll enc Try.prog W 0 (fun _ => true) true Try.f9.params.toList args.toList ds p := hA0
  rw [Try.params9] at hA hval
  obtain ⟨v0, d0, rfl, rfl, h0⟩ := trodAll_one hA
  obtain ⟨rfl, rfl⟩ := trodVars_none hV
  obtain ⟨qa0, ql0, qc0, rfl⟩ := okWide_slice Try.underlying22 (hval 0 22 v0 rfl rfl)
  obtain ⟨fuel0, h0⟩ := h0
  obtain ⟨x0, hx0⟩ := rv_bytes h0
  refine (law_bytes (Eng.lawFR_AC0 x0) W hx0).mono fun e W' ⟨he, hg⟩ => ?_
  subst he
  refine ⟨_, rfl, post_grow rfl ?_ (by kernel_rfl) rfl hW' hg⟩
  intro t ht
  rw [Try.params9] at ht
  simp at ht
  subst ht
  exact ⟨by kernel_rfl, of_decide_eq_true (by kernel_rfl)⟩
theorem fiR_named : Try.pinned.checked.prog.funcNamed Rows.fnFindRangeRow.func = some 9 := by kernel_rfl
theorem fiR_k1 : Rows.fnFindRangeRow.wf (OpenSpec.ofChange Rows.fnFindRangeSpec) = true := by kernel_rfl
theorem fiR_k2 : laidOutB Try.pinned.checked.prog = true := by kernel_rfl
theorem fiR_k3 : mapsRowed Try.pinned.checked.prog = true := by kernel_rfl
theorem fiR_k4 : Try.f9.params.all (Try.pinned.checked.prog.readableRec ·) = true := by kernel_rfl
theorem fiR_k5 : namedTie Try.pinned.checked.prog Rows.fnFindRangeRow.named Rows.fnFindRangeSpec.vars = true := by kernel_rfl
theorem fiR_k6 : (Rows.fnFindRangeRow.stops == []) = true := by kernel_rfl
theorem fiR_k7 : (Try.pinned.checked.prog.stops == []) = true := by kernel_rfl
theorem fiR_k8 : (Rows.fnFindRangeRow.knobs == []) = true := by kernel_rfl
theorem fiR_k9 : (Try.pinned.checked.prog.stopKnobs == []) = true := by kernel_rfl
theorem fiR_k10 : (Rows.fnFindRangeRow.inPlace == Try.pinned.checked.prog.inPlace 9) = true := by kernel_rfl
theorem fiR_k11 : (Rows.fnFindRangeRow.unfollowed == Try.pinned.checked.prog.unfollowed 9) = true := by kernel_rfl
theorem fiR_k12 : (Rows.fnFindRangeRow.recurses == Try.pinned.checked.prog.recurses 9) = true := by kernel_rfl
theorem fiR_k13 : (Rows.fnFindRangeRow.named == Try.pinned.checked.prog.varsNamed 9) = true := by kernel_rfl
theorem fiR_k14 : (Rows.fnFindRangeRow.maps == (Try.f9.params.toList ++ Rows.fnFindRangeSpec.plain.varTypes Try.pinned.checked.prog).any (Try.pinned.checked.prog.mapsRec ·)) = true := by kernel_rfl
theorem fiR_k15 : (Rows.fnFindRangeRow.ifaces == (Try.f9.params.toList ++ Rows.fnFindRangeSpec.plain.varTypes Try.pinned.checked.prog).any (Try.pinned.checked.prog.ifacesRec ·)) = true := by kernel_rfl
theorem fiR_k16 : (Rows.fnFindRangeRow.mapsOut == Try.pinned.checked.prog.mapsAmong Try.f9.resultTypes.toList) = true := by kernel_rfl
theorem fiR_k17 : (Rows.fnFindRangeRow.loops == (Try.f9.params.toList ++ Rows.fnFindRangeSpec.plain.varTypes Try.pinned.checked.prog).any (Try.pinned.checked.prog.loopsFrom ·)) = true := by kernel_rfl
theorem fiR_k18 : (Rows.fnFindRangeRow.wideKeys == (Try.f9.params.toList ++ Rows.fnFindRangeSpec.plain.varTypes Try.pinned.checked.prog ++ Try.f9.resultTypes.toList).any (Try.pinned.checked.prog.wideKeysFrom ·)) = true := by kernel_rfl
theorem fiR_k19 : Rows.fnFindRangeSpec.vars.all (Try.pinned.checked.prog.varReadable ·) = true := by kernel_rfl
theorem fiR_k20 : Try.f9.resultTypes.all (fun t => Try.pinned.checked.prog.readableRec t && decide (t < Try.pinned.checked.prog.types.size)) = true := by kernel_rfl
theorem fiR_k21 : (Rows.fnFindRangeRow.ifacesOut == Try.f9.resultTypes.toList.any (Try.pinned.checked.prog.ifacesRec ·)) = true := by kernel_rfl
theorem fiR_k22 : (Rows.fnFindRangeRow.loopsOut == Try.f9.resultTypes.toList.any (Try.pinned.checked.prog.loopsFrom ·)) = true := by kernel_rfl
theorem fiR_k23 : (Rows.fnFindRangeRow.plainKeys == Try.pinned.checked.prog.plainKeys) = true := by kernel_rfl
theorem fiR_k24 : Rows.fnFindRangeRow.shortTexts.isNone = true := by kernel_rfl
theorem fiR_k25 : Try.pinned.checked.prog.stopsHeard = true := by kernel_rfl
theorem fiR_k26 : Try.pinned.checked.prog.mayEnter = true := io_enter
theorem fiR_k27 : (Rows.fnFindRangeRow.lifted == Try.pinned.checked.prog.liftsFinal) = true := by
  show (false == Try.prog.liftsFinal) = true
  rw [io_lifts]; rfl
theorem fiR_k28 : (Try.pinned.checked.prog.make == some Rows.fnFindRangeRow.make) = true := by
  show (Try.prog.make == some Make.cut) = true
  rw [io_make]; rfl
theorem fiR_k29 : (Rows.fnFindRangeRow.kinds == (if Rows.fnFindRangeRow.domain.isEmpty then [] else Try.f9.params.toList.map fun t => match Try.pinned.checked.prog.underlying t with | some (.int k) => some k | _ => none)) = true := by kernel_rfl
theorem fiR_k30 : (Rows.fnFindRangeRow.pinned == Rows.fnFindRangeRow.pinnedBy) = true := by kernel_rfl
theorem fiR_k31 : (Rows.fnFindRangeRow.veiled == (Try.f9.params.toList ++ Rows.fnFindRangeSpec.plain.varTypes Try.pinned.checked.prog ++ Try.f9.resultTypes.toList).any (Try.pinned.checked.prog.veiledRec ·)) = true := by kernel_rfl
theorem fiR_k32 : Rows.fnFindRangeRow.veiledFits Try.pinned.checked.prog Try.f9.params.toList (Try.f9.params.toList ++ Rows.fnFindRangeSpec.plain.varTypes Try.pinned.checked.prog ++ Try.f9.resultTypes.toList) = true := by kernel_rfl
theorem fiR_facts : joinedFacts Try.pinned.checked.prog 9 Try.f9 Rows.fnFindRangeSpec Rows.fnFindRangeRow = true := joined_mk fiR_k1 fiR_k2 fiR_k3 fiR_k4 fiR_k5 fiR_k6 fiR_k7 fiR_k8 fiR_k9 fiR_k10 fiR_k11 fiR_k12 fiR_k13 fiR_k14 fiR_k15 fiR_k16 fiR_k17 fiR_k18 fiR_k19 fiR_k20 fiR_k21 fiR_k22 fiR_k23 fiR_k24 fiR_k25 fiR_k26 fiR_k27 fiR_k28 fiR_k29 fiR_k30 fiR_k31 fiR_k32
theorem fiR_inst : (Try.f9).isInstance Try.pinned.checked.prog Rows.fnFindRangeRow.origin Rows.fnFindRangeRow.targs := of_decide_eq_true (by kernel_rfl)
theorem fiR_wrap : (Try.f9).isWrapper Try.pinned.checked.prog Rows.fnFindRangeRow.wrapper Rows.fnFindRangeRow.mainSum := by unfold Func.isWrapper; first | (rw [if_pos (by decide +kernel)]; kernel_rfl) | (rw [if_neg (by decide +kernel)]; exact ⟨rfl, rfl⟩)
theorem fiR_holds : Rows.FnFindRangeSaid :=
  OpenClaim.holds_of_wide 9 Try.f9 rfl rfl rfl rfl rfl rfl rfl ⟨rfl, rfl, rfl, rfl, rfl⟩ rfl rfl rfl rfl rfl fiR_named Try.func9 fiR_facts fiR_inst fiR_wrap
    (fun os started H enc _ => fiR_lifted os started H enc)
#print axioms fiR_holds
end Go.Proofs.Ytiobnaielfeeaaa
