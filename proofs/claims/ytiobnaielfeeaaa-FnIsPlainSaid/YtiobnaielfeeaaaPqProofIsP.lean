/-
  FnIsPlain returns true whatever the bytes, and they read behind the call as they read before. No condition.
-/
import Derived.Test.YtiobnaielfeeaaaPqH

set_option linter.unusedSimpArgs false
set_option linter.unusedVariables false
set_option linter.unnecessarySimpa false
set_option maxRecDepth 100000
set_option maxHeartbeats 16000000
namespace Go.Proofs.Ytiobnaielfeeaaa
open Go.ChangeShapes Go.WideShapes Go.ChangeAt Go.RowKit
theorem isP_lifted (os : Os) (started : os.Started) (H : Type) (enc : TypeId × Value → H) :
    ReturnsInHanded {} Try.checked os 7 .any (Rows.fnIsPlainSpec.pre6 enc Try.prog Try.f7 Rows.fnIsPlainRow.domain false) (Rows.fnIsPlainSpec.post enc Try.prog Try.f7 false true false false) := by
  refine returnsInHanded_of_change (C := Try.checked) Try.own started (by kernel_rfl) Try.func7
    (ChangeSpec.witness6 (enc := enc) (C := Try.checked) false ⟨#[], #[.slice none 0 0], []⟩ 12 (by kernel_rfl) (by kernel_rfl) (by kernel_rfl) (by kernel_rfl)) ?_
  intro W base args ds gs before hval0 hW hcnd _
  have hval : ∀ (j : Nat) t v, Try.f7.params[j]? = some t → args[j]? = some v → Value.okWide Try.prog W .any base t v := hval0
  have hW' := hW
  obtain ⟨p, q, hA0, hV, rfl, hfz, hnd⟩ := hW
  have hA : DataW.TrodAll enc Try.prog W 0 (fun _ => true) true Try.f7.params.toList args.toList ds p := hA0
  rw [Try.params7] at hA hval
  obtain ⟨v0, d0, rfl, rfl, h0⟩ := trodAll_one hA
  obtain ⟨rfl, rfl⟩ := trodVars_none hV
  obtain ⟨qa0, ql0, qc0, rfl⟩ := okWide_slice Try.underlying22 (hval 0 22 v0 rfl rfl)
  obtain ⟨fuel0, h0⟩ := h0
  obtain ⟨x0, hx0⟩ := rv_bytes h0
  refine (law_bytes (Eng.lawPlain_AC0 x0) W hx0).mono fun e W' ⟨he, hg⟩ => ?_
  subst he
  refine ⟨_, rfl, post_grow rfl ?_ (by kernel_rfl) rfl hW' hg⟩
  intro t ht
  rw [Try.params7] at ht
  simp at ht
  subst ht
  exact ⟨by kernel_rfl, of_decide_eq_true (by kernel_rfl)⟩
theorem isP_named : Try.pinned.checked.prog.funcNamed Rows.fnIsPlainRow.func = some 7 := by kernel_rfl
theorem isP_k1 : Rows.fnIsPlainRow.wf (OpenSpec.ofChange Rows.fnIsPlainSpec) = true := by kernel_rfl
theorem isP_k2 : laidOutB Try.pinned.checked.prog = true := by kernel_rfl
theorem isP_k3 : mapsRowed Try.pinned.checked.prog = true := by kernel_rfl
theorem isP_k4 : Try.f7.params.all (Try.pinned.checked.prog.readableRec ·) = true := by kernel_rfl
theorem isP_k5 : namedTie Try.pinned.checked.prog Rows.fnIsPlainRow.named Rows.fnIsPlainSpec.vars = true := by kernel_rfl
theorem isP_k6 : (Rows.fnIsPlainRow.stops == []) = true := by kernel_rfl
theorem isP_k7 : (Try.pinned.checked.prog.stops == []) = true := by kernel_rfl
theorem isP_k8 : (Rows.fnIsPlainRow.knobs == []) = true := by kernel_rfl
theorem isP_k9 : (Try.pinned.checked.prog.stopKnobs == []) = true := by kernel_rfl
theorem isP_k10 : (Rows.fnIsPlainRow.inPlace == Try.pinned.checked.prog.inPlace 7) = true := by kernel_rfl
theorem isP_k11 : (Rows.fnIsPlainRow.unfollowed == Try.pinned.checked.prog.unfollowed 7) = true := by kernel_rfl
theorem isP_k12 : (Rows.fnIsPlainRow.recurses == Try.pinned.checked.prog.recurses 7) = true := by kernel_rfl
theorem isP_k13 : (Rows.fnIsPlainRow.named == Try.pinned.checked.prog.varsNamed 7) = true := by kernel_rfl
theorem isP_k14 : (Rows.fnIsPlainRow.maps == (Try.f7.params.toList ++ Rows.fnIsPlainSpec.plain.varTypes Try.pinned.checked.prog).any (Try.pinned.checked.prog.mapsRec ·)) = true := by kernel_rfl
theorem isP_k15 : (Rows.fnIsPlainRow.ifaces == (Try.f7.params.toList ++ Rows.fnIsPlainSpec.plain.varTypes Try.pinned.checked.prog).any (Try.pinned.checked.prog.ifacesRec ·)) = true := by kernel_rfl
theorem isP_k16 : (Rows.fnIsPlainRow.mapsOut == Try.pinned.checked.prog.mapsAmong Try.f7.resultTypes.toList) = true := by kernel_rfl
theorem isP_k17 : (Rows.fnIsPlainRow.loops == (Try.f7.params.toList ++ Rows.fnIsPlainSpec.plain.varTypes Try.pinned.checked.prog).any (Try.pinned.checked.prog.loopsFrom ·)) = true := by kernel_rfl
theorem isP_k18 : (Rows.fnIsPlainRow.wideKeys == (Try.f7.params.toList ++ Rows.fnIsPlainSpec.plain.varTypes Try.pinned.checked.prog ++ Try.f7.resultTypes.toList).any (Try.pinned.checked.prog.wideKeysFrom ·)) = true := by kernel_rfl
theorem isP_k19 : Rows.fnIsPlainSpec.vars.all (Try.pinned.checked.prog.varReadable ·) = true := by kernel_rfl
theorem isP_k20 : Try.f7.resultTypes.all (fun t => Try.pinned.checked.prog.readableRec t && decide (t < Try.pinned.checked.prog.types.size)) = true := by kernel_rfl
theorem isP_k21 : (Rows.fnIsPlainRow.ifacesOut == Try.f7.resultTypes.toList.any (Try.pinned.checked.prog.ifacesRec ·)) = true := by kernel_rfl
theorem isP_k22 : (Rows.fnIsPlainRow.loopsOut == Try.f7.resultTypes.toList.any (Try.pinned.checked.prog.loopsFrom ·)) = true := by kernel_rfl
theorem isP_k23 : (Rows.fnIsPlainRow.plainKeys == Try.pinned.checked.prog.plainKeys) = true := by kernel_rfl
theorem isP_k24 : Rows.fnIsPlainRow.shortTexts.isNone = true := by kernel_rfl
theorem isP_k25 : Try.pinned.checked.prog.stopsHeard = true := by kernel_rfl
theorem isP_k26 : Try.pinned.checked.prog.mayEnter = true := io_enter
theorem isP_k27 : (Rows.fnIsPlainRow.lifted == Try.pinned.checked.prog.liftsFinal) = true := by
  show (false == Try.prog.liftsFinal) = true
  rw [io_lifts]; rfl
theorem isP_k28 : (Try.pinned.checked.prog.make == some Rows.fnIsPlainRow.make) = true := by
  show (Try.prog.make == some Make.cut) = true
  rw [io_make]; rfl
theorem isP_k29 : (Rows.fnIsPlainRow.kinds == (if Rows.fnIsPlainRow.domain.isEmpty then [] else Try.f7.params.toList.map fun t => match Try.pinned.checked.prog.underlying t with | some (.int k) => some k | _ => none)) = true := by kernel_rfl
theorem isP_k30 : (Rows.fnIsPlainRow.pinned == Rows.fnIsPlainRow.pinnedBy) = true := by kernel_rfl
theorem isP_k31 : (Rows.fnIsPlainRow.veiled == (Try.f7.params.toList ++ Rows.fnIsPlainSpec.plain.varTypes Try.pinned.checked.prog ++ Try.f7.resultTypes.toList).any (Try.pinned.checked.prog.veiledRec ·)) = true := by kernel_rfl
theorem isP_k32 : Rows.fnIsPlainRow.veiledFits Try.pinned.checked.prog Try.f7.params.toList (Try.f7.params.toList ++ Rows.fnIsPlainSpec.plain.varTypes Try.pinned.checked.prog ++ Try.f7.resultTypes.toList) = true := by kernel_rfl
theorem isP_facts : joinedFacts Try.pinned.checked.prog 7 Try.f7 Rows.fnIsPlainSpec Rows.fnIsPlainRow = true := joined_mk isP_k1 isP_k2 isP_k3 isP_k4 isP_k5 isP_k6 isP_k7 isP_k8 isP_k9 isP_k10 isP_k11 isP_k12 isP_k13 isP_k14 isP_k15 isP_k16 isP_k17 isP_k18 isP_k19 isP_k20 isP_k21 isP_k22 isP_k23 isP_k24 isP_k25 isP_k26 isP_k27 isP_k28 isP_k29 isP_k30 isP_k31 isP_k32
theorem isP_inst : (Try.f7).isInstance Try.pinned.checked.prog Rows.fnIsPlainRow.origin Rows.fnIsPlainRow.targs := of_decide_eq_true (by kernel_rfl)
theorem isP_wrap : (Try.f7).isWrapper Try.pinned.checked.prog Rows.fnIsPlainRow.wrapper Rows.fnIsPlainRow.mainSum := by unfold Func.isWrapper; first | (rw [if_pos (by decide +kernel)]; kernel_rfl) | (rw [if_neg (by decide +kernel)]; exact ⟨rfl, rfl⟩)
theorem isP_holds : Rows.FnIsPlainSaid :=
  OpenClaim.holds_of_wide 7 Try.f7 rfl rfl rfl rfl rfl rfl rfl ⟨rfl, rfl, rfl, rfl, rfl⟩ rfl rfl rfl rfl rfl isP_named Try.func7 isP_facts isP_inst isP_wrap
    (fun os started H enc _ => isP_lifted os started H enc)
#print axioms isP_holds
end Go.Proofs.Ytiobnaielfeeaaa
