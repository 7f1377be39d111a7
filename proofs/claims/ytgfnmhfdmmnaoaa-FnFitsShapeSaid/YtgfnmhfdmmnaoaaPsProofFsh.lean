/-
  FnFitsShape returns true whatever the bytes, and they read behind the call as they read before. No condition.
-/
import Derived.Test.YtgfnmhfdmmnaoaaPsG

set_option linter.unusedSimpArgs false
set_option linter.unusedVariables false
set_option linter.unnecessarySimpa false
set_option maxRecDepth 100000
set_option maxHeartbeats 16000000
namespace Go.Proofs.Ytgfnmhfdmmnaoaa
open Go.ChangeShapes Go.WideShapes Go.ChangeAt Go.RowKit
theorem fsh_lifted (os : Os) (started : os.Started) (H : Type) (enc : TypeId × Value → H) :
    ReturnsInHanded {} Try.checked os 3 .any (Rows.fnFitsShapeSpec.pre6 enc Try.prog Try.f3 Rows.fnFitsShapeRow.domain false) (Rows.fnFitsShapeSpec.post enc Try.prog Try.f3 false true false false) := by
  refine returnsInHanded_of_change (C := Try.checked) Try.own started (by kernel_rfl) Try.func3
    (ChangeSpec.witness6 (enc := enc) (C := Try.checked) false ⟨#[], #[.slice none 0 0], []⟩ 12 (by kernel_rfl) (by kernel_rfl) (by kernel_rfl) (by kernel_rfl)) ?_
  intro W base args ds gs before hval0 hW hcnd _
  have hval : ∀ (j : Nat) t v, Try.f3.params[j]? = some t → args[j]? = some v → Value.okWide Try.prog W .any base t v := hval0
  have hW' := hW
  obtain ⟨p, q, hA0, hV, rfl, hfz, hnd⟩ := hW
  have hA : DataW.TrodAll enc Try.prog W 0 (fun _ => true) true Try.f3.params.toList args.toList ds p := hA0
  rw [Try.params3] at hA hval
  obtain ⟨v0, d0, rfl, rfl, h0⟩ := trodAll_one hA
  obtain ⟨rfl, rfl⟩ := trodVars_none hV
  obtain ⟨qa0, ql0, qc0, rfl⟩ := okWide_slice Try.underlying22 (hval 0 22 v0 rfl rfl)
  obtain ⟨fuel0, h0⟩ := h0
  obtain ⟨x0, hx0⟩ := rv_bytes h0
  refine (law_bytes (Eng.lawFitsShape_AC0 x0) W hx0).mono fun e W' ⟨he, hg⟩ => ?_
  subst he
  refine ⟨_, rfl, post_grow rfl ?_ (by kernel_rfl) rfl hW' hg⟩
  intro t ht
  rw [Try.params3] at ht
  simp at ht
  subst ht
  exact ⟨by kernel_rfl, of_decide_eq_true (by kernel_rfl)⟩
theorem fsh_named : Try.pinned.checked.prog.funcNamed Rows.fnFitsShapeRow.func = some 3 := by kernel_rfl
theorem fsh_k1 : Rows.fnFitsShapeRow.wf (OpenSpec.ofChange Rows.fnFitsShapeSpec) = true := by kernel_rfl
theorem fsh_k2 : laidOutB Try.pinned.checked.prog = true := by kernel_rfl
theorem fsh_k3 : mapsRowed Try.pinned.checked.prog = true := by kernel_rfl
theorem fsh_k4 : Try.f3.params.all (Try.pinned.checked.prog.readableRec ·) = true := by kernel_rfl
theorem fsh_k5 : namedTie Try.pinned.checked.prog Rows.fnFitsShapeRow.named Rows.fnFitsShapeSpec.vars = true := by kernel_rfl
theorem fsh_k6 : (Rows.fnFitsShapeRow.stops == []) = true := by kernel_rfl
theorem fsh_k7 : (Try.pinned.checked.prog.stops == []) = true := by kernel_rfl
theorem fsh_k8 : (Rows.fnFitsShapeRow.knobs == []) = true := by kernel_rfl
theorem fsh_k9 : (Try.pinned.checked.prog.stopKnobs == []) = true := by kernel_rfl
theorem fsh_k10 : (Rows.fnFitsShapeRow.inPlace == Try.pinned.checked.prog.inPlace 3) = true := by kernel_rfl
theorem fsh_k11 : (Rows.fnFitsShapeRow.unfollowed == Try.pinned.checked.prog.unfollowed 3) = true := by kernel_rfl
theorem fsh_k12 : (Rows.fnFitsShapeRow.recurses == Try.pinned.checked.prog.recurses 3) = true := by kernel_rfl
theorem fsh_k13 : (Rows.fnFitsShapeRow.named == Try.pinned.checked.prog.varsNamed 3) = true := by kernel_rfl
theorem fsh_k14 : (Rows.fnFitsShapeRow.maps == (Try.f3.params.toList ++ Rows.fnFitsShapeSpec.plain.varTypes Try.pinned.checked.prog).any (Try.pinned.checked.prog.mapsRec ·)) = true := by kernel_rfl
theorem fsh_k15 : (Rows.fnFitsShapeRow.ifaces == (Try.f3.params.toList ++ Rows.fnFitsShapeSpec.plain.varTypes Try.pinned.checked.prog).any (Try.pinned.checked.prog.ifacesRec ·)) = true := by kernel_rfl
theorem fsh_k16 : (Rows.fnFitsShapeRow.mapsOut == Try.pinned.checked.prog.mapsAmong Try.f3.resultTypes.toList) = true := by kernel_rfl
theorem fsh_k17 : (Rows.fnFitsShapeRow.loops == (Try.f3.params.toList ++ Rows.fnFitsShapeSpec.plain.varTypes Try.pinned.checked.prog).any (Try.pinned.checked.prog.loopsFrom ·)) = true := by kernel_rfl
theorem fsh_k18 : (Rows.fnFitsShapeRow.wideKeys == (Try.f3.params.toList ++ Rows.fnFitsShapeSpec.plain.varTypes Try.pinned.checked.prog ++ Try.f3.resultTypes.toList).any (Try.pinned.checked.prog.wideKeysFrom ·)) = true := by kernel_rfl
theorem fsh_k19 : Rows.fnFitsShapeSpec.vars.all (Try.pinned.checked.prog.varReadable ·) = true := by kernel_rfl
theorem fsh_k20 : Try.f3.resultTypes.all (fun t => Try.pinned.checked.prog.readableRec t && decide (t < Try.pinned.checked.prog.types.size)) = true := by kernel_rfl
theorem fsh_k21 : (Rows.fnFitsShapeRow.ifacesOut == Try.f3.resultTypes.toList.any (Try.pinned.checked.prog.ifacesRec ·)) = true := by kernel_rfl
theorem fsh_k22 : (Rows.fnFitsShapeRow.loopsOut == Try.f3.resultTypes.toList.any (Try.pinned.checked.prog.loopsFrom ·)) = true := by kernel_rfl
theorem fsh_k23 : (Rows.fnFitsShapeRow.plainKeys == Try.pinned.checked.prog.plainKeys) = true := by kernel_rfl
theorem fsh_k24 : Rows.fnFitsShapeRow.shortTexts.isNone = true := by kernel_rfl
theorem fsh_k25 : Try.pinned.checked.prog.stopsHeard = true := by kernel_rfl
theorem fsh_k26 : Try.pinned.checked.prog.mayEnter = true := io_enter
theorem fsh_k27 : (Rows.fnFitsShapeRow.lifted == Try.pinned.checked.prog.liftsFinal) = true := by
  show (false == Try.prog.liftsFinal) = true
  rw [io_lifts]; rfl
theorem fsh_k28 : (Try.pinned.checked.prog.make == some Rows.fnFitsShapeRow.make) = true := by
  show (Try.prog.make == some Make.cut) = true
  rw [io_make]; rfl
theorem fsh_k29 : (Rows.fnFitsShapeRow.kinds == (if Rows.fnFitsShapeRow.domain.isEmpty then [] else Try.f3.params.toList.map fun t => match Try.pinned.checked.prog.underlying t with | some (.int k) => some k | _ => none)) = true := by kernel_rfl
theorem fsh_k30 : (Rows.fnFitsShapeRow.pinned == Rows.fnFitsShapeRow.pinnedBy) = true := by kernel_rfl
theorem fsh_k31 : (Rows.fnFitsShapeRow.veiled == (Try.f3.params.toList ++ Rows.fnFitsShapeSpec.plain.varTypes Try.pinned.checked.prog ++ Try.f3.resultTypes.toList).any (Try.pinned.checked.prog.veiledRec ·)) = true := by kernel_rfl
theorem fsh_k32 : Rows.fnFitsShapeRow.veiledFits Try.pinned.checked.prog Try.f3.params.toList (Try.f3.params.toList ++ Rows.fnFitsShapeSpec.plain.varTypes Try.pinned.checked.prog ++ Try.f3.resultTypes.toList) = true := by kernel_rfl
theorem fsh_facts : joinedFacts Try.pinned.checked.prog 3 Try.f3 Rows.fnFitsShapeSpec Rows.fnFitsShapeRow = true := joined_mk fsh_k1 fsh_k2 fsh_k3 fsh_k4 fsh_k5 fsh_k6 fsh_k7 fsh_k8 fsh_k9 fsh_k10 fsh_k11 fsh_k12 fsh_k13 fsh_k14 fsh_k15 fsh_k16 fsh_k17 fsh_k18 fsh_k19 fsh_k20 fsh_k21 fsh_k22 fsh_k23 fsh_k24 fsh_k25 fsh_k26 fsh_k27 fsh_k28 fsh_k29 fsh_k30 fsh_k31 fsh_k32
theorem fsh_inst : (Try.f3).isInstance Try.pinned.checked.prog Rows.fnFitsShapeRow.origin Rows.fnFitsShapeRow.targs := of_decide_eq_true (by kernel_rfl)
theorem fsh_wrap : (Try.f3).isWrapper Try.pinned.checked.prog Rows.fnFitsShapeRow.wrapper Rows.fnFitsShapeRow.mainSum := by unfold Func.isWrapper; first | (rw [if_pos (by decide +kernel)]; kernel_rfl) | (rw [if_neg (by decide +kernel)]; exact ⟨rfl, rfl⟩)
theorem fsh_holds : Rows.FnFitsShapeSaid :=
  OpenClaim.holds_of_wide 3 Try.f3 rfl rfl rfl rfl rfl rfl rfl ⟨rfl, rfl, rfl, rfl, rfl⟩ rfl rfl rfl rfl rfl fsh_named Try.func3 fsh_facts fsh_inst fsh_wrap
    (fun os started H enc _ => fsh_lifted os started H enc)
#print axioms fsh_holds
end Go.Proofs.Ytgfnmhfdmmnaoaa
