/-
  FnExactOpToNode returns true whatever the argument, and it reads behind the call as it read before. No condition.
-/
import Derived.Test.YtgfnmhfdmmnaoaaOnG

set_option linter.unusedSimpArgs false
set_option linter.unusedVariables false
set_option linter.unnecessarySimpa false
set_option maxRecDepth 100000
set_option maxHeartbeats 16000000
namespace Go.Proofs.Ytgfnmhfdmmnaoaa
open Go.ChangeShapes Go.WideShapes Go.ChangeAt Go.RowKit
theorem onE_lifted (os : Os) (started : os.Started) (H : Type) (enc : TypeId × Value → H) :
    ReturnsInHanded {} Try.checked os 4 .any (Rows.fnExactOpToNodeSpec.pre6 enc Try.prog Try.f4 Rows.fnExactOpToNodeRow.domain false) (Rows.fnExactOpToNodeSpec.post enc Try.prog Try.f4 false true false false) := by
  refine returnsInHanded_of_change (C := Try.checked) Try.own started (by kernel_rfl) Try.func4
    (ChangeSpec.witness6 (enc := enc) (C := Try.checked) false ⟨#[], #[.agg #[.int .i64 0, .slice none 0 0, .slice none 0 0, .int .i64 0, .int .i64 0, .string ⟨#[]⟩, .slice none 0 0, .slice none 0 0]], []⟩ 12 (by kernel_rfl) (by kernel_rfl) (by kernel_rfl) (by kernel_rfl)) ?_
  intro W base args ds gs before hval0 hW hcnd _
  have hval : ∀ (j : Nat) t v, Try.f4.params[j]? = some t → args[j]? = some v → Value.okWide Try.prog W .any base t v := hval0
  have hW' := hW
  obtain ⟨p, q, hA0, hV, rfl, hfz, hnd⟩ := hW
  have hA : DataW.TrodAll enc Try.prog W 0 (fun _ => true) true Try.f4.params.toList args.toList ds p := hA0
  rw [Try.params4] at hA hval
  obtain ⟨v0, d0, rfl, rfl, h0⟩ := trodAll_one hA
  obtain ⟨rfl, rfl⟩ := trodVars_none hV
  obtain ⟨cs0, rfl, _⟩ := okWide_struct Try.underlying43 (hval 0 43 v0 rfl rfl)
  obtain ⟨fuel0, h0⟩ := h0
  obtain ⟨x0, hx0⟩ := rv_opr h0
  refine (lawO2n_ok x0 _ W hx0).mono fun e W' ⟨he, hg⟩ => ?_
  subst he
  refine ⟨_, rfl, post_grow rfl ?_ (by kernel_rfl) rfl hW' hg⟩
  intro t ht
  rw [Try.params4] at ht
  simp at ht
  subst ht
  exact ⟨by kernel_rfl, of_decide_eq_true (by kernel_rfl)⟩
theorem onE_named : Try.pinned.checked.prog.funcNamed Rows.fnExactOpToNodeRow.func = some 4 := by kernel_rfl
theorem onE_k1 : Rows.fnExactOpToNodeRow.wf (OpenSpec.ofChange Rows.fnExactOpToNodeSpec) = true := by kernel_rfl
theorem onE_k2 : laidOutB Try.pinned.checked.prog = true := by kernel_rfl
theorem onE_k3 : mapsRowed Try.pinned.checked.prog = true := by kernel_rfl
theorem onE_k4 : Try.f4.params.all (Try.pinned.checked.prog.readableRec ·) = true := by kernel_rfl
theorem onE_k5 : namedTie Try.pinned.checked.prog Rows.fnExactOpToNodeRow.named Rows.fnExactOpToNodeSpec.vars = true := by kernel_rfl
theorem onE_k6 : (Rows.fnExactOpToNodeRow.stops == []) = true := by kernel_rfl
theorem onE_k7 : (Try.pinned.checked.prog.stops == []) = true := by kernel_rfl
theorem onE_k8 : (Rows.fnExactOpToNodeRow.knobs == []) = true := by kernel_rfl
theorem onE_k9 : (Try.pinned.checked.prog.stopKnobs == []) = true := by kernel_rfl
theorem onE_k10 : (Rows.fnExactOpToNodeRow.inPlace == Try.pinned.checked.prog.inPlace 4) = true := by kernel_rfl
theorem onE_k11 : (Rows.fnExactOpToNodeRow.unfollowed == Try.pinned.checked.prog.unfollowed 4) = true := by kernel_rfl
theorem onE_k12 : (Rows.fnExactOpToNodeRow.recurses == Try.pinned.checked.prog.recurses 4) = true := by kernel_rfl
theorem onE_k13 : (Rows.fnExactOpToNodeRow.named == Try.pinned.checked.prog.varsNamed 4) = true := by kernel_rfl
theorem onE_k14 : (Rows.fnExactOpToNodeRow.maps == (Try.f4.params.toList ++ Rows.fnExactOpToNodeSpec.plain.varTypes Try.pinned.checked.prog).any (Try.pinned.checked.prog.mapsRec ·)) = true := by kernel_rfl
theorem onE_k15 : (Rows.fnExactOpToNodeRow.ifaces == (Try.f4.params.toList ++ Rows.fnExactOpToNodeSpec.plain.varTypes Try.pinned.checked.prog).any (Try.pinned.checked.prog.ifacesRec ·)) = true := by kernel_rfl
theorem onE_k16 : (Rows.fnExactOpToNodeRow.mapsOut == Try.pinned.checked.prog.mapsAmong Try.f4.resultTypes.toList) = true := by kernel_rfl
theorem onE_k17 : (Rows.fnExactOpToNodeRow.loops == (Try.f4.params.toList ++ Rows.fnExactOpToNodeSpec.plain.varTypes Try.pinned.checked.prog).any (Try.pinned.checked.prog.loopsFrom ·)) = true := by kernel_rfl
theorem onE_k18 : (Rows.fnExactOpToNodeRow.wideKeys == (Try.f4.params.toList ++ Rows.fnExactOpToNodeSpec.plain.varTypes Try.pinned.checked.prog ++ Try.f4.resultTypes.toList).any (Try.pinned.checked.prog.wideKeysFrom ·)) = true := by kernel_rfl
theorem onE_k19 : Rows.fnExactOpToNodeSpec.vars.all (Try.pinned.checked.prog.varReadable ·) = true := by kernel_rfl
theorem onE_k20 : Try.f4.resultTypes.all (fun t => Try.pinned.checked.prog.readableRec t && decide (t < Try.pinned.checked.prog.types.size)) = true := by kernel_rfl
theorem onE_k21 : (Rows.fnExactOpToNodeRow.ifacesOut == Try.f4.resultTypes.toList.any (Try.pinned.checked.prog.ifacesRec ·)) = true := by kernel_rfl
theorem onE_k22 : (Rows.fnExactOpToNodeRow.loopsOut == Try.f4.resultTypes.toList.any (Try.pinned.checked.prog.loopsFrom ·)) = true := by kernel_rfl
theorem onE_k23 : (Rows.fnExactOpToNodeRow.plainKeys == Try.pinned.checked.prog.plainKeys) = true := by kernel_rfl
theorem onE_k24 : Rows.fnExactOpToNodeRow.shortTexts.isNone = true := by kernel_rfl
theorem onE_k25 : Try.pinned.checked.prog.stopsHeard = true := by kernel_rfl
theorem onE_k26 : Try.pinned.checked.prog.mayEnter = true := io_enter
theorem onE_k27 : (Rows.fnExactOpToNodeRow.lifted == Try.pinned.checked.prog.liftsFinal) = true := by
  show (false == Try.prog.liftsFinal) = true
  rw [io_lifts]; rfl
theorem onE_k28 : (Try.pinned.checked.prog.make == some Rows.fnExactOpToNodeRow.make) = true := by
  show (Try.prog.make == some Make.cut) = true
  rw [io_make]; rfl
theorem onE_k29 : (Rows.fnExactOpToNodeRow.kinds == (if Rows.fnExactOpToNodeRow.domain.isEmpty then [] else Try.f4.params.toList.map fun t => match Try.pinned.checked.prog.underlying t with | some (.int k) => some k | _ => none)) = true := by kernel_rfl
theorem onE_k30 : (Rows.fnExactOpToNodeRow.pinned == Rows.fnExactOpToNodeRow.pinnedBy) = true := by kernel_rfl
theorem onE_k31 : (Rows.fnExactOpToNodeRow.veiled == (Try.f4.params.toList ++ Rows.fnExactOpToNodeSpec.plain.varTypes Try.pinned.checked.prog ++ Try.f4.resultTypes.toList).any (Try.pinned.checked.prog.veiledRec ·)) = true := by kernel_rfl
theorem onE_k32 : Rows.fnExactOpToNodeRow.veiledFits Try.pinned.checked.prog Try.f4.params.toList (Try.f4.params.toList ++ Rows.fnExactOpToNodeSpec.plain.varTypes Try.pinned.checked.prog ++ Try.f4.resultTypes.toList) = true := by kernel_rfl
theorem onE_facts : joinedFacts Try.pinned.checked.prog 4 Try.f4 Rows.fnExactOpToNodeSpec Rows.fnExactOpToNodeRow = true := joined_mk onE_k1 onE_k2 onE_k3 onE_k4 onE_k5 onE_k6 onE_k7 onE_k8 onE_k9 onE_k10 onE_k11 onE_k12 onE_k13 onE_k14 onE_k15 onE_k16 onE_k17 onE_k18 onE_k19 onE_k20 onE_k21 onE_k22 onE_k23 onE_k24 onE_k25 onE_k26 onE_k27 onE_k28 onE_k29 onE_k30 onE_k31 onE_k32
theorem onE_inst : (Try.f4).isInstance Try.pinned.checked.prog Rows.fnExactOpToNodeRow.origin Rows.fnExactOpToNodeRow.targs := of_decide_eq_true (by kernel_rfl)
theorem onE_wrap : (Try.f4).isWrapper Try.pinned.checked.prog Rows.fnExactOpToNodeRow.wrapper Rows.fnExactOpToNodeRow.mainSum := by unfold Func.isWrapper; first | (rw [if_pos (by decide +kernel)]; kernel_rfl) | (rw [if_neg (by decide +kernel)]; exact ⟨rfl, rfl⟩)
theorem onE_holds : Rows.FnExactOpToNodeSaid :=
  OpenClaim.holds_of_wide 4 Try.f4 rfl rfl rfl rfl rfl rfl rfl ⟨rfl, rfl, rfl, rfl, rfl⟩ rfl rfl rfl rfl rfl onE_named Try.func4 onE_facts onE_inst onE_wrap
    (fun os started H enc _ => onE_lifted os started H enc)
#print axioms onE_holds
end Go.Proofs.Ytgfnmhfdmmnaoaa
