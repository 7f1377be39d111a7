/-
  FnExactNodeToOp returns true whatever the argument, and it reads behind the call as it read before. No condition.
-/
import Derived.Test.YtgfnmhfdmmnaoaaNoG

set_option linter.unusedSimpArgs false
set_option linter.unusedVariables false
set_option linter.unnecessarySimpa false
set_option maxRecDepth 100000
set_option maxHeartbeats 16000000
namespace Go.Proofs.Ytgfnmhfdmmnaoaa
open Go.ChangeShapes Go.WideShapes Go.ChangeAt Go.RowKit
theorem noE_lifted (os : Os) (started : os.Started) (H : Type) (enc : TypeId × Value → H) :
    ReturnsInHanded {} Try.checked os 6 .any (Rows.fnExactNodeToOpSpec.pre6 enc Try.prog Try.f6 Rows.fnExactNodeToOpRow.domain false) (Rows.fnExactNodeToOpSpec.post enc Try.prog Try.f6 false true false false) := by
  refine returnsInHanded_of_change (C := Try.checked) Try.own started (by kernel_rfl) Try.func6
    (ChangeSpec.witness6 (enc := enc) (C := Try.checked) false ⟨#[], #[.agg #[.int .i64 0, .int .i64 0, .string ⟨#[]⟩, .slice none 0 0, .slice none 0 0]], []⟩ 12 (by kernel_rfl) (by kernel_rfl) (by kernel_rfl) (by kernel_rfl)) ?_
  intro W base args ds gs before hval0 hW hcnd _
  have hval : ∀ (j : Nat) t v, Try.f6.params[j]? = some t → args[j]? = some v → Value.okWide Try.prog W .any base t v := hval0
  have hW' := hW
  obtain ⟨p, q, hA0, hV, rfl, hfz, hnd⟩ := hW
  have hA : DataW.TrodAll enc Try.prog W 0 (fun _ => true) true Try.f6.params.toList args.toList ds p := hA0
  rw [Try.params6] at hA hval
  obtain ⟨v0, d0, rfl, rfl, h0⟩ := trodAll_one hA
  obtain ⟨rfl, rfl⟩ := trodVars_none hV
  obtain ⟨cs0, rfl, _⟩ := okWide_struct Try.underlying41 (hval 0 41 v0 rfl rfl)
  obtain ⟨fuel0, h0⟩ := h0
  obtain ⟨x0, hx0⟩ := rv_node h0
  refine (lawN2o_ok x0 _ W hx0).mono fun e W' ⟨he, hg⟩ => ?_
  subst he
  refine ⟨_, rfl, post_grow rfl ?_ (by kernel_rfl) rfl hW' hg⟩
  intro t ht
  rw [Try.params6] at ht
  simp at ht
  subst ht
  exact ⟨by kernel_rfl, of_decide_eq_true (by kernel_rfl)⟩
theorem noE_named : Try.pinned.checked.prog.funcNamed Rows.fnExactNodeToOpRow.func = some 6 := by kernel_rfl
theorem noE_k1 : Rows.fnExactNodeToOpRow.wf (OpenSpec.ofChange Rows.fnExactNodeToOpSpec) = true := by kernel_rfl
theorem noE_k2 : laidOutB Try.pinned.checked.prog = true := by kernel_rfl
theorem noE_k3 : mapsRowed Try.pinned.checked.prog = true := by kernel_rfl
theorem noE_k4 : Try.f6.params.all (Try.pinned.checked.prog.readableRec ·) = true := by kernel_rfl
theorem noE_k5 : namedTie Try.pinned.checked.prog Rows.fnExactNodeToOpRow.named Rows.fnExactNodeToOpSpec.vars = true := by kernel_rfl
theorem noE_k6 : (Rows.fnExactNodeToOpRow.stops == []) = true := by kernel_rfl
theorem noE_k7 : (Try.pinned.checked.prog.stops == []) = true := by kernel_rfl
theorem noE_k8 : (Rows.fnExactNodeToOpRow.knobs == []) = true := by kernel_rfl
theorem noE_k9 : (Try.pinned.checked.prog.stopKnobs == []) = true := by kernel_rfl
theorem noE_k10 : (Rows.fnExactNodeToOpRow.inPlace == Try.pinned.checked.prog.inPlace 6) = true := by kernel_rfl
theorem noE_k11 : (Rows.fnExactNodeToOpRow.unfollowed == Try.pinned.checked.prog.unfollowed 6) = true := by kernel_rfl
theorem noE_k12 : (Rows.fnExactNodeToOpRow.recurses == Try.pinned.checked.prog.recurses 6) = true := by kernel_rfl
theorem noE_k13 : (Rows.fnExactNodeToOpRow.named == Try.pinned.checked.prog.varsNamed 6) = true := by kernel_rfl
theorem noE_k14 : (Rows.fnExactNodeToOpRow.maps == (Try.f6.params.toList ++ Rows.fnExactNodeToOpSpec.plain.varTypes Try.pinned.checked.prog).any (Try.pinned.checked.prog.mapsRec ·)) = true := by kernel_rfl
theorem noE_k15 : (Rows.fnExactNodeToOpRow.ifaces == (Try.f6.params.toList ++ Rows.fnExactNodeToOpSpec.plain.varTypes Try.pinned.checked.prog).any (Try.pinned.checked.prog.ifacesRec ·)) = true := by kernel_rfl
theorem noE_k16 : (Rows.fnExactNodeToOpRow.mapsOut == Try.pinned.checked.prog.mapsAmong Try.f6.resultTypes.toList) = true := by kernel_rfl
theorem noE_k17 : (Rows.fnExactNodeToOpRow.loops == (Try.f6.params.toList ++ Rows.fnExactNodeToOpSpec.plain.varTypes Try.pinned.checked.prog).any (Try.pinned.checked.prog.loopsFrom ·)) = true := by kernel_rfl
theorem noE_k18 : (Rows.fnExactNodeToOpRow.wideKeys == (Try.f6.params.toList ++ Rows.fnExactNodeToOpSpec.plain.varTypes Try.pinned.checked.prog ++ Try.f6.resultTypes.toList).any (Try.pinned.checked.prog.wideKeysFrom ·)) = true := by kernel_rfl
theorem noE_k19 : Rows.fnExactNodeToOpSpec.vars.all (Try.pinned.checked.prog.varReadable ·) = true := by kernel_rfl
theorem noE_k20 : Try.f6.resultTypes.all (fun t => Try.pinned.checked.prog.readableRec t && decide (t < Try.pinned.checked.prog.types.size)) = true := by kernel_rfl
theorem noE_k21 : (Rows.fnExactNodeToOpRow.ifacesOut == Try.f6.resultTypes.toList.any (Try.pinned.checked.prog.ifacesRec ·)) = true := by kernel_rfl
theorem noE_k22 : (Rows.fnExactNodeToOpRow.loopsOut == Try.f6.resultTypes.toList.any (Try.pinned.checked.prog.loopsFrom ·)) = true := by kernel_rfl
theorem noE_k23 : (Rows.fnExactNodeToOpRow.plainKeys == Try.pinned.checked.prog.plainKeys) = true := by kernel_rfl
theorem noE_k24 : Rows.fnExactNodeToOpRow.shortTexts.isNone = true := by kernel_rfl
theorem noE_k25 : Try.pinned.checked.prog.stopsHeard = true := by kernel_rfl
theorem noE_k26 : Try.pinned.checked.prog.mayEnter = true := io_enter
theorem noE_k27 : (Rows.fnExactNodeToOpRow.lifted == Try.pinned.checked.prog.liftsFinal) = true := by
  show (false == Try.prog.liftsFinal) = true
  rw [io_lifts]; rfl
theorem noE_k28 : (Try.pinned.checked.prog.make == some Rows.fnExactNodeToOpRow.make) = true := by
  show (Try.prog.make == some Make.cut) = true
  rw [io_make]; rfl
theorem noE_k29 : (Rows.fnExactNodeToOpRow.kinds == (if Rows.fnExactNodeToOpRow.domain.isEmpty then [] else Try.f6.params.toList.map fun t => match Try.pinned.checked.prog.underlying t with | some (.int k) => some k | _ => none)) = true := by kernel_rfl
theorem noE_k30 : (Rows.fnExactNodeToOpRow.pinned == Rows.fnExactNodeToOpRow.pinnedBy) = true := by kernel_rfl
theorem noE_k31 : (Rows.fnExactNodeToOpRow.veiled == (Try.f6.params.toList ++ Rows.fnExactNodeToOpSpec.plain.varTypes Try.pinned.checked.prog ++ Try.f6.resultTypes.toList).any (Try.pinned.checked.prog.veiledRec ·)) = true := by kernel_rfl
theorem noE_k32 : Rows.fnExactNodeToOpRow.veiledFits Try.pinned.checked.prog Try.f6.params.toList (Try.f6.params.toList ++ Rows.fnExactNodeToOpSpec.plain.varTypes Try.pinned.checked.prog ++ Try.f6.resultTypes.toList) = true := by kernel_rfl
theorem noE_facts : joinedFacts Try.pinned.checked.prog 6 Try.f6 Rows.fnExactNodeToOpSpec Rows.fnExactNodeToOpRow = true := joined_mk noE_k1 noE_k2 noE_k3 noE_k4 noE_k5 noE_k6 noE_k7 noE_k8 noE_k9 noE_k10 noE_k11 noE_k12 noE_k13 noE_k14 noE_k15 noE_k16 noE_k17 noE_k18 noE_k19 noE_k20 noE_k21 noE_k22 noE_k23 noE_k24 noE_k25 noE_k26 noE_k27 noE_k28 noE_k29 noE_k30 noE_k31 noE_k32
theorem noE_inst : (Try.f6).isInstance Try.pinned.checked.prog Rows.fnExactNodeToOpRow.origin Rows.fnExactNodeToOpRow.targs := of_decide_eq_true (by kernel_rfl)
theorem noE_wrap : (Try.f6).isWrapper Try.pinned.checked.prog Rows.fnExactNodeToOpRow.wrapper Rows.fnExactNodeToOpRow.mainSum := by unfold Func.isWrapper; first | (rw [if_pos (by decide +kernel)]; kernel_rfl) | (rw [if_neg (by decide +kernel)]; exact ⟨rfl, rfl⟩)
theorem noE_holds : Rows.FnExactNodeToOpSaid :=
  OpenClaim.holds_of_wide 6 Try.f6 rfl rfl rfl rfl rfl rfl rfl ⟨rfl, rfl, rfl, rfl, rfl⟩ rfl rfl rfl rfl rfl noE_named Try.func6 noE_facts noE_inst noE_wrap
    (fun os started H enc _ => noE_lifted os started H enc)
#print axioms noE_holds
end Go.Proofs.Ytgfnmhfdmmnaoaa
