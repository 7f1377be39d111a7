/-
  FnExactFirstMisfit returns true whatever the arguments, and they read behind the call as they read before. No condition.
-/
import Derived.Test.YtgfnmhfdmmnaoaaFmG

set_option linter.unusedSimpArgs false
set_option linter.unusedVariables false
set_option linter.unnecessarySimpa false
set_option maxRecDepth 100000
set_option maxHeartbeats 16000000
namespace Go.Proofs.Ytgfnmhfdmmnaoaa
open Go.ChangeShapes Go.WideShapes Go.ChangeAt Go.RowKit
theorem fmE_lifted (os : Os) (started : os.Started) (H : Type) (enc : TypeId × Value → H) :
    ReturnsInHanded {} Try.checked os 7 .any (Rows.fnExactFirstMisfitSpec.pre6 enc Try.prog Try.f7 Rows.fnExactFirstMisfitRow.domain false) (Rows.fnExactFirstMisfitSpec.post enc Try.prog Try.f7 false true false false) := by
  refine returnsInHanded_of_change (C := Try.checked) Try.own started (by kernel_rfl) Try.func7
    (ChangeSpec.witness6 (enc := enc) (C := Try.checked) false ⟨#[], #[.agg #[.int .i64 0, .slice none 0 0, .slice none 0 0, .slice none 0 0], .agg #[.int .i64 0, .int .i64 0, .string ⟨#[]⟩, .slice none 0 0, .slice none 0 0]], []⟩ 12 (by kernel_rfl) (by kernel_rfl) (by kernel_rfl) (by kernel_rfl)) ?_
  intro W base args ds gs before hval0 hW hcnd _
  have hval : ∀ (j : Nat) t v, Try.f7.params[j]? = some t → args[j]? = some v → Value.okWide Try.prog W .any base t v := hval0
  have hW' := hW
  obtain ⟨p, q, hA0, hV, rfl, hfz, hnd⟩ := hW
  have hA : DataW.TrodAll enc Try.prog W 0 (fun _ => true) true Try.f7.params.toList args.toList ds p := hA0
  rw [Try.params7] at hA hval
  obtain ⟨v0, v1, d0, d1, p0, p1, rfl, rfl, hp, h0, h1⟩ := trodAll_two hA
  obtain ⟨rfl, rfl⟩ := trodVars_none hV
  obtain ⟨cs0, rfl, _⟩ := okWide_struct Try.underlying75 (hval 0 75 v0 rfl rfl)
  obtain ⟨fuel0, h0⟩ := h0
  obtain ⟨x0, hx0⟩ := rv_shp h0
  obtain ⟨cs1, rfl, _⟩ := okWide_struct Try.underlying41 (hval 1 41 v1 rfl rfl)
  obtain ⟨fuel1, h1⟩ := h1
  obtain ⟨x1, hx1⟩ := rv_node h1
  refine (lawFm_ok x0 x1 _ _ W hx0 hx1).mono fun e W' ⟨he, hg⟩ => ?_
  subst he
  refine ⟨_, rfl, post_grow rfl ?_ (by kernel_rfl) rfl hW' hg⟩
  intro t ht
  rw [Try.params7] at ht
  simp at ht
  rcases ht with rfl | rfl
  all_goals exact ⟨by kernel_rfl, of_decide_eq_true (by kernel_rfl)⟩
theorem fmE_named : Try.pinned.checked.prog.funcNamed Rows.fnExactFirstMisfitRow.func = some 7 := by kernel_rfl
theorem fmE_k1 : Rows.fnExactFirstMisfitRow.wf (OpenSpec.ofChange Rows.fnExactFirstMisfitSpec) = true := by kernel_rfl
theorem fmE_k2 : laidOutB Try.pinned.checked.prog = true := by kernel_rfl
theorem fmE_k3 : mapsRowed Try.pinned.checked.prog = true := by kernel_rfl
theorem fmE_k4 : Try.f7.params.all (Try.pinned.checked.prog.readableRec ·) = true := by kernel_rfl
theorem fmE_k5 : namedTie Try.pinned.checked.prog Rows.fnExactFirstMisfitRow.named Rows.fnExactFirstMisfitSpec.vars = true := by kernel_rfl
theorem fmE_k6 : (Rows.fnExactFirstMisfitRow.stops == []) = true := by kernel_rfl
theorem fmE_k7 : (Try.pinned.checked.prog.stops == []) = true := by kernel_rfl
theorem fmE_k8 : (Rows.fnExactFirstMisfitRow.knobs == []) = true := by kernel_rfl
theorem fmE_k9 : (Try.pinned.checked.prog.stopKnobs == []) = true := by kernel_rfl
theorem fmE_k10 : (Rows.fnExactFirstMisfitRow.inPlace == Try.pinned.checked.prog.inPlace 7) = true := by kernel_rfl
theorem fmE_k11 : (Rows.fnExactFirstMisfitRow.unfollowed == Try.pinned.checked.prog.unfollowed 7) = true := by kernel_rfl
theorem fmE_k12 : (Rows.fnExactFirstMisfitRow.recurses == Try.pinned.checked.prog.recurses 7) = true := by kernel_rfl
theorem fmE_k13 : (Rows.fnExactFirstMisfitRow.named == Try.pinned.checked.prog.varsNamed 7) = true := by kernel_rfl
theorem fmE_k14 : (Rows.fnExactFirstMisfitRow.maps == (Try.f7.params.toList ++ Rows.fnExactFirstMisfitSpec.plain.varTypes Try.pinned.checked.prog).any (Try.pinned.checked.prog.mapsRec ·)) = true := by kernel_rfl
theorem fmE_k15 : (Rows.fnExactFirstMisfitRow.ifaces == (Try.f7.params.toList ++ Rows.fnExactFirstMisfitSpec.plain.varTypes Try.pinned.checked.prog).any (Try.pinned.checked.prog.ifacesRec ·)) = true := by kernel_rfl
theorem fmE_k16 : (Rows.fnExactFirstMisfitRow.mapsOut == Try.pinned.checked.prog.mapsAmong Try.f7.resultTypes.toList) = true := by kernel_rfl
theorem fmE_k17 : (Rows.fnExactFirstMisfitRow.loops == (Try.f7.params.toList ++ Rows.fnExactFirstMisfitSpec.plain.varTypes Try.pinned.checked.prog).any (Try.pinned.checked.prog.loopsFrom ·)) = true := by kernel_rfl
theorem fmE_k18 : (Rows.fnExactFirstMisfitRow.wideKeys == (Try.f7.params.toList ++ Rows.fnExactFirstMisfitSpec.plain.varTypes Try.pinned.checked.prog ++ Try.f7.resultTypes.toList).any (Try.pinned.checked.prog.wideKeysFrom ·)) = true := by kernel_rfl
theorem fmE_k19 : Rows.fnExactFirstMisfitSpec.vars.all (Try.pinned.checked.prog.varReadable ·) = true := by kernel_rfl
theorem fmE_k20 : Try.f7.resultTypes.all (fun t => Try.pinned.checked.prog.readableRec t && decide (t < Try.pinned.checked.prog.types.size)) = true := by kernel_rfl
theorem fmE_k21 : (Rows.fnExactFirstMisfitRow.ifacesOut == Try.f7.resultTypes.toList.any (Try.pinned.checked.prog.ifacesRec ·)) = true := by kernel_rfl
theorem fmE_k22 : (Rows.fnExactFirstMisfitRow.loopsOut == Try.f7.resultTypes.toList.any (Try.pinned.checked.prog.loopsFrom ·)) = true := by kernel_rfl
theorem fmE_k23 : (Rows.fnExactFirstMisfitRow.plainKeys == Try.pinned.checked.prog.plainKeys) = true := by kernel_rfl
theorem fmE_k24 : Rows.fnExactFirstMisfitRow.shortTexts.isNone = true := by kernel_rfl
theorem fmE_k25 : Try.pinned.checked.prog.stopsHeard = true := by kernel_rfl
theorem fmE_k26 : Try.pinned.checked.prog.mayEnter = true := io_enter
theorem fmE_k27 : (Rows.fnExactFirstMisfitRow.lifted == Try.pinned.checked.prog.liftsFinal) = true := by
  show (false == Try.prog.liftsFinal) = true
  rw [io_lifts]; rfl
theorem fmE_k28 : (Try.pinned.checked.prog.make == some Rows.fnExactFirstMisfitRow.make) = true := by
  show (Try.prog.make == some Make.cut) = true
  rw [io_make]; rfl
theorem fmE_k29 : (Rows.fnExactFirstMisfitRow.kinds == (if Rows.fnExactFirstMisfitRow.domain.isEmpty then [] else Try.f7.params.toList.map fun t => match Try.pinned.checked.prog.underlying t with | some (.int k) => some k | _ => none)) = true := by kernel_rfl
theorem fmE_k30 : (Rows.fnExactFirstMisfitRow.pinned == Rows.fnExactFirstMisfitRow.pinnedBy) = true := by kernel_rfl
theorem fmE_k31 : (Rows.fnExactFirstMisfitRow.veiled == (Try.f7.params.toList ++ Rows.fnExactFirstMisfitSpec.plain.varTypes Try.pinned.checked.prog ++ Try.f7.resultTypes.toList).any (Try.pinned.checked.prog.veiledRec ·)) = true := by kernel_rfl
theorem fmE_k32 : Rows.fnExactFirstMisfitRow.veiledFits Try.pinned.checked.prog Try.f7.params.toList (Try.f7.params.toList ++ Rows.fnExactFirstMisfitSpec.plain.varTypes Try.pinned.checked.prog ++ Try.f7.resultTypes.toList) = true := by kernel_rfl
theorem fmE_facts : joinedFacts Try.pinned.checked.prog 7 Try.f7 Rows.fnExactFirstMisfitSpec Rows.fnExactFirstMisfitRow = true := joined_mk fmE_k1 fmE_k2 fmE_k3 fmE_k4 fmE_k5 fmE_k6 fmE_k7 fmE_k8 fmE_k9 fmE_k10 fmE_k11 fmE_k12 fmE_k13 fmE_k14 fmE_k15 fmE_k16 fmE_k17 fmE_k18 fmE_k19 fmE_k20 fmE_k21 fmE_k22 fmE_k23 fmE_k24 fmE_k25 fmE_k26 fmE_k27 fmE_k28 fmE_k29 fmE_k30 fmE_k31 fmE_k32
theorem fmE_inst : (Try.f7).isInstance Try.pinned.checked.prog Rows.fnExactFirstMisfitRow.origin Rows.fnExactFirstMisfitRow.targs := of_decide_eq_true (by kernel_rfl)
theorem fmE_wrap : (Try.f7).isWrapper Try.pinned.checked.prog Rows.fnExactFirstMisfitRow.wrapper Rows.fnExactFirstMisfitRow.mainSum := by unfold Func.isWrapper; first | (rw [if_pos (by decide +kernel)]; kernel_rfl) | (rw [if_neg (by decide +kernel)]; exact ⟨rfl, rfl⟩)
theorem fmE_holds : Rows.FnExactFirstMisfitSaid :=
  OpenClaim.holds_of_wide 7 Try.f7 rfl rfl rfl rfl rfl rfl rfl ⟨rfl, rfl, rfl, rfl, rfl⟩ rfl rfl rfl rfl rfl fmE_named Try.func7 fmE_facts fmE_inst fmE_wrap
    (fun os started H enc _ => fmE_lifted os started H enc)
#print axioms fmE_holds
end Go.Proofs.Ytgfnmhfdmmnaoaa
