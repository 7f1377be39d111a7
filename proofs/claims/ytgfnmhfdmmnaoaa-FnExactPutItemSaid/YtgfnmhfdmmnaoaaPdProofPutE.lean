/-
  FnExactPutItem returns true whatever the arguments, and they read behind the call as they read before. No condition.
-/
import Derived.Test.YtgfnmhfdmmnaoaaPdH

set_option linter.unusedSimpArgs false
set_option linter.unusedVariables false
set_option linter.unnecessarySimpa false
set_option maxRecDepth 100000
set_option maxHeartbeats 16000000
namespace Go.Proofs.Ytgfnmhfdmmnaoaa
open Go.ChangeShapes Go.WideShapes Go.ChangeAt Go.RowKit
theorem putE_lifted (os : Os) (started : os.Started) (H : Type) (enc : TypeId × Value → H) :
    ReturnsInHanded {} Try.checked os 5 .any (Rows.fnExactPutItemSpec.pre6 enc Try.prog Try.f5 Rows.fnExactPutItemRow.domain false) (Rows.fnExactPutItemSpec.post enc Try.prog Try.f5 false true false false) := by
  refine returnsInHanded_of_change (C := Try.checked) Try.own started (by kernel_rfl) Try.func5
    (ChangeSpec.witness6 (enc := enc) (C := Try.checked) false ⟨#[], #[.agg #[.slice none 0 0, .int .i64 0], .string ⟨#[]⟩, .agg #[.int .i64 0, .int .i64 0, .string ⟨#[]⟩, .slice none 0 0, .slice none 0 0]], []⟩ 12 (by kernel_rfl) (by kernel_rfl) (by kernel_rfl) (by kernel_rfl)) ?_
  intro W base args ds gs before hval0 hW hcnd _
  have hval : ∀ (j : Nat) t v, Try.f5.params[j]? = some t → args[j]? = some v → Value.okWide Try.prog W .any base t v := hval0
  have hW' := hW
  obtain ⟨p, q, hA0, hV, rfl, hfz, hnd⟩ := hW
  have hA : DataW.TrodAll enc Try.prog W 0 (fun _ => true) true Try.f5.params.toList args.toList ds p := hA0
  rw [Try.params5] at hA hval
  obtain ⟨v0, v1, v2, d0, d1, d2, p0, p1, p2, rfl, rfl, hp, h0, h1, h2⟩ := trodAll_three hA
  obtain ⟨rfl, rfl⟩ := trodVars_none hV
  obtain ⟨cs0, rfl, _⟩ := okWide_struct Try.underlying57 (hval 0 57 v0 rfl rfl)
  obtain ⟨fuel0, h0⟩ := h0
  obtain ⟨x0, hx0⟩ := rv_sto h0
  obtain ⟨s1, rfl⟩ := okWide_string Try.underlying9 (hval 1 9 v1 rfl rfl)
  obtain ⟨fuel1, h1⟩ := h1
  have hs1 : s1.size ≤ big := rv_str h1
  obtain ⟨cs2, rfl, _⟩ := okWide_struct Try.underlying41 (hval 2 41 v2 rfl rfl)
  obtain ⟨fuel2, h2⟩ := h2
  obtain ⟨x2, hx2⟩ := rv_node h2
  refine (lawPut_ok x0 s1 x2 _ _ W hx0 hx2 hs1).mono fun e W' ⟨he, hg⟩ => ?_
  subst he
  refine ⟨_, rfl, post_grow rfl ?_ (by kernel_rfl) rfl hW' hg⟩
  intro t ht
  rw [Try.params5] at ht
  simp at ht
  rcases ht with rfl | rfl | rfl
  all_goals exact ⟨by kernel_rfl, of_decide_eq_true (by kernel_rfl)⟩
theorem putE_named : Try.pinned.checked.prog.funcNamed Rows.fnExactPutItemRow.func = some 5 := by kernel_rfl
theorem putE_k1 : Rows.fnExactPutItemRow.wf (OpenSpec.ofChange Rows.fnExactPutItemSpec) = true := by kernel_rfl
theorem putE_k2 : laidOutB Try.pinned.checked.prog = true := by kernel_rfl
theorem putE_k3 : mapsRowed Try.pinned.checked.prog = true := by kernel_rfl
theorem putE_k4 : Try.f5.params.all (Try.pinned.checked.prog.readableRec ·) = true := by kernel_rfl
theorem putE_k5 : namedTie Try.pinned.checked.prog Rows.fnExactPutItemRow.named Rows.fnExactPutItemSpec.vars = true := by kernel_rfl
theorem putE_k6 : (Rows.fnExactPutItemRow.stops == []) = true := by kernel_rfl
theorem putE_k7 : (Try.pinned.checked.prog.stops == []) = true := by kernel_rfl
theorem putE_k8 : (Rows.fnExactPutItemRow.knobs == []) = true := by kernel_rfl
theorem putE_k9 : (Try.pinned.checked.prog.stopKnobs == []) = true := by kernel_rfl
theorem putE_k10 : (Rows.fnExactPutItemRow.inPlace == Try.pinned.checked.prog.inPlace 5) = true := by kernel_rfl
theorem putE_k11 : (Rows.fnExactPutItemRow.unfollowed == Try.pinned.checked.prog.unfollowed 5) = true := by kernel_rfl
theorem putE_k12 : (Rows.fnExactPutItemRow.recurses == Try.pinned.checked.prog.recurses 5) = true := by kernel_rfl
theorem putE_k13 : (Rows.fnExactPutItemRow.named == Try.pinned.checked.prog.varsNamed 5) = true := by kernel_rfl
theorem putE_k14 : (Rows.fnExactPutItemRow.maps == (Try.f5.params.toList ++ Rows.fnExactPutItemSpec.plain.varTypes Try.pinned.checked.prog).any (Try.pinned.checked.prog.mapsRec ·)) = true := by kernel_rfl
theorem putE_k15 : (Rows.fnExactPutItemRow.ifaces == (Try.f5.params.toList ++ Rows.fnExactPutItemSpec.plain.varTypes Try.pinned.checked.prog).any (Try.pinned.checked.prog.ifacesRec ·)) = true := by kernel_rfl
theorem putE_k16 : (Rows.fnExactPutItemRow.mapsOut == Try.pinned.checked.prog.mapsAmong Try.f5.resultTypes.toList) = true := by kernel_rfl
theorem putE_k17 : (Rows.fnExactPutItemRow.loops == (Try.f5.params.toList ++ Rows.fnExactPutItemSpec.plain.varTypes Try.pinned.checked.prog).any (Try.pinned.checked.prog.loopsFrom ·)) = true := by kernel_rfl
theorem putE_k18 : (Rows.fnExactPutItemRow.wideKeys == (Try.f5.params.toList ++ Rows.fnExactPutItemSpec.plain.varTypes Try.pinned.checked.prog ++ Try.f5.resultTypes.toList).any (Try.pinned.checked.prog.wideKeysFrom ·)) = true := by kernel_rfl
theorem putE_k19 : Rows.fnExactPutItemSpec.vars.all (Try.pinned.checked.prog.varReadable ·) = true := by kernel_rfl
theorem putE_k20 : Try.f5.resultTypes.all (fun t => Try.pinned.checked.prog.readableRec t && decide (t < Try.pinned.checked.prog.types.size)) = true := by kernel_rfl
theorem putE_k21 : (Rows.fnExactPutItemRow.ifacesOut == Try.f5.resultTypes.toList.any (Try.pinned.checked.prog.ifacesRec ·)) = true := by kernel_rfl
theorem putE_k22 : (Rows.fnExactPutItemRow.loopsOut == Try.f5.resultTypes.toList.any (Try.pinned.checked.prog.loopsFrom ·)) = true := by kernel_rfl
theorem putE_k23 : (Rows.fnExactPutItemRow.plainKeys == Try.pinned.checked.prog.plainKeys) = true := by kernel_rfl
theorem putE_k24 : Rows.fnExactPutItemRow.shortTexts.isNone = true := by kernel_rfl
theorem putE_k25 : Try.pinned.checked.prog.stopsHeard = true := by kernel_rfl
theorem putE_k26 : Try.pinned.checked.prog.mayEnter = true := io_enter
theorem putE_k27 : (Rows.fnExactPutItemRow.lifted == Try.pinned.checked.prog.liftsFinal) = true := by
  show (false == Try.prog.liftsFinal) = true
  rw [io_lifts]; rfl
theorem putE_k28 : (Try.pinned.checked.prog.make == some Rows.fnExactPutItemRow.make) = true := by
  show (Try.prog.make == some Make.cut) = true
  rw [io_make]; rfl
theorem putE_k29 : (Rows.fnExactPutItemRow.kinds == (if Rows.fnExactPutItemRow.domain.isEmpty then [] else Try.f5.params.toList.map fun t => match Try.pinned.checked.prog.underlying t with | some (.int k) => some k | _ => none)) = true := by kernel_rfl
theorem putE_k30 : (Rows.fnExactPutItemRow.pinned == Rows.fnExactPutItemRow.pinnedBy) = true := by kernel_rfl
theorem putE_k31 : (Rows.fnExactPutItemRow.veiled == (Try.f5.params.toList ++ Rows.fnExactPutItemSpec.plain.varTypes Try.pinned.checked.prog ++ Try.f5.resultTypes.toList).any (Try.pinned.checked.prog.veiledRec ·)) = true := by kernel_rfl
theorem putE_k32 : Rows.fnExactPutItemRow.veiledFits Try.pinned.checked.prog Try.f5.params.toList (Try.f5.params.toList ++ Rows.fnExactPutItemSpec.plain.varTypes Try.pinned.checked.prog ++ Try.f5.resultTypes.toList) = true := by kernel_rfl
theorem putE_facts : joinedFacts Try.pinned.checked.prog 5 Try.f5 Rows.fnExactPutItemSpec Rows.fnExactPutItemRow = true := joined_mk putE_k1 putE_k2 putE_k3 putE_k4 putE_k5 putE_k6 putE_k7 putE_k8 putE_k9 putE_k10 putE_k11 putE_k12 putE_k13 putE_k14 putE_k15 putE_k16 putE_k17 putE_k18 putE_k19 putE_k20 putE_k21 putE_k22 putE_k23 putE_k24 putE_k25 putE_k26 putE_k27 putE_k28 putE_k29 putE_k30 putE_k31 putE_k32
theorem putE_inst : (Try.f5).isInstance Try.pinned.checked.prog Rows.fnExactPutItemRow.origin Rows.fnExactPutItemRow.targs := of_decide_eq_true (by kernel_rfl)
theorem putE_wrap : (Try.f5).isWrapper Try.pinned.checked.prog Rows.fnExactPutItemRow.wrapper Rows.fnExactPutItemRow.mainSum := by unfold Func.isWrapper; first | (rw [if_pos (by decide +kernel)]; kernel_rfl) | (rw [if_neg (by decide +kernel)]; exact ⟨rfl, rfl⟩)
theorem putE_holds : Rows.FnExactPutItemSaid :=
  OpenClaim.holds_of_wide 5 Try.f5 rfl rfl rfl rfl rfl rfl rfl ⟨rfl, rfl, rfl, rfl, rfl⟩ rfl rfl rfl rfl rfl putE_named Try.func5 putE_facts putE_inst putE_wrap
    (fun os started H enc _ => putE_lifted os started H enc)
#print axioms putE_holds
end Go.Proofs.Ytgfnmhfdmmnaoaa
