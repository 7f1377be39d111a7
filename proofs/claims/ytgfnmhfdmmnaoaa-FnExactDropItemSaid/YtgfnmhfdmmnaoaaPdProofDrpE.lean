/-
  FnExactDropItem returns true whatever the arguments, and they read behind the call as they read before. No condition.
-/
import Derived.Test.YtgfnmhfdmmnaoaaPdH

set_option linter.unusedSimpArgs false
set_option linter.unusedVariables false
set_option linter.unnecessarySimpa false
set_option maxRecDepth 100000
set_option maxHeartbeats 16000000
namespace Go.Proofs.Ytgfnmhfdmmnaoaa
open Go.ChangeShapes Go.WideShapes Go.ChangeAt Go.RowKit
theorem drpE_lifted (os : Os) (started : os.Started) (H : Type) (enc : TypeId × Value → H) :
    ReturnsInHanded {} Try.checked os 9 .any (Rows.fnExactDropItemSpec.pre6 enc Try.prog Try.f9 Rows.fnExactDropItemRow.domain false) (Rows.fnExactDropItemSpec.post enc Try.prog Try.f9 false true false false) := by
  refine returnsInHanded_of_change (C := Try.checked) Try.own started (by kernel_rfl) Try.func9
    (ChangeSpec.witness6 (enc := enc) (C := Try.checked) false ⟨#[], #[.agg #[.slice none 0 0, .int .i64 0], .string ⟨#[]⟩], []⟩ 12 (by kernel_rfl) (by kernel_rfl) (by kernel_rfl) (by kernel_rfl)) ?_
  intro W base args ds gs before hval0 hW hcnd _
  have hval : ∀ (j : Nat) t v, Try.f9.params[j]? = some t → args[j]? = some v → Value.okWide Try.prog W .any base t v := hval0
  have hW' := hW
  obtain ⟨p, q, hA0, hV, rfl, hfz, hnd⟩ := hW
  have hA : DataW.TrodAll enc Try.prog W 0 (fun _ => true) true Try.f9.params.toList args.toList ds p := hA0
  rw [Try.params9] at hA hval
  obtain ⟨v0, v1, d0, d1, p0, p1, rfl, rfl, hp, h0, h1⟩ := trodAll_two hA
  obtain ⟨rfl, rfl⟩ := trodVars_none hV
  obtain ⟨cs0, rfl, _⟩ := okWide_struct Try.underlying57 (hval 0 57 v0 rfl rfl)
  obtain ⟨fuel0, h0⟩ := h0
  obtain ⟨x0, hx0⟩ := rv_sto h0
  obtain ⟨s1, rfl⟩ := okWide_string Try.underlying9 (hval 1 9 v1 rfl rfl)
  obtain ⟨fuel1, h1⟩ := h1
  have hs1 : s1.size ≤ big := rv_str h1
  refine (lawDrop_ok x0 s1 _ W hx0 hs1).mono fun e W' ⟨he, hg⟩ => ?_
  subst he
  refine ⟨_, rfl, post_grow rfl ?_ (by kernel_rfl) rfl hW' hg⟩
  intro t ht
  rw [Try.params9] at ht
  simp at ht
  rcases ht with rfl | rfl
  all_goals exact ⟨by kernel_rfl, of_decide_eq_true (by kernel_rfl)⟩
theorem drpE_named : Try.pinned.checked.prog.funcNamed Rows.fnExactDropItemRow.func = some 9 := by kernel_rfl
theorem drpE_k1 : Rows.fnExactDropItemRow.wf (OpenSpec.ofChange Rows.fnExactDropItemSpec) = true := by kernel_rfl
theorem drpE_k2 : laidOutB Try.pinned.checked.prog = true := by kernel_rfl
theorem drpE_k3 : mapsRowed Try.pinned.checked.prog = true := by kernel_rfl
theorem drpE_k4 : Try.f9.params.all (Try.pinned.checked.prog.readableRec ·) = true := by kernel_rfl
theorem drpE_k5 : namedTie Try.pinned.checked.prog Rows.fnExactDropItemRow.named Rows.fnExactDropItemSpec.vars = true := by kernel_rfl
theorem drpE_k6 : (Rows.fnExactDropItemRow.stops == []) = true := by kernel_rfl
theorem drpE_k7 : (Try.pinned.checked.prog.stops == []) = true := by kernel_rfl
theorem drpE_k8 : (Rows.fnExactDropItemRow.knobs == []) = true := by kernel_rfl
theorem drpE_k9 : (Try.pinned.checked.prog.stopKnobs == []) = true := by kernel_rfl
theorem drpE_k10 : (Rows.fnExactDropItemRow.inPlace == Try.pinned.checked.prog.inPlace 9) = true := by kernel_rfl
theorem drpE_k11 : (Rows.fnExactDropItemRow.unfollowed == Try.pinned.checked.prog.unfollowed 9) = true := by kernel_rfl
theorem drpE_k12 : (Rows.fnExactDropItemRow.recurses == Try.pinned.checked.prog.recurses 9) = true := by kernel_rfl
theorem drpE_k13 : (Rows.fnExactDropItemRow.named == Try.pinned.checked.prog.varsNamed 9) = true := by kernel_rfl
theorem drpE_k14 : (Rows.fnExactDropItemRow.maps == (Try.f9.params.toList ++ Rows.fnExactDropItemSpec.plain.varTypes Try.pinned.checked.prog).any (Try.pinned.checked.prog.mapsRec ·)) = true := by kernel_rfl
theorem drpE_k15 : (Rows.fnExactDropItemRow.ifaces == (Try.f9.params.toList ++ Rows.fnExactDropItemSpec.plain.varTypes Try.pinned.checked.prog).any (Try.pinned.checked.prog.ifacesRec ·)) = true := by kernel_rfl
theorem drpE_k16 : (Rows.fnExactDropItemRow.mapsOut == Try.pinned.checked.prog.mapsAmong Try.f9.resultTypes.toList) = true := by kernel_rfl
theorem drpE_k17 : (Rows.fnExactDropItemRow.loops == (Try.f9.params.toList ++ Rows.fnExactDropItemSpec.plain.varTypes Try.pinned.checked.prog).any (Try.pinned.checked.prog.loopsFrom ·)) = true := by kernel_rfl
theorem drpE_k18 : (Rows.fnExactDropItemRow.wideKeys == (Try.f9.params.toList ++ Rows.fnExactDropItemSpec.plain.varTypes Try.pinned.checked.prog ++ Try.f9.resultTypes.toList).any (Try.pinned.checked.prog.wideKeysFrom ·)) = true := by kernel_rfl
theorem drpE_k19 : Rows.fnExactDropItemSpec.vars.all (Try.pinned.checked.prog.varReadable ·) = true := by kernel_rfl
theorem drpE_k20 : Try.f9.resultTypes.all (fun t => Try.pinned.checked.prog.readableRec t && decide (t < Try.pinned.checked.prog.types.size)) = true := by kernel_rfl
theorem drpE_k21 : (Rows.fnExactDropItemRow.ifacesOut == Try.f9.resultTypes.toList.any (Try.pinned.checked.prog.ifacesRec ·)) = true := by kernel_rfl
theorem drpE_k22 : (Rows.fnExactDropItemRow.loopsOut == Try.f9.resultTypes.toList.any (Try.pinned.checked.prog.loopsFrom ·)) = true := by kernel_rfl
theorem drpE_k23 : (Rows.fnExactDropItemRow.plainKeys == Try.pinned.checked.prog.plainKeys) = true := by kernel_rfl
theorem drpE_k24 : Rows.fnExactDropItemRow.shortTexts.isNone = true := by kernel_rfl
theorem drpE_k25 : Try.pinned.checked.prog.stopsHeard = true := by kernel_rfl
theorem drpE_k26 : Try.pinned.checked.prog.mayEnter = true := io_enter
theorem drpE_k27 : (Rows.fnExactDropItemRow.lifted == Try.pinned.checked.prog.liftsFinal) = true := by
  show (false == Try.prog.liftsFinal) = true
  rw [io_lifts]; rfl
theorem drpE_k28 : (Try.pinned.checked.prog.make == some Rows.fnExactDropItemRow.make) = true := by
  show (Try.prog.make == some Make.cut) = true
  rw [io_make]; rfl
theorem drpE_k29 : (Rows.fnExactDropItemRow.kinds == (if Rows.fnExactDropItemRow.domain.isEmpty then [] else Try.f9.params.toList.map fun t => match Try.pinned.checked.prog.underlying t with | some (.int k) => some k | _ => none)) = true := by kernel_rfl
theorem drpE_k30 : (Rows.fnExactDropItemRow.pinned == Rows.fnExactDropItemRow.pinnedBy) = true := by kernel_rfl
theorem drpE_k31 : (Rows.fnExactDropItemRow.veiled == (Try.f9.params.toList ++ Rows.fnExactDropItemSpec.plain.varTypes Try.pinned.checked.prog ++ Try.f9.resultTypes.toList).any (Try.pinned.checked.prog.veiledRec ·)) = true := by kernel_rfl
theorem drpE_k32 : Rows.fnExactDropItemRow.veiledFits Try.pinned.checked.prog Try.f9.params.toList (Try.f9.params.toList ++ Rows.fnExactDropItemSpec.plain.varTypes Try.pinned.checked.prog ++ Try.f9.resultTypes.toList) = true := by kernel_rfl
theorem drpE_facts : joinedFacts Try.pinned.checked.prog 9 Try.f9 Rows.fnExactDropItemSpec Rows.fnExactDropItemRow = true := joined_mk drpE_k1 drpE_k2 drpE_k3 drpE_k4 drpE_k5 drpE_k6 drpE_k7 drpE_k8 drpE_k9 drpE_k10 drpE_k11 drpE_k12 drpE_k13 drpE_k14 drpE_k15 drpE_k16 drpE_k17 drpE_k18 drpE_k19 drpE_k20 drpE_k21 drpE_k22 drpE_k23 drpE_k24 drpE_k25 drpE_k26 drpE_k27 drpE_k28 drpE_k29 drpE_k30 drpE_k31 drpE_k32
theorem drpE_inst : (Try.f9).isInstance Try.pinned.checked.prog Rows.fnExactDropItemRow.origin Rows.fnExactDropItemRow.targs := of_decide_eq_true (by kernel_rfl)
theorem drpE_wrap : (Try.f9).isWrapper Try.pinned.checked.prog Rows.fnExactDropItemRow.wrapper Rows.fnExactDropItemRow.mainSum := by unfold Func.isWrapper; first | (rw [if_pos (by decide +kernel)]; kernel_rfl) | (rw [if_neg (by decide +kernel)]; exact ⟨rfl, rfl⟩)
theorem drpE_holds : Rows.FnExactDropItemSaid :=
  OpenClaim.holds_of_wide 9 Try.f9 rfl rfl rfl rfl rfl rfl rfl ⟨rfl, rfl, rfl, rfl, rfl⟩ rfl rfl rfl rfl rfl drpE_named Try.func9 drpE_facts drpE_inst drpE_wrap
    (fun os started H enc _ => drpE_lifted os started H enc)
#print axioms drpE_holds
end Go.Proofs.Ytgfnmhfdmmnaoaa
