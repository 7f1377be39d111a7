/-
  FnMergeNodeTwice returns true whatever the bytes, and they read behind the call as they read before. No condition.
-/
import Derived.Test.YtiobnaielfeeaaaPmJ

set_option linter.unusedSimpArgs false
set_option linter.unusedVariables false
set_option linter.unnecessarySimpa false
set_option maxRecDepth 100000
set_option maxHeartbeats 16000000
namespace Go.Proofs.Ytiobnaielfeeaaa
open Go.ChangeShapes Go.WideShapes Go.ChangeAt Go.RowKit
theorem mgT_lifted (os : Os) (started : os.Started) (H : Type) (enc : TypeId × Value → H) :
    ReturnsInHanded {} Try.checked os 11 .any (Rows.fnMergeNodeTwiceSpec.pre6 enc Try.prog Try.f11 Rows.fnMergeNodeTwiceRow.domain false) (Rows.fnMergeNodeTwiceSpec.post enc Try.prog Try.f11 false true false false) := by
  refine returnsInHanded_of_change (C := Try.checked) Try.own started (by kernel_rfl) Try.func11
    (ChangeSpec.witness6 (enc := enc) (C := Try.checked) false ⟨#[], #[.slice none 0 0], []⟩ 12 (by kernel_rfl) (by kernel_rfl) (by kernel_rfl) (by kernel_rfl)) ?_
  intro W base args ds gs before hval0 hW hcnd _
  have hval : ∀ (j : Nat) t v, Try.f11.params[j]? = some t → args[j]? = some v → Value.okWide Try.prog W .any base t v := hval0
  have hW' := hW
  obtain ⟨p, q, hA0, hV, rfl, hfz, hnd⟩ := hW
  have hA : DataW.TrodAll enc Try.prog W 0 (fun _ => true) true Try.f11.params.toList args.toList ds p := hA0
  rw [Try.params11] at hA hval
  obtain ⟨v0, d0, rfl, rfl, h0⟩ := trodAll_one hA
  obtain ⟨rfl, rfl⟩ := trodVars_none hV
  obtain ⟨qa0, ql0, qc0, rfl⟩ := okWide_slice Try.underlying22 (hval 0 22 v0 rfl rfl)
  obtain ⟨fuel0, h0⟩ := h0
  obtain ⟨x0, hx0⟩ := rv_bytes h0
  refine (law_bytes (Eng.lawMrgT_AC0 x0) W hx0).mono fun e W' ⟨he, hg⟩ => ?_
  subst he
  refine ⟨_, rfl, post_grow rfl ?_ (by kernel_rfl) rfl hW' hg⟩
  intro t ht
  rw [Try.params11] at ht
  simp at ht
  subst ht
  exact ⟨by kernel_rfl, of_decide_eq_true (by kernel_rfl)⟩
theorem mgT_named : Try.pinned.checked.prog.funcNamed Rows.fnMergeNodeTwiceRow.func = some 11 := by kernel_rfl
theorem mgT_k1 : Rows.fnMergeNodeTwiceRow.wf (OpenSpec.ofChange Rows.fnMergeNodeTwiceSpec) = true := by kernel_rfl
theorem mgT_k2 : laidOutB Try.pinned.checked.prog = true := by kernel_rfl
theorem mgT_k3 : mapsRowed Try.pinned.checked.prog = true := by kernel_rfl
theorem mgT_k4 : Try.f11.params.all (Try.pinned.checked.prog.readableRec ·) = true := by kernel_rfl
theorem mgT_k5 : namedTie Try.pinned.checked.prog Rows.fnMergeNodeTwiceRow.named Rows.fnMergeNodeTwiceSpec.vars = true := by kernel_rfl
theorem mgT_k6 : (Rows.fnMergeNodeTwiceRow.stops == []) = true := by kernel_rfl
theorem mgT_k7 : (Try.pinned.checked.prog.stops == []) = true := by kernel_rfl
theorem mgT_k8 : (Rows.fnMergeNodeTwiceRow.knobs == []) = true := by kernel_rfl
theorem mgT_k9 : (Try.pinned.checked.prog.stopKnobs == []) = true := by kernel_rfl
theorem mgT_k10 : (Rows.fnMergeNodeTwiceRow.inPlace == Try.pinned.checked.prog.inPlace 11) = true := by kernel_rfl
theorem mgT_k11 : (Rows.fnMergeNodeTwiceRow.unfollowed == Try.pinned.checked.prog.unfollowed 11) = true := by kernel_rfl
theorem mgT_k12 : (Rows.fnMergeNodeTwiceRow.recurses == Try.pinned.checked.prog.recurses 11) = true := by kernel_rfl
theorem mgT_k13 : (Rows.fnMergeNodeTwiceRow.named == Try.pinned.checked.prog.varsNamed 11) = true := by kernel_rfl
theorem mgT_k14 : (Rows.fnMergeNodeTwiceRow.maps == (Try.f11.params.toList ++ Rows.fnMergeNodeTwiceSpec.plain.varTypes Try.pinned.checked.prog).any (Try.pinned.checked.prog.mapsRec ·)) = true := by kernel_rfl
theorem mgT_k15 : (Rows.fnMergeNodeTwiceRow.ifaces == (Try.f11.params.toList ++ Rows.fnMergeNodeTwiceSpec.plain.varTypes Try.pinned.checked.prog).any (Try.pinned.checked.prog.ifacesRec ·)) = true := by kernel_rfl
theorem mgT_k16 : (Rows.fnMergeNodeTwiceRow.mapsOut == Try.pinned.checked.prog.mapsAmong Try.f11.resultTypes.toList) = true := by kernel_rfl
theorem mgT_k17 : (Rows.fnMergeNodeTwiceRow.loops == (Try.f11.params.toList ++ Rows.fnMergeNodeTwiceSpec.plain.varTypes Try.pinned.checked.prog).any (Try.pinned.checked.prog.loopsFrom ·)) = true := by kernel_rfl
theorem mgT_k18 : (Rows.fnMergeNodeTwiceRow.wideKeys == (Try.f11.params.toList ++ Rows.fnMergeNodeTwiceSpec.plain.varTypes Try.pinned.checked.prog ++ Try.f11.resultTypes.toList).any (Try.pinned.checked.prog.wideKeysFrom ·)) = true := by kernel_rfl
theorem mgT_k19 : Rows.fnMergeNodeTwiceSpec.vars.all (Try.pinned.checked.prog.varReadable ·) = true := by kernel_rfl
theorem mgT_k20 : Try.f11.resultTypes.all (fun t => Try.pinned.checked.prog.readableRec t && decide (t < Try.pinned.checked.prog.types.size)) = true := by kernel_rfl
theorem mgT_k21 : (Rows.fnMergeNodeTwiceRow.ifacesOut == Try.f11.resultTypes.toList.any (Try.pinned.checked.prog.ifacesRec ·)) = true := by kernel_rfl
theorem mgT_k22 : (Rows.fnMergeNodeTwiceRow.loopsOut == Try.f11.resultTypes.toList.any (Try.pinned.checked.prog.loopsFrom ·)) = true := by kernel_rfl
theorem mgT_k23 : (Rows.fnMergeNodeTwiceRow.plainKeys == Try.pinned.checked.prog.plainKeys) = true := by kernel_rfl
theorem mgT_k24 : Rows.fnMergeNodeTwiceRow.shortTexts.isNone = true := by kernel_rfl
theorem mgT_k25 : Try.pinned.checked.prog.stopsHeard = true := by kernel_rfl
theorem mgT_k26 : Try.pinned.checked.prog.mayEnter = true := io_enter
theorem mgT_k27 : (Rows.fnMergeNodeTwiceRow.lifted == Try.pinned.checked.prog.liftsFinal) = true := by
  show (false == Try.prog.liftsFinal) = true
  rw [io_lifts]; rfl
theorem mgT_k28 : (Try.pinned.checked.prog.make == some Rows.fnMergeNodeTwiceRow.make) = true := by
  show (Try.prog.make == some Make.cut) = true
  rw [io_make]; rfl
theorem mgT_k29 : (Rows.fnMergeNodeTwiceRow.kinds == (if Rows.fnMergeNodeTwiceRow.domain.isEmpty then [] else Try.f11.params.toList.map fun t => match Try.pinned.checked.prog.underlying t with | some (.int k) => some k | _ => none)) = true := by kernel_rfl
theorem mgT_k30 : (Rows.fnMergeNodeTwiceRow.pinned == Rows.fnMergeNodeTwiceRow.pinnedBy) = true := by kernel_rfl
theorem mgT_k31 : (Rows.fnMergeNodeTwiceRow.veiled == (Try.f11.params.toList ++ Rows.fnMergeNodeTwiceSpec.plain.varTypes Try.pinned.checked.prog ++ Try.f11.resultTypes.toList).any (Try.pinned.checked.prog.veiledRec ·)) = true := by kernel_rfl
theorem mgT_k32 : Rows.fnMergeNodeTwiceRow.veiledFits Try.pinned.checked.prog Try.f11.params.toList (Try.f11.params.toList ++ Rows.fnMergeNodeTwiceSpec.plain.varTypes Try.pinned.checked.prog ++ Try.f11.resultTypes.toList) = true := by kernel_rfl
theorem mgT_facts : joinedFacts Try.pinned.checked.prog 11 Try.f11 Rows.fnMergeNodeTwiceSpec Rows.fnMergeNodeTwiceRow = true := joined_mk mgT_k1 mgT_k2 mgT_k3 mgT_k4 mgT_k5 mgT_k6 mgT_k7 mgT_k8 mgT_k9 mgT_k10 mgT_k11 mgT_k12 mgT_k13 mgT_k14 mgT_k15 mgT_k16 mgT_k17 mgT_k18 mgT_k19 mgT_k20 mgT_k21 mgT_k22 mgT_k23 mgT_k24 mgT_k25 mgT_k26 mgT_k27 mgT_k28 mgT_k29 mgT_k30 mgT_k31 mgT_k32
theorem mgT_inst : (Try.f11).isInstance Try.pinned.checked.prog Rows.fnMergeNodeTwiceRow.origin Rows.fnMergeNodeTwiceRow.targs := of_decide_eq_true (by kernel_rfl)
theorem mgT_wrap : (Try.f11).isWrapper Try.pinned.checked.prog Rows.fnMergeNodeTwiceRow.wrapper Rows.fnMergeNodeTwiceRow.mainSum := by unfold Func.isWrapper; first | (rw [if_pos (by decide +kernel)]; kernel_rfl) | (rw [if_neg (by decide +kernel)]; exact ⟨rfl, rfl⟩)
theorem mgT_holds : Rows.FnMergeNodeTwiceSaid :=
  OpenClaim.holds_of_wide 11 Try.f11 rfl rfl rfl rfl rfl rfl rfl ⟨rfl, rfl, rfl, rfl, rfl⟩ rfl rfl rfl rfl rfl mgT_named Try.func11 mgT_facts mgT_inst mgT_wrap
    (fun os started H enc _ => mgT_lifted os started H enc)
#print axioms mgT_holds
end Go.Proofs.Ytiobnaielfeeaaa
