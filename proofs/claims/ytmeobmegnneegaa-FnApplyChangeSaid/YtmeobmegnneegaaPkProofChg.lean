/-
  FnApplyChange returns true whatever the bytes, and they read behind the call as they read before. No condition.
-/
import Derived.Test.YtmeobmegnneegaaPkI

set_option linter.unusedSimpArgs false
set_option linter.unusedVariables false
set_option maxRecDepth 100000
set_option maxHeartbeats 16000000
namespace Go.Proofs.Ytmeobmegnneegaa
open Go.ChangeShapes Go.WideShapes Go.ChangeAt Go.RowKit
theorem apCh_lifted (os : Os) (started : os.Started) (H : Type) (enc : TypeId × Value → H) :
    ReturnsInHanded {} Try.checked os 12 .any (Rows.fnApplyChangeSpec.pre6 enc Try.prog Try.f12 Rows.fnApplyChangeRow.domain false) (Rows.fnApplyChangeSpec.post enc Try.prog Try.f12 false true false false) := by
  refine returnsInHanded_of_change (C := Try.checked) Try.own started (by kernel_rfl) Try.func12
    (ChangeSpec.witness6 (enc := enc) (C := Try.checked) false ⟨#[], #[.slice none 0 0], []⟩ 12 (by kernel_rfl) (by kernel_rfl) (by kernel_rfl) (by kernel_rfl)) ?_
  intro W base args ds gs before hval0 hW hcnd _
  have hval : ∀ (j : Nat) t v, Try.f12.params[j]? = some t → args[j]? = some v → Value.okWide Try.prog W .any base t v := hval0
  have hW' := hW
  obtain ⟨p, q, hA0, hV, rfl, hfz, hnd⟩ := hW
  have hA : DataW.TrodAll enc Try.prog W 0 (fun _ => true) true Try.f12.params.toList args.toList ds p := hA0
  rw [Try.params12] at hA hval
  obtain ⟨v0, d0, rfl, rfl, h0⟩ := trodAll_one hA
  obtain ⟨rfl, rfl⟩ := trodVars_none hV
  obtain ⟨qa0, ql0, qc0, rfl⟩ := okWide_slice Try.underlying46 (hval 0 46 v0 rfl rfl)
  obtain ⟨fuel0, h0⟩ := h0
  obtain ⟨x0, hx0⟩ := rv_bytes h0
  refine (law_bytes (Eng.lawApplyChange_AC0 x0) W hx0).mono fun e W' ⟨he, hg⟩ => ?_
  subst he
  refine ⟨_, rfl, post_grow rfl ?_ (by kernel_rfl) rfl hW' hg⟩
  intro t ht
  rw [Try.params12] at ht
  simp at ht
  subst ht
  exact ⟨by kernel_rfl, of_decide_eq_true (by kernel_rfl)⟩
theorem apCh_named : Try.pinned.checked.prog.funcNamed Rows.fnApplyChangeRow.func = some 12 := by kernel_rfl
theorem apCh_k1 : Rows.fnApplyChangeRow.wf (OpenSpec.ofChange Rows.fnApplyChangeSpec) = true := by kernel_rfl
theorem apCh_k2 : laidOutB Try.pinned.checked.prog = true := by kernel_rfl
theorem apCh_k3 : mapsRowed Try.pinned.checked.prog = true := by kernel_rfl
theorem apCh_k4 : Try.f12.params.all (Try.pinned.checked.prog.readableRec ·) = true := by kernel_rfl
theorem apCh_k5 : namedTie Try.pinned.checked.prog Rows.fnApplyChangeRow.named Rows.fnApplyChangeSpec.vars = true := by kernel_rfl
theorem apCh_k6 : (Rows.fnApplyChangeRow.stops == []) = true := by kernel_rfl
theorem apCh_k7 : (Try.pinned.checked.prog.stops == []) = true := by kernel_rfl
theorem apCh_k8 : (Rows.fnApplyChangeRow.knobs == []) = true := by kernel_rfl
theorem apCh_k9 : (Try.pinned.checked.prog.stopKnobs == []) = true := by kernel_rfl
theorem apCh_k10 : (Rows.fnApplyChangeRow.inPlace == Try.pinned.checked.prog.inPlace 12) = true := by kernel_rfl
theorem apCh_k11 : (Rows.fnApplyChangeRow.unfollowed == Try.pinned.checked.prog.unfollowed 12) = true := by kernel_rfl
theorem apCh_k12 : (Rows.fnApplyChangeRow.recurses == Try.pinned.checked.prog.recurses 12) = true := by kernel_rfl
theorem apCh_k13 : (Rows.fnApplyChangeRow.named == Try.pinned.checked.prog.varsNamed 12) = true := by kernel_rfl
theorem apCh_k14 : (Rows.fnApplyChangeRow.maps == (Try.f12.params.toList ++ Rows.fnApplyChangeSpec.plain.varTypes Try.pinned.checked.prog).any (Try.pinned.checked.prog.mapsRec ·)) = true := by kernel_rfl
theorem apCh_k15 : (Rows.fnApplyChangeRow.ifaces == (Try.f12.params.toList ++ Rows.fnApplyChangeSpec.plain.varTypes Try.pinned.checked.prog).any (Try.pinned.checked.prog.ifacesRec ·)) = true := by kernel_rfl
theorem apCh_k16 : (Rows.fnApplyChangeRow.mapsOut == Try.pinned.checked.prog.mapsAmong Try.f12.resultTypes.toList) = true := by kernel_rfl
theorem apCh_k17 : (Rows.fnApplyChangeRow.loops == (Try.f12.params.toList ++ Rows.fnApplyChangeSpec.plain.varTypes Try.pinned.checked.prog).any (Try.pinned.checked.prog.loopsFrom ·)) = true := by kernel_rfl
theorem apCh_k18 : (Rows.fnApplyChangeRow.wideKeys == (Try.f12.params.toList ++ Rows.fnApplyChangeSpec.plain.varTypes Try.pinned.checked.prog ++ Try.f12.resultTypes.toList).any (Try.pinned.checked.prog.wideKeysFrom ·)) = true := by kernel_rfl
theorem apCh_k19 : Rows.fnApplyChangeSpec.vars.all (Try.pinned.checked.prog.varReadable ·) = true := by kernel_rfl
theorem apCh_k20 : Try.f12.resultTypes.all (fun t => Try.pinned.checked.prog.readableRec t && decide (t < Try.pinned.checked.prog.types.size)) = true := by kernel_rfl
theorem apCh_k21 : (Rows.fnApplyChangeRow.ifacesOut == Try.f12.resultTypes.toList.any (Try.pinned.checked.prog.ifacesRec ·)) = true := by kernel_rfl
theorem apCh_k22 : (Rows.fnApplyChangeRow.loopsOut == Try.f12.resultTypes.toList.any (Try.pinned.checked.prog.loopsFrom ·)) = true := by kernel_rfl
theorem apCh_k23 : (Rows.fnApplyChangeRow.plainKeys == Try.pinned.checked.prog.plainKeys) = true := by kernel_rfl
theorem apCh_k24 : Rows.fnApplyChangeRow.shortTexts.isNone = true := by kernel_rfl
theorem apCh_k25 : Try.pinned.checked.prog.stopsHeard = true := by kernel_rfl
theorem apCh_k26 : Try.pinned.checked.prog.mayEnter = true := io_enter
theorem apCh_k27 : (Rows.fnApplyChangeRow.lifted == Try.pinned.checked.prog.liftsFinal) = true := by
  show (false == Try.prog.liftsFinal) = true
  rw [io_lifts]; rfl
theorem apCh_k28 : (Try.pinned.checked.prog.make == some Rows.fnApplyChangeRow.make) = true := by
  show (Try.prog.make == some Make.cut) = true
  rw [io_make]; rfl
theorem apCh_k29 : (Rows.fnApplyChangeRow.kinds == (if Rows.fnApplyChangeRow.domain.isEmpty then [] else Try.f12.params.toList.map fun t => match Try.pinned.checked.prog.underlying t with | some (.int k) => some k | _ => none)) = true := by kernel_rfl
theorem apCh_k30 : (Rows.fnApplyChangeRow.pinned == Rows.fnApplyChangeRow.pinnedBy) = true := by kernel_rfl
theorem apCh_k31 : (Rows.fnApplyChangeRow.veiled == (Try.f12.params.toList ++ Rows.fnApplyChangeSpec.plain.varTypes Try.pinned.checked.prog ++ Try.f12.resultTypes.toList).any (Try.pinned.checked.prog.veiledRec ·)) = true := by kernel_rfl
theorem apCh_k32 : Rows.fnApplyChangeRow.veiledFits Try.pinned.checked.prog Try.f12.params.toList (Try.f12.params.toList ++ Rows.fnApplyChangeSpec.plain.varTypes Try.pinned.checked.prog ++ Try.f12.resultTypes.toList) = true := by kernel_rfl
theorem apCh_facts : joinedFacts Try.pinned.checked.prog 12 Try.f12 Rows.fnApplyChangeSpec Rows.fnApplyChangeRow = true := joined_mk apCh_k1 apCh_k2 apCh_k3 apCh_k4 apCh_k5 apCh_k6 apCh_k7 apCh_k8 apCh_k9 apCh_k10 apCh_k11 apCh_k12 apCh_k13 apCh_k14 apCh_k15 apCh_k16 apCh_k17 apCh_k18 apCh_k19 apCh_k20 apCh_k21 apCh_k22 apCh_k23 apCh_k24 apCh_k25 apCh_k26 apCh_k27 apCh_k28 apCh_k29 apCh_k30 apCh_k31 apCh_k32
theorem apCh_inst : (Try.f12).isInstance Try.pinned.checked.prog Rows.fnApplyChangeRow.origin Rows.fnApplyChangeRow.targs := of_decide_eq_true (by kernel_rfl)
theorem apCh_wrap : (Try.f12).isWrapper Try.pinned.checked.prog Rows.fnApplyChangeRow.wrapper Rows.fnApplyChangeRow.mainSum := by unfold Func.isWrapper; first | (rw [if_pos (by decide +kernel)]; kernel_rfl) | (rw [if_neg (by decide +kernel)]; exact ⟨rfl, rfl⟩)
theorem apCh_holds : Rows.FnApplyChangeSaid :=
  OpenClaim.holds_of_wide 12 Try.f12 rfl rfl rfl rfl rfl rfl rfl ⟨rfl, rfl, rfl, rfl, rfl⟩ rfl rfl rfl rfl rfl apCh_named Try.func12 apCh_facts apCh_inst apCh_wrap
    (fun os started H enc _ => apCh_lifted os started H enc)
#print axioms apCh_holds
end Go.Proofs.Ytmeobmegnneegaa
