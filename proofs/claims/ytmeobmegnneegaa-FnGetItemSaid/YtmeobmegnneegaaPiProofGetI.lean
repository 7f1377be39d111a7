/-
  FnGetItem returns true whatever the bytes, and they read behind the call as they read before. No condition.
-/
import Derived.Test.YtmeobmegnneegaaPiI

set_option linter.unusedSimpArgs false
set_option linter.unusedVariables false

namespace Go.Proofs.Ytmeobmegnneegaa
open Go.ChangeShapes Go.WideShapes Go.ChangeAt Go.RowKit

set_option maxRecDepth 100000 in
set_option maxHeartbeats 4000000 in
theorem getI_lifted (os : Os) (started : os.Started) (H : Type) (enc : TypeId × Value → H) :
    ReturnsInHanded {} Try.checked os 11 .any (Rows.fnGetItemSpec.pre6 enc Try.prog Try.f11 Rows.fnGetItemRow.domain false) (Rows.fnGetItemSpec.post enc Try.prog Try.f11 false true false false) := by
  refine returnsInHanded_of_change (C := Try.checked) Try.own started (by kernel_rfl) Try.func11
    (ChangeSpec.witness6 (enc := enc) (C := Try.checked) false ⟨#[], #[.slice none 0 0], []⟩ 12 (by kernel_rfl) (by kernel_rfl) (by kernel_rfl) (by kernel_rfl)) ?_
  intro W base args ds gs before hval0 hW hcnd _
  have hval : ∀ (j : Nat) t v, Try.f11.params[j]? = some t → args[j]? = some v → Value.okWide Try.prog W .any base t v := hval0
  have hW' := hW
  obtain ⟨p, q, hA0, hV, rfl, hfz, hnd⟩ := hW
  have hA : DataW.TrodAll enc Try.prog W 0 (fun _ => true) true Try.f11.params.toList args.toList ds p := hA0
  rw [Try.params11] at hA hval
  obtain ⟨v0, d0, rfl, rfl, h0⟩ := trodAll_one hA
  obtain ⟨rfl, rfl⟩ := trodVars_none hV
  obtain ⟨qa0, ql0, qc0, rfl⟩ := okWide_slice Try.underlying46 (hval 0 46 v0 rfl rfl)
  obtain ⟨fuel0, h0⟩ := h0
  obtain ⟨x0, hx0⟩ := rv_bytes h0
  refine (law_bytes (Eng.lawGetItem_AC0 x0) W hx0).mono fun e W' ⟨he, hg⟩ => ?_
  subst he
  refine ⟨_, rfl, post_grow rfl ?_ (by kernel_rfl) rfl hW' hg⟩
  intro t ht
  rw [Try.params11] at ht
  simp at ht
  subst ht
  exact ⟨by kernel_rfl, of_decide_eq_true (by kernel_rfl)⟩

theorem getI_named : Try.pinned.checked.prog.funcNamed Rows.fnGetItemRow.func = some 11 := by kernel_rfl
theorem getI_k1 : Rows.fnGetItemRow.wf (OpenSpec.ofChange Rows.fnGetItemSpec) = true := by kernel_rfl
theorem getI_k2 : laidOutB Try.pinned.checked.prog = true := by kernel_rfl
theorem getI_k3 : mapsRowed Try.pinned.checked.prog = true := by kernel_rfl
theorem getI_k4 : Try.f11.params.all (Try.pinned.checked.prog.readableRec ·) = true := by kernel_rfl
theorem getI_k5 : namedTie Try.pinned.checked.prog Rows.fnGetItemRow.named Rows.fnGetItemSpec.vars = true := by kernel_rfl
theorem getI_k6 : (Rows.fnGetItemRow.stops == []) = true := by kernel_rfl
theorem getI_k7 : (Try.pinned.checked.prog.stops == []) = true := by kernel_rfl
theorem getI_k8 : (Rows.fnGetItemRow.knobs == []) = true := by kernel_rfl
theorem getI_k9 : (Try.pinned.checked.prog.stopKnobs == []) = true := by kernel_rfl
theorem getI_k10 : (Rows.fnGetItemRow.inPlace == Try.pinned.checked.prog.inPlace 11) = true := by kernel_rfl
theorem getI_k11 : (Rows.fnGetItemRow.unfollowed == Try.pinned.checked.prog.unfollowed 11) = true := by kernel_rfl
theorem getI_k12 : (Rows.fnGetItemRow.recurses == Try.pinned.checked.prog.recurses 11) = true := by kernel_rfl
theorem getI_k13 : (Rows.fnGetItemRow.named == Try.pinned.checked.prog.varsNamed 11) = true := by kernel_rfl
theorem getI_k14 : (Rows.fnGetItemRow.maps == (Try.f11.params.toList ++ Rows.fnGetItemSpec.plain.varTypes Try.pinned.checked.prog).any (Try.pinned.checked.prog.mapsRec ·)) = true := by kernel_rfl
theorem getI_k15 : (Rows.fnGetItemRow.ifaces == (Try.f11.params.toList ++ Rows.fnGetItemSpec.plain.varTypes Try.pinned.checked.prog).any (Try.pinned.checked.prog.ifacesRec ·)) = true := by kernel_rfl
theorem getI_k16 : (Rows.fnGetItemRow.mapsOut == Try.pinned.checked.prog.mapsAmong Try.f11.resultTypes.toList) = true := by kernel_rfl
theorem getI_k17 : (Rows.fnGetItemRow.loops == (Try.f11.params.toList ++ Rows.fnGetItemSpec.plain.varTypes Try.pinned.checked.prog).any (Try.pinned.checked.prog.loopsFrom ·)) = true := by kernel_rfl
theorem getI_k18 : (Rows.fnGetItemRow.wideKeys == (Try.f11.params.toList ++ Rows.fnGetItemSpec.plain.varTypes Try.pinned.checked.prog ++ Try.f11.resultTypes.toList).any (Try.pinned.checked.prog.wideKeysFrom ·)) = true := by kernel_rfl
theorem getI_k19 : Rows.fnGetItemSpec.vars.all (Try.pinned.checked.prog.varReadable ·) = true := by kernel_rfl
theorem getI_k20 : Try.f11.resultTypes.all (fun t => Try.pinned.checked.prog.readableRec t && decide (t < Try.pinned.checked.prog.types.size)) = true := by kernel_rfl
theorem getI_k21 : (Rows.fnGetItemRow.ifacesOut == Try.f11.resultTypes.toList.any (Try.pinned.checked.prog.ifacesRec ·)) = true := by kernel_rfl
theorem getI_k22 : (Rows.fnGetItemRow.loopsOut == Try.f11.resultTypes.toList.any (Try.pinned.checked.prog.loopsFrom ·)) = true := by kernel_rfl
theorem getI_k23 : (Rows.fnGetItemRow.plainKeys == Try.pinned.checked.prog.plainKeys) = true := by kernel_rfl
theorem getI_k24 : Rows.fnGetItemRow.shortTexts.isNone = true := by kernel_rfl
theorem getI_k25 : Try.pinned.checked.prog.stopsHeard = true := by kernel_rfl
theorem getI_k26 : Try.pinned.checked.prog.mayEnter = true := io_enter
theorem getI_k27 : (Rows.fnGetItemRow.lifted == Try.pinned.checked.prog.liftsFinal) = true := by
  show (false == Try.prog.liftsFinal) = true
  rw [io_lifts]; rfl
theorem getI_k28 : (Try.pinned.checked.prog.make == some Rows.fnGetItemRow.make) = true := by
  show (Try.prog.make == some Make.cut) = true
  rw [io_make]; rfl
theorem getI_k29 : (Rows.fnGetItemRow.kinds == (if Rows.fnGetItemRow.domain.isEmpty then [] else Try.f11.params.toList.map fun t => match Try.pinned.checked.prog.underlying t with | some (.int k) => some k | _ => none)) = true := by kernel_rfl
theorem getI_k30 : (Rows.fnGetItemRow.pinned == Rows.fnGetItemRow.pinnedBy) = true := by kernel_rfl
theorem getI_k31 : (Rows.fnGetItemRow.veiled == (Try.f11.params.toList ++ Rows.fnGetItemSpec.plain.varTypes Try.pinned.checked.prog ++ Try.f11.resultTypes.toList).any (Try.pinned.checked.prog.veiledRec ·)) = true := by kernel_rfl
theorem getI_k32 : Rows.fnGetItemRow.veiledFits Try.pinned.checked.prog Try.f11.params.toList (Try.f11.params.toList ++ Rows.fnGetItemSpec.plain.varTypes Try.pinned.checked.prog ++ Try.f11.resultTypes.toList) = true := by kernel_rfl
set_option maxRecDepth 100000 in
theorem getI_facts : joinedFacts Try.pinned.checked.prog 11 Try.f11 Rows.fnGetItemSpec Rows.fnGetItemRow = true := joined_mk getI_k1 getI_k2 getI_k3 getI_k4 getI_k5 getI_k6 getI_k7 getI_k8 getI_k9 getI_k10 getI_k11 getI_k12 getI_k13 getI_k14 getI_k15 getI_k16 getI_k17 getI_k18 getI_k19 getI_k20 getI_k21 getI_k22 getI_k23 getI_k24 getI_k25 getI_k26 getI_k27 getI_k28 getI_k29 getI_k30 getI_k31 getI_k32
theorem getI_inst : (Try.f11).isInstance Try.pinned.checked.prog Rows.fnGetItemRow.origin Rows.fnGetItemRow.targs := of_decide_eq_true (by kernel_rfl)
theorem getI_wrap : (Try.f11).isWrapper Try.pinned.checked.prog Rows.fnGetItemRow.wrapper Rows.fnGetItemRow.mainSum := by unfold Func.isWrapper; first | (rw [if_pos (by decide +kernel)]; kernel_rfl) | (rw [if_neg (by decide +kernel)]; exact ⟨rfl, rfl⟩)
theorem getI_holds : Rows.FnGetItemSaid :=
  OpenClaim.holds_of_wide 11 Try.f11 rfl rfl rfl rfl rfl rfl rfl ⟨rfl, rfl, rfl, rfl, rfl⟩ rfl rfl rfl rfl rfl getI_named Try.func11 getI_facts getI_inst getI_wrap
    (fun os started H enc _ => getI_lifted os started H enc)
#print axioms getI_holds

end Go.Proofs.Ytmeobmegnneegaa
