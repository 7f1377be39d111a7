/-
  FnAllPages returns true whatever the bytes, and they read behind the call as they read before. No condition.
-/
import Derived.Test.YtmeobmegnneegaaPhJ

set_option linter.unusedSimpArgs false
set_option linter.unusedVariables false

namespace Go.Proofs.Ytmeobmegnneegaa
open Go.ChangeShapes Go.WideShapes Go.ChangeAt Go.RowKit

set_option maxRecDepth 100000 in
set_option maxHeartbeats 4000000 in
theorem pageA_lifted (os : Os) (started : os.Started) (H : Type) (enc : TypeId × Value → H) :
    ReturnsInHanded {} Try.checked os 8 .any (Rows.fnAllPagesSpec.pre6 enc Try.prog Try.f8 Rows.fnAllPagesRow.domain false) (Rows.fnAllPagesSpec.post enc Try.prog Try.f8 false true false false) := by
  refine returnsInHanded_of_change (C := Try.checked) Try.own started (by kernel_rfl) Try.func8
    (ChangeSpec.witness6 (enc := enc) (C := Try.checked) false ⟨#[], #[.slice none 0 0], []⟩ 12 (by kernel_rfl) (by kernel_rfl) (by kernel_rfl) (by kernel_rfl)) ?_
  intro W base args ds gs before hval0 hW hcnd _
  have hval : ∀ (j : Nat) t v, Try.f8.params[j]? = some t → args[j]? = some v → Value.okWide Try.prog W .any base t v := hval0
  have hW' := hW
  obtain ⟨p, q, hA0, hV, rfl, hfz, hnd⟩ := hW
  have hA : DataW.TrodAll enc Try.prog W 0 (fun _ => true) true Try.f8.params.toList args.toList ds p := hA0
  rw [Try.params8] at hA hval
  obtain ⟨v0, d0, rfl, rfl, h0⟩ := trodAll_one hA
  obtain ⟨rfl, rfl⟩ := trodVars_none hV
  obtain ⟨qa0, ql0, qc0, rfl⟩ := okWide_slice Try.underlying46 (hval 0 46 v0 rfl rfl)
  obtain ⟨fuel0, h0⟩ := h0
  obtain ⟨x0, hx0⟩ := rv_bytes h0
  refine (law_bytes (Eng.lawAllPages_AC0 x0) W hx0).mono fun e W' ⟨he, hg⟩ => ?_
  subst he
  refine ⟨_, rfl, post_grow rfl ?_ (by kernel_rfl) rfl hW' hg⟩
  intro t ht
  rw [Try.params8] at ht
  simp at ht
  subst ht
  exact ⟨by kernel_rfl, of_decide_eq_true (by kernel_rfl)⟩

theorem pageA_named : Try.pinned.checked.prog.funcNamed Rows.fnAllPagesRow.func = some 8 := by kernel_rfl
theorem pageA_k1 : Rows.fnAllPagesRow.wf (OpenSpec.ofChange Rows.fnAllPagesSpec) = true := by kernel_rfl
theorem pageA_k2 : laidOutB Try.pinned.checked.prog = true := by kernel_rfl
theorem pageA_k3 : mapsRowed Try.pinned.checked.prog = true := by kernel_rfl
theorem pageA_k4 : Try.f8.params.all (Try.pinned.checked.prog.readableRec ·) = true := by kernel_rfl
theorem pageA_k5 : namedTie Try.pinned.checked.prog Rows.fnAllPagesRow.named Rows.fnAllPagesSpec.vars = true := by kernel_rfl
theorem pageA_k6 : (Rows.fnAllPagesRow.stops == []) = true := by kernel_rfl
theorem pageA_k7 : (Try.pinned.checked.prog.stops == []) = true := by kernel_rfl
theorem pageA_k8 : (Rows.fnAllPagesRow.knobs == []) = true := by kernel_rfl
theorem pageA_k9 : (Try.pinned.checked.prog.stopKnobs == []) = true := by kernel_rfl
theorem pageA_k10 : (Rows.fnAllPagesRow.inPlace == Try.pinned.checked.prog.inPlace 8) = true := by kernel_rfl
theorem pageA_k11 : (Rows.fnAllPagesRow.unfollowed == Try.pinned.checked.prog.unfollowed 8) = true := by kernel_rfl
theorem pageA_k12 : (Rows.fnAllPagesRow.recurses == Try.pinned.checked.prog.recurses 8) = true := by kernel_rfl
theorem pageA_k13 : (Rows.fnAllPagesRow.named == Try.pinned.checked.prog.varsNamed 8) = true := by kernel_rfl
theorem pageA_k14 : (Rows.fnAllPagesRow.maps == (Try.f8.params.toList ++ Rows.fnAllPagesSpec.plain.varTypes Try.pinned.checked.prog).any (Try.pinned.checked.prog.mapsRec ·)) = true := by kernel_rfl
theorem pageA_k15 : (Rows.fnAllPagesRow.ifaces == (Try.f8.params.toList ++ Rows.fnAllPagesSpec.plain.varTypes Try.pinned.checked.prog).any (Try.pinned.checked.prog.ifacesRec ·)) = true := by kernel_rfl
theorem pageA_k16 : (Rows.fnAllPagesRow.mapsOut == Try.pinned.checked.prog.mapsAmong Try.f8.resultTypes.toList) = true := by kernel_rfl
theorem pageA_k17 : (Rows.fnAllPagesRow.loops == (Try.f8.params.toList ++ Rows.fnAllPagesSpec.plain.varTypes Try.pinned.checked.prog).any (Try.pinned.checked.prog.loopsFrom ·)) = true := by kernel_rfl
theorem pageA_k18 : (Rows.fnAllPagesRow.wideKeys == (Try.f8.params.toList ++ Rows.fnAllPagesSpec.plain.varTypes Try.pinned.checked.prog ++ Try.f8.resultTypes.toList).any (Try.pinned.checked.prog.wideKeysFrom ·)) = true := by kernel_rfl
theorem pageA_k19 : Rows.fnAllPagesSpec.vars.all (Try.pinned.checked.prog.varReadable ·) = true := by kernel_rfl
theorem pageA_k20 : Try.f8.resultTypes.all (fun t => Try.pinned.checked.prog.readableRec t && decide (t < Try.pinned.checked.prog.types.size)) = true := by kernel_rfl
theorem pageA_k21 : (Rows.fnAllPagesRow.ifacesOut == Try.f8.resultTypes.toList.any (Try.pinned.checked.prog.ifacesRec ·)) = true := by kernel_rfl
theorem pageA_k22 : (Rows.fnAllPagesRow.loopsOut == Try.f8.resultTypes.toList.any (Try.pinned.checked.prog.loopsFrom ·)) = true := by kernel_rfl
theorem pageA_k23 : (Rows.fnAllPagesRow.plainKeys == Try.pinned.checked.prog.plainKeys) = true := by kernel_rfl
theorem pageA_k24 : Rows.fnAllPagesRow.shortTexts.isNone = true := by kernel_rfl
theorem pageA_k25 : Try.pinned.checked.prog.stopsHeard = true := by kernel_rfl
theorem pageA_k26 : Try.pinned.checked.prog.mayEnter = true := io_enter
theorem pageA_k27 : (Rows.fnAllPagesRow.lifted == Try.pinned.checked.prog.liftsFinal) = true := by
  show (false == Try.prog.liftsFinal) = true
  rw [io_lifts]; rfl
theorem pageA_k28 : (Try.pinned.checked.prog.make == some Rows.fnAllPagesRow.make) = true := by
  show (Try.prog.make == some Make.cut) = true
  rw [io_make]; rfl
theorem pageA_k29 : (Rows.fnAllPagesRow.kinds == (if Rows.fnAllPagesRow.domain.isEmpty then [] else Try.f8.params.toList.map fun t => match Try.pinned.checked.prog.underlying t with | some (.int k) => some k | _ => none)) = true := by kernel_rfl
theorem pageA_k30 : (Rows.fnAllPagesRow.pinned == Rows.fnAllPagesRow.pinnedBy) = true := by kernel_rfl
theorem pageA_k31 : (Rows.fnAllPagesRow.veiled == (Try.f8.params.toList ++ Rows.fnAllPagesSpec.plain.varTypes Try.pinned.checked.prog ++ Try.f8.resultTypes.toList).any (Try.pinned.checked.prog.veiledRec ·)) = true := by kernel_rfl
theorem pageA_k32 : Rows.fnAllPagesRow.veiledFits Try.pinned.checked.prog Try.f8.params.toList (Try.f8.params.toList ++ Rows.fnAllPagesSpec.plain.varTypes Try.pinned.checked.prog ++ Try.f8.resultTypes.toList) = true := by kernel_rfl
set_option maxRecDepth 100000 in
theorem pageA_facts : joinedFacts Try.pinned.checked.prog 8 Try.f8 Rows.fnAllPagesSpec Rows.fnAllPagesRow = true := joined_mk pageA_k1 pageA_k2 pageA_k3 pageA_k4 pageA_k5 pageA_k6 pageA_k7 pageA_k8 pageA_k9 pageA_k10 pageA_k11 pageA_k12 pageA_k13 pageA_k14 pageA_k15 pageA_k16 pageA_k17 pageA_k18 pageA_k19 pageA_k20 pageA_k21 pageA_k22 pageA_k23 pageA_k24 pageA_k25 pageA_k26 pageA_k27 pageA_k28 pageA_k29 pageA_k30 pageA_k31 pageA_k32
theorem pageA_inst : (Try.f8).isInstance Try.pinned.checked.prog Rows.fnAllPagesRow.origin Rows.fnAllPagesRow.targs := of_decide_eq_true (by kernel_rfl)
theorem pageA_wrap : (Try.f8).isWrapper Try.pinned.checked.prog Rows.fnAllPagesRow.wrapper Rows.fnAllPagesRow.mainSum := by unfold Func.isWrapper; first | (rw [if_pos (by decide +kernel)]; kernel_rfl) | (rw [if_neg (by decide +kernel)]; exact ⟨rfl, rfl⟩)
theorem pageA_holds : Rows.FnAllPagesSaid :=
  OpenClaim.holds_of_wide 8 Try.f8 rfl rfl rfl rfl rfl rfl rfl ⟨rfl, rfl, rfl, rfl, rfl⟩ rfl rfl rfl rfl rfl pageA_named Try.func8 pageA_facts pageA_inst pageA_wrap
    (fun os started H enc _ => pageA_lifted os started H enc)
#print axioms pageA_holds

end Go.Proofs.Ytmeobmegnneegaa
