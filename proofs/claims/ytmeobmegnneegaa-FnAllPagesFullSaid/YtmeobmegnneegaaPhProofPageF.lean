/-
  FnAllPagesFull returns true whatever the bytes, and they read behind the call as they read before. No condition.
-/
import Derived.Test.YtmeobmegnneegaaPhJ

set_option linter.unusedSimpArgs false
set_option linter.unusedVariables false

namespace Go.Proofs.Ytmeobmegnneegaa
open Go.ChangeShapes Go.WideShapes Go.ChangeAt Go.RowKit

set_option maxRecDepth 100000 in
set_option maxHeartbeats 4000000 in
theorem pageF_lifted (os : Os) (started : os.Started) (H : Type) (enc : TypeId × Value → H) :
    ReturnsInHanded {} Try.checked os 9 .any (Rows.fnAllPagesFullSpec.pre6 enc Try.prog Try.f9 Rows.fnAllPagesFullRow.domain false) (Rows.fnAllPagesFullSpec.post enc Try.prog Try.f9 false true false false) := by
  refine returnsInHanded_of_change (C := Try.checked) Try.own started (by kernel_rfl) Try.func9
    (ChangeSpec.witness6 (enc := enc) (C := Try.checked) false ⟨#[], #[.slice none 0 0], []⟩ 12 (by kernel_rfl) (by kernel_rfl) (by kernel_rfl) (by kernel_rfl)) ?_
  intro W base args ds gs before hval0 hW hcnd _
  have hval : ∀ (j : Nat) t v, Try.f9.params[j]? = some t → args[j]? = some v → Value.okWide Try.prog W .any base t v := hval0
  have hW' := hW
  obtain ⟨p, q, hA0, hV, rfl, hfz, hnd⟩ := hW
  have hA : DataW.TrodAll enc Try.prog W 0 (fun _ => true) true Try.f9.params.toList args.toList ds p := hA0
  rw [Try.params9] at hA hval
  obtain ⟨v0, d0, rfl, rfl, h0⟩ := trodAll_one hA
  obtain ⟨rfl, rfl⟩ := trodVars_none hV
  obtain ⟨qa0, ql0, qc0, rfl⟩ := okWide_slice Try.underlying46 (hval 0 46 v0 rfl rfl)
  obtain ⟨fuel0, h0⟩ := h0
  obtain ⟨x0, hx0⟩ := rv_bytes h0
  refine (law_bytes (Eng.lawAllPagesFull_AC0 x0) W hx0).mono fun e W' ⟨he, hg⟩ => ?_
  subst he
  refine ⟨_, rfl, post_grow rfl ?_ (by kernel_rfl) rfl hW' hg⟩
  intro t ht
  rw [Try.params9] at ht
  simp at ht
  subst ht
  exact ⟨by kernel_rfl, of_decide_eq_true (by kernel_rfl)⟩

theorem pageF_named : Try.pinned.checked.prog.funcNamed Rows.fnAllPagesFullRow.func = some 9 := by kernel_rfl
theorem pageF_k1 : Rows.fnAllPagesFullRow.wf (OpenSpec.ofChange Rows.fnAllPagesFullSpec) = true := by kernel_rfl
theorem pageF_k2 : laidOutB Try.pinned.checked.prog = true := by kernel_rfl
theorem pageF_k3 : mapsRowed Try.pinned.checked.prog = true := by kernel_rfl
theorem pageF_k4 : Try.f9.params.all (Try.pinned.checked.prog.readableRec ·) = true := by kernel_rfl
theorem pageF_k5 : namedTie Try.pinned.checked.prog Rows.fnAllPagesFullRow.named Rows.fnAllPagesFullSpec.vars = true := by kernel_rfl
theorem pageF_k6 : (Rows.fnAllPagesFullRow.stops == []) = true := by kernel_rfl
theorem pageF_k7 : (Try.pinned.checked.prog.stops == []) = true := by kernel_rfl
theorem pageF_k8 : (Rows.fnAllPagesFullRow.knobs == []) = true := by kernel_rfl
theorem pageF_k9 : (Try.pinned.checked.prog.stopKnobs == []) = true := by kernel_rfl
theorem pageF_k10 : (Rows.fnAllPagesFullRow.inPlace == Try.pinned.checked.prog.inPlace 9) = true := by kernel_rfl
theorem pageF_k11 : (Rows.fnAllPagesFullRow.unfollowed == Try.pinned.checked.prog.unfollowed 9) = true := by kernel_rfl
theorem pageF_k12 : (Rows.fnAllPagesFullRow.recurses == Try.pinned.checked.prog.recurses 9) = true := by kernel_rfl
theorem pageF_k13 : (Rows.fnAllPagesFullRow.named == Try.pinned.checked.prog.varsNamed 9) = true := by kernel_rfl
theorem pageF_k14 : (Rows.fnAllPagesFullRow.maps == (Try.f9.params.toList ++ Rows.fnAllPagesFullSpec.plain.varTypes Try.pinned.checked.prog).any (Try.pinned.checked.prog.mapsRec ·)) = true := by kernel_rfl
theorem pageF_k15 : (Rows.fnAllPagesFullRow.ifaces == (Try.f9.params.toList ++ Rows.fnAllPagesFullSpec.plain.varTypes Try.pinned.checked.prog).any (Try.pinned.checked.prog.ifacesRec ·)) = true := by kernel_rfl
theorem pageF_k16 : (Rows.fnAllPagesFullRow.mapsOut == Try.pinned.checked.prog.mapsAmong Try.f9.resultTypes.toList) = true := by kernel_rfl
theorem pageF_k17 : (Rows.fnAllPagesFullRow.loops == (Try.f9.params.toList ++ Rows.fnAllPagesFullSpec.plain.varTypes Try.pinned.checked.prog).any (Try.pinned.checked.prog.loopsFrom ·)) = true := by kernel_rfl
theorem pageF_k18 : (Rows.fnAllPagesFullRow.wideKeys == (Try.f9.params.toList ++ Rows.fnAllPagesFullSpec.plain.varTypes Try.pinned.checked.prog ++ Try.f9.resultTypes.toList).any (Try.pinned.checked.prog.wideKeysFrom ·)) = true := by kernel_rfl
theorem pageF_k19 : Rows.fnAllPagesFullSpec.vars.all (Try.pinned.checked.prog.varReadable ·) = true := by kernel_rfl
theorem pageF_k20 : Try.f9.resultTypes.all (fun t => Try.pinned.checked.prog.readableRec t && decide (t < Try.pinned.checked.prog.types.size)) = true := by kernel_rfl
theorem pageF_k21 : (Rows.fnAllPagesFullRow.ifacesOut == Try.f9.resultTypes.toList.any (Try.pinned.checked.prog.ifacesRec ·)) = true := by kernel_rfl
theorem pageF_k22 : (Rows.fnAllPagesFullRow.loopsOut == Try.f9.resultTypes.toList.any (Try.pinned.checked.prog.loopsFrom ·)) = true := by kernel_rfl
theorem pageF_k23 : (Rows.fnAllPagesFullRow.plainKeys == Try.pinned.checked.prog.plainKeys) = true := by kernel_rfl
theorem pageF_k24 : Rows.fnAllPagesFullRow.shortTexts.isNone = true := by kernel_rfl
theorem pageF_k25 : Try.pinned.checked.prog.stopsHeard = true := by kernel_rfl
theorem pageF_k26 : Try.pinned.checked.prog.mayEnter = true := io_enter
theorem pageF_k27 : (Rows.fnAllPagesFullRow.lifted == Try.pinned.checked.prog.liftsFinal) = true := by
  show (false == Try.prog.liftsFinal) = true
  rw [io_lifts]; rfl
theorem pageF_k28 : (Try.pinned.checked.prog.make == some Rows.fnAllPagesFullRow.make) = true := by
  show (Try.prog.make == some Make.cut) = true
  rw [io_make]; rfl
theorem pageF_k29 : (Rows.fnAllPagesFullRow.kinds == (if Rows.fnAllPagesFullRow.domain.isEmpty then [] else Try.f9.params.toList.map fun t => match Try.pinned.checked.prog.underlying t with | some (.int k) => some k | _ => none)) = true := by kernel_rfl
theorem pageF_k30 : (Rows.fnAllPagesFullRow.pinned == Rows.fnAllPagesFullRow.pinnedBy) = true := by kernel_rfl
theorem pageF_k31 : (Rows.fnAllPagesFullRow.veiled == (Try.f9.params.toList ++ Rows.fnAllPagesFullSpec.plain.varTypes Try.pinned.checked.prog ++ Try.f9.resultTypes.toList).any (Try.pinned.checked.prog.veiledRec ·)) = true := by kernel_rfl
theorem pageF_k32 : Rows.fnAllPagesFullRow.veiledFits Try.pinned.checked.prog Try.f9.params.toList (Try.f9.params.toList ++ Rows.fnAllPagesFullSpec.plain.varTypes Try.pinned.checked.prog ++ Try.f9.resultTypes.toList) = true := by kernel_rfl
set_option maxRecDepth 100000 in
theorem pageF_facts : joinedFacts Try.pinned.checked.prog 9 Try.f9 Rows.fnAllPagesFullSpec Rows.fnAllPagesFullRow = true := joined_mk pageF_k1 pageF_k2 pageF_k3 pageF_k4 pageF_k5 pageF_k6 pageF_k7 pageF_k8 pageF_k9 pageF_k10 pageF_k11 pageF_k12 pageF_k13 pageF_k14 pageF_k15 pageF_k16 pageF_k17 pageF_k18 pageF_k19 pageF_k20 pageF_k21 pageF_k22 pageF_k23 pageF_k24 pageF_k25 pageF_k26 pageF_k27 pageF_k28 pageF_k29 pageF_k30 pageF_k31 pageF_k32
theorem pageF_inst : (Try.f9).isInstance Try.pinned.checked.prog Rows.fnAllPagesFullRow.origin Rows.fnAllPagesFullRow.targs := of_decide_eq_true (by kernel_rfl)
theorem pageF_wrap : (Try.f9).isWrapper Try.pinned.checked.prog Rows.fnAllPagesFullRow.wrapper Rows.fnAllPagesFullRow.mainSum := by unfold Func.isWrapper; first | (rw [if_pos (by decide +kernel)]; kernel_rfl) | (rw [if_neg (by decide +kernel)]; exact ⟨rfl, rfl⟩)
theorem pageF_holds : Rows.FnAllPagesFullSaid :=
  OpenClaim.holds_of_wide 9 Try.f9 rfl rfl rfl rfl rfl rfl rfl ⟨rfl, rfl, rfl, rfl, rfl⟩ rfl rfl rfl rfl rfl pageF_named Try.func9 pageF_facts pageF_inst pageF_wrap
    (fun os started H enc _ => pageF_lifted os started H enc)
#print axioms pageF_holds

end Go.Proofs.Ytmeobmegnneegaa
