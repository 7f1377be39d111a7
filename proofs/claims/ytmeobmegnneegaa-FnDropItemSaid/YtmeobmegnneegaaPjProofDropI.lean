/-
  FnDropItem returns true whatever the bytes, and they read behind the call as they read before. No condition.
-/
import Derived.Test.YtmeobmegnneegaaPjJ

set_option linter.unusedSimpArgs false
set_option linter.unusedVariables false
namespace Go.Proofs.Ytmeobmegnneegaa
open Go.ChangeShapes Go.WideShapes Go.ChangeAt Go.RowKit
set_option maxRecDepth 100000 in
set_option maxHeartbeats 4000000 in
theorem dropIt_lifted (os : Os) (started : os.Started) (H : Type) (enc : TypeId × Value → H) :
    ReturnsInHanded {} Try.checked os 15 .any (Rows.fnDropItemSpec.pre6 enc Try.prog Try.f15 Rows.fnDropItemRow.domain false) (Rows.fnDropItemSpec.post enc Try.prog Try.f15 false true false false) := by
  refine returnsInHanded_of_change (C := Try.checked) Try.own started (by kernel_rfl) Try.func15
    (ChangeSpec.witness6 (enc := enc) (C := Try.checked) false ⟨#[], #[.slice none 0 0], []⟩ 12 (by kernel_rfl) (by kernel_rfl) (by kernel_rfl) (by kernel_rfl)) ?_
  intro W base args ds gs before hval0 hW hcnd _
  have hval : ∀ (j : Nat) t v, Try.f15.params[j]? = some t → args[j]? = some v → Value.okWide Try.prog W .any base t v := hval0
  have hW' := hW
  obtain ⟨p, q, hA0, hV, rfl, hfz, hnd⟩ := hW
  have hA : DataW.TrodAll enc Try.prog W 0 (fun _ => true) true Try.f15.params.toList args.toList ds p := hA0
  rw [Try.params15] at hA hval
  obtain ⟨v0, d0, rfl, rfl, h0⟩ := trodAll_one hA
  obtain ⟨rfl, rfl⟩ := trodVars_none hV
  obtain ⟨qa0, ql0, qc0, rfl⟩ := okWide_slice Try.underlying46 (hval 0 46 v0 rfl rfl)
  obtain ⟨fuel0, h0⟩ := h0
  obtain ⟨x0, hx0⟩ := rv_bytes h0
  refine (law_bytes (Eng.lawDropItem_AC0 x0) W hx0).mono fun e W' ⟨he, hg⟩ => ?_
  subst he
  refine ⟨_, rfl, post_grow rfl ?_ (by kernel_rfl) rfl hW' hg⟩
  intro t ht
  rw [Try.params15] at ht
  simp at ht
  subst ht
  exact ⟨by kernel_rfl, of_decide_eq_true (by kernel_rfl)⟩
theorem dropIt_named : Try.pinned.checked.prog.funcNamed Rows.fnDropItemRow.func = some 15 := by kernel_rfl
theorem dropIt_k1 : Rows.fnDropItemRow.wf (OpenSpec.ofChange Rows.fnDropItemSpec) = true := by kernel_rfl
theorem dropIt_k2 : laidOutB Try.pinned.checked.prog = true := by kernel_rfl
theorem dropIt_k3 : mapsRowed Try.pinned.checked.prog = true := by kernel_rfl
theorem dropIt_k4 : Try.f15.params.all (Try.pinned.checked.prog.readableRec ·) = true := by kernel_rfl
theorem dropIt_k5 : namedTie Try.pinned.checked.prog Rows.fnDropItemRow.named Rows.fnDropItemSpec.vars = true := by kernel_rfl
theorem dropIt_k6 : (Rows.fnDropItemRow.stops == []) = true := by kernel_rfl
theorem dropIt_k7 : (Try.pinned.checked.prog.stops == []) = true := by kernel_rfl
theorem dropIt_k8 : (Rows.fnDropItemRow.knobs == []) = true := by kernel_rfl
theorem dropIt_k9 : (Try.pinned.checked.prog.stopKnobs == []) = true := by kernel_rfl
theorem dropIt_k10 : (Rows.fnDropItemRow.inPlace == Try.pinned.checked.prog.inPlace 15) = true := by kernel_rfl
theorem dropIt_k11 : (Rows.fnDropItemRow.unfollowed == Try.pinned.checked.prog.unfollowed 15) = true := by kernel_rfl
theorem dropIt_k12 : (Rows.fnDropItemRow.recurses == Try.pinned.checked.prog.recurses 15) = true := by kernel_rfl
theorem dropIt_k13 : (Rows.fnDropItemRow.named == Try.pinned.checked.prog.varsNamed 15) = true := by kernel_rfl
theorem dropIt_k14 : (Rows.fnDropItemRow.maps == (Try.f15.params.toList ++ Rows.fnDropItemSpec.plain.varTypes Try.pinned.checked.prog).any (Try.pinned.checked.prog.mapsRec ·)) = true := by kernel_rfl
theorem dropIt_k15 : (Rows.fnDropItemRow.ifaces == (Try.f15.params.toList ++ Rows.fnDropItemSpec.plain.varTypes Try.pinned.checked.prog).any (Try.pinned.checked.prog.ifacesRec ·)) = true := by kernel_rfl
theorem dropIt_k16 : (Rows.fnDropItemRow.mapsOut == Try.pinned.checked.prog.mapsAmong Try.f15.resultTypes.toList) = true := by kernel_rfl
theorem dropIt_k17 : (Rows.fnDropItemRow.loops == (Try.f15.params.toList ++ Rows.fnDropItemSpec.plain.varTypes Try.pinned.checked.prog).any (Try.pinned.checked.prog.loopsFrom ·)) = true := by kernel_rfl
theorem dropIt_k18 : (Rows.fnDropItemRow.wideKeys == (Try.f15.params.toList ++ Rows.fnDropItemSpec.plain.varTypes Try.pinned.checked.prog ++ Try.f15.resultTypes.toList).any (Try.pinned.checked.prog.wideKeysFrom ·)) = true := by kernel_rfl
theorem dropIt_k19 : Rows.fnDropItemSpec.vars.all (Try.pinned.checked.prog.varReadable ·) = true := by kernel_rfl
theorem dropIt_k20 : Try.f15.resultTypes.all (fun t => Try.pinned.checked.prog.readableRec t && decide (t < Try.pinned.checked.prog.types.size)) = true := by kernel_rfl
theorem dropIt_k21 : (Rows.fnDropItemRow.ifacesOut == Try.f15.resultTypes.toList.any (Try.pinned.checked.prog.ifacesRec ·)) = true := by kernel_rfl
theorem dropIt_k22 : (Rows.fnDropItemRow.loopsOut == Try.f15.resultTypes.toList.any (Try.pinned.checked.prog.loopsFrom ·)) = true := by kernel_rfl
theorem dropIt_k23 : (Rows.fnDropItemRow.plainKeys == Try.pinned.checked.prog.plainKeys) = true := by kernel_rfl
theorem dropIt_k24 : Rows.fnDropItemRow.shortTexts.isNone = true := by kernel_rfl
theorem dropIt_k25 : Try.pinned.checked.prog.stopsHeard = true := by kernel_rfl
theorem dropIt_k26 : Try.pinned.checked.prog.mayEnter = true := io_enter
theorem dropIt_k27 : (Rows.fnDropItemRow.lifted == Try.pinned.checked.prog.liftsFinal) = true := by
  show (false == Try.prog.liftsFinal) = true
  rw [io_lifts]; rfl
theorem dropIt_k28 : (Try.pinned.checked.prog.make == some Rows.fnDropItemRow.make) = true := by
  show (Try.prog.make == some Make.cut) = true
  rw [io_make]; rfl
theorem dropIt_k29 : (Rows.fnDropItemRow.kinds == (if Rows.fnDropItemRow.domain.isEmpty then [] else Try.f15.params.toList.map fun t => match Try.pinned.checked.prog.underlying t with | some (.int k) => some k | _ => none)) = true := by kernel_rfl
theorem dropIt_k30 : (Rows.fnDropItemRow.pinned == Rows.fnDropItemRow.pinnedBy) = true := by kernel_rfl
theorem dropIt_k31 : (Rows.fnDropItemRow.veiled == (Try.f15.params.toList ++ Rows.fnDropItemSpec.plain.varTypes Try.pinned.checked.prog ++ Try.f15.resultTypes.toList).any (Try.pinned.checked.prog.veiledRec ·)) = true := by kernel_rfl
theorem dropIt_k32 : Rows.fnDropItemRow.veiledFits Try.pinned.checked.prog Try.f15.params.toList (Try.f15.params.toList ++ Rows.fnDropItemSpec.plain.varTypes Try.pinned.checked.prog ++ Try.f15.resultTypes.toList) = true := by kernel_rfl
set_option maxRecDepth 100000 in
theorem dropIt_facts : joinedFacts Try.pinned.checked.prog 15 Try.f15 Rows.fnDropItemSpec Rows.fnDropItemRow = true := joined_mk dropIt_k1 dropIt_k2 dropIt_k3 dropIt_k4 dropIt_k5 dropIt_k6 dropIt_k7 dropIt_k8 dropIt_k9 dropIt_k10 dropIt_k11 dropIt_k12 dropIt_k13 dropIt_k14 dropIt_k15 dropIt_k16 dropIt_k17 dropIt_k18 dropIt_k19 dropIt_k20 dropIt_k21 dropIt_k22 dropIt_k23 dropIt_k24 dropIt_k25 dropIt_k26 dropIt_k27 dropIt_k28 dropIt_k29 dropIt_k30 dropIt_k31 dropIt_k32
theorem dropIt_inst : (Try.f15).isInstance Try.pinned.checked.prog Rows.fnDropItemRow.origin Rows.fnDropItemRow.targs := of_decide_eq_true (by kernel_rfl)
theorem dropIt_wrap : (Try.f15).isWrapper Try.pinned.checked.prog Rows.fnDropItemRow.wrapper Rows.fnDropItemRow.mainSum := by unfold Func.isWrapper; first | (rw [if_pos (by decide +kernel)]; kernel_rfl) | (rw [if_neg (by decide +kernel)]; exact ⟨rfl, rfl⟩)
theorem dropIt_holds : Rows.FnDropItemSaid :=
  OpenClaim.holds_of_wide 15 Try.f15 rfl rfl rfl rfl rfl rfl rfl ⟨rfl, rfl, rfl, rfl, rfl⟩ rfl rfl rfl rfl rfl dropIt_named Try.func15 dropIt_facts dropIt_inst dropIt_wrap
    (fun os started H enc _ => dropIt_lifted os started H enc)
#print axioms dropIt_holds
end Go.Proofs.Ytmeobmegnneegaa
