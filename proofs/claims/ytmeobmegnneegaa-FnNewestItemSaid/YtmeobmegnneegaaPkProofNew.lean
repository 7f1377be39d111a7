/-
  FnNewestItem returns true whatever the bytes, and they read behind the call as they read before. No condition.
-/
import Derived.Test.YtmeobmegnneegaaPkI

set_option linter.unusedSimpArgs false
set_option linter.unusedVariables false
set_option maxRecDepth 100000
set_option maxHeartbeats 16000000
namespace Go.Proofs.Ytmeobmegnneegaa
open Go.ChangeShapes Go.WideShapes Go.ChangeAt Go.RowKit
theorem newIt_lifted (os : Os) (started : os.Started) (H : Type) (enc : TypeId × Value → H) :
    ReturnsInHanded {} Try.checked os 17 .any (Rows.fnNewestItemSpec.pre6 enc Try.prog Try.f17 Rows.fnNewestItemRow.domain false) (Rows.fnNewestItemSpec.post enc Try.prog Try.f17 false true false false) := by
  refine returnsInHanded_of_change (C := Try.checked) Try.own started (by kernel_rfl) Try.func17
    (ChangeSpec.witness6 (enc := enc) (C := Try.checked) false ⟨#[], #[.slice none 0 0], []⟩ 12 (by kernel_rfl) (by kernel_rfl) (by kernel_rfl) (by kernel_rfl)) ?_
  intro W base args ds gs before hval0 hW hcnd _
  have hval : ∀ (j : Nat) t v, Try.f17.params[j]? = some t → args[j]? = some v → Value.okWide Try.prog W .any base t v := hval0
  have hW' := hW
  obtain ⟨p, q, hA0, hV, rfl, hfz, hnd⟩ := hW
  have hA : DataW.TrodAll enc Try.prog W 0 (fun _ => true) true Try.f17.params.toList args.toList ds p := hA0
  rw [Try.params17] at hA hval
  obtain ⟨v0, d0, rfl, rfl, h0⟩ := trodAll_one hA
  obtain ⟨rfl, rfl⟩ := trodVars_none hV
  obtain ⟨qa0, ql0, qc0, rfl⟩ := okWide_slice Try.underlying46 (hval 0 46 v0 rfl rfl)
  obtain ⟨fuel0, h0⟩ := h0
  obtain ⟨x0, hx0⟩ := rv_bytes h0
  refine (law_bytes (Eng.lawNewestItem_AC0 x0) W hx0).mono fun e W' ⟨he, hg⟩ => ?_
  subst he
  refine ⟨_, rfl, post_grow rfl ?_ (by kernel_rfl) rfl hW' hg⟩
  intro t ht
  rw [Try.params17] at ht
  simp at ht
  subst ht
  exact ⟨by kernel_rfl, of_decide_eq_true (by kernel_rfl)⟩
theorem newIt_named : Try.pinned.checked.prog.funcNamed Rows.fnNewestItemRow.func = some 17 := by kernel_rfl
theorem newIt_k1 : Rows.fnNewestItemRow.wf (OpenSpec.ofChange Rows.fnNewestItemSpec) = true := by kernel_rfl
theorem newIt_k2 : laidOutB Try.pinned.checked.prog = true := by kernel_rfl
theorem newIt_k3 : mapsRowed Try.pinned.checked.prog = true := by kernel_rfl
theorem newIt_k4 : Try.f17.params.all (Try.pinned.checked.prog.readableRec ·) = true := by kernel_rfl
theorem newIt_k5 : namedTie Try.pinned.checked.prog Rows.fnNewestItemRow.named Rows.fnNewestItemSpec.vars = true := by kernel_rfl
theorem newIt_k6 : (Rows.fnNewestItemRow.stops == []) = true := by kernel_rfl
theorem newIt_k7 : (Try.pinned.checked.prog.stops == []) = true := by kernel_rfl
theorem newIt_k8 : (Rows.fnNewestItemRow.knobs == []) = true := by kernel_rfl
theorem newIt_k9 : (Try.pinned.checked.prog.stopKnobs == []) = true := by kernel_rfl
theorem newIt_k10 : (Rows.fnNewestItemRow.inPlace == Try.pinned.checked.prog.inPlace 17) = true := by kernel_rfl
theorem newIt_k11 : (Rows.fnNewestItemRow.unfollowed == Try.pinned.checked.prog.unfollowed 17) = true := by kernel_rfl
theorem newIt_k12 : (Rows.fnNewestItemRow.recurses == Try.pinned.checked.prog.recurses 17) = true := by kernel_rfl
theorem newIt_k13 : (Rows.fnNewestItemRow.named == Try.pinned.checked.prog.varsNamed 17) = true := by kernel_rfl
theorem newIt_k14 : (Rows.fnNewestItemRow.maps == (Try.f17.params.toList ++ Rows.fnNewestItemSpec.plain.varTypes Try.pinned.checked.prog).any (Try.pinned.checked.prog.mapsRec ·)) = true := by kernel_rfl
theorem newIt_k15 : (Rows.fnNewestItemRow.ifaces == (Try.f17.params.toList ++ Rows.fnNewestItemSpec.plain.varTypes Try.pinned.checked.prog).any (Try.pinned.checked.prog.ifacesRec ·)) = true := by kernel_rfl
theorem newIt_k16 : (Rows.fnNewestItemRow.mapsOut == Try.pinned.checked.prog.mapsAmong Try.f17.resultTypes.toList) = true := by kernel_rfl
theorem newIt_k17 : (Rows.fnNewestItemRow.loops == (Try.f17.params.toList ++ Rows.fnNewestItemSpec.plain.varTypes Try.pinned.checked.prog).any (Try.pinned.checked.prog.loopsFrom ·)) = true := by kernel_rfl
theorem newIt_k18 : (Rows.fnNewestItemRow.wideKeys == (Try.f17.params.toList ++ Rows.fnNewestItemSpec.plain.varTypes Try.pinned.checked.prog ++ Try.f17.resultTypes.toList).any (Try.pinned.checked.prog.wideKeysFrom ·)) = true := by kernel_rfl
theorem newIt_k19 : Rows.fnNewestItemSpec.vars.all (Try.pinned.checked.prog.varReadable ·) = true := by kernel_rfl
theorem newIt_k20 : Try.f17.resultTypes.all (fun t => Try.pinned.checked.prog.readableRec t && decide (t < Try.pinned.checked.prog.types.size)) = true := by kernel_rfl
theorem newIt_k21 : (Rows.fnNewestItemRow.ifacesOut == Try.f17.resultTypes.toList.any (Try.pinned.checked.prog.ifacesRec ·)) = true := by kernel_rfl
theorem newIt_k22 : (Rows.fnNewestItemRow.loopsOut == Try.f17.resultTypes.toList.any (Try.pinned.checked.prog.loopsFrom ·)) = true := by kernel_rfl
theorem newIt_k23 : (Rows.fnNewestItemRow.plainKeys == Try.pinned.checked.prog.plainKeys) = true := by kernel_rfl
theorem newIt_k24 : Rows.fnNewestItemRow.shortTexts.isNone = true := by kernel_rfl
theorem newIt_k25 : Try.pinned.checked.prog.stopsHeard = true := by kernel_rfl
theorem newIt_k26 : Try.pinned.checked.prog.mayEnter = true := io_enter
theorem newIt_k27 : (Rows.fnNewestItemRow.lifted == Try.pinned.checked.prog.liftsFinal) = true := by
  show (false == Try.prog.liftsFinal) = true
  rw [io_lifts]; rfl
theorem newIt_k28 : (Try.pinned.checked.prog.make == some Rows.fnNewestItemRow.make) = true := by
  show (Try.prog.make == some Make.cut) = true
  rw [io_make]; rfl
theorem newIt_k29 : (Rows.fnNewestItemRow.kinds == (if Rows.fnNewestItemRow.domain.isEmpty then [] else Try.f17.params.toList.map fun t => match Try.pinned.checked.prog.underlying t with | some (.int k) => some k | _ => none)) = true := by kernel_rfl
theorem newIt_k30 : (Rows.fnNewestItemRow.pinned == Rows.fnNewestItemRow.pinnedBy) = true := by kernel_rfl
theorem newIt_k31 : (Rows.fnNewestItemRow.veiled == (Try.f17.params.toList ++ Rows.fnNewestItemSpec.plain.varTypes Try.pinned.checked.prog ++ Try.f17.resultTypes.toList).any (Try.pinned.checked.prog.veiledRec ·)) = true := by kernel_rfl
theorem newIt_k32 : Rows.fnNewestItemRow.veiledFits Try.pinned.checked.prog Try.f17.params.toList (Try.f17.params.toList ++ Rows.fnNewestItemSpec.plain.varTypes Try.pinned.checked.prog ++ Try.f17.resultTypes.toList) = true := by kernel_rfl
theorem newIt_facts : joinedFacts Try.pinned.checked.prog 17 Try.f17 Rows.fnNewestItemSpec Rows.fnNewestItemRow = true := joined_mk newIt_k1 newIt_k2 newIt_k3 newIt_k4 newIt_k5 newIt_k6 newIt_k7 newIt_k8 newIt_k9 newIt_k10 newIt_k11 newIt_k12 newIt_k13 newIt_k14 newIt_k15 newIt_k16 newIt_k17 newIt_k18 newIt_k19 newIt_k20 newIt_k21 newIt_k22 newIt_k23 newIt_k24 newIt_k25 newIt_k26 newIt_k27 newIt_k28 newIt_k29 newIt_k30 newIt_k31 newIt_k32
theorem newIt_inst : (Try.f17).isInstance Try.pinned.checked.prog Rows.fnNewestItemRow.origin Rows.fnNewestItemRow.targs := of_decide_eq_true (by kernel_rfl)
theorem newIt_wrap : (Try.f17).isWrapper Try.pinned.checked.prog Rows.fnNewestItemRow.wrapper Rows.fnNewestItemRow.mainSum := by unfold Func.isWrapper; first | (rw [if_pos (by decide +kernel)]; kernel_rfl) | (rw [if_neg (by decide +kernel)]; exact ⟨rfl, rfl⟩)
theorem newIt_holds : Rows.FnNewestItemSaid :=
  OpenClaim.holds_of_wide 17 Try.f17 rfl rfl rfl rfl rfl rfl rfl ⟨rfl, rfl, rfl, rfl, rfl⟩ rfl rfl rfl rfl rfl newIt_named Try.func17 newIt_facts newIt_inst newIt_wrap
    (fun os started H enc _ => newIt_lifted os started H enc)
#print axioms newIt_holds
end Go.Proofs.Ytmeobmegnneegaa
