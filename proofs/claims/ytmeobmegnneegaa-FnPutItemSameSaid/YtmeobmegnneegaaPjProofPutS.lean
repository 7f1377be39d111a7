/-
  FnPutItemSame returns true whatever the bytes, and they read behind the call as they read before. No condition.
-/
import Derived.Test.YtmeobmegnneegaaPjJ

set_option linter.unusedSimpArgs false
set_option linter.unusedVariables false
namespace Go.Proofs.Ytmeobmegnneegaa
open Go.ChangeShapes Go.WideShapes Go.ChangeAt Go.RowKit
set_option maxRecDepth 100000 in
set_option maxHeartbeats 4000000 in
theorem putSa_lifted (os : Os) (started : os.Started) (H : Type) (enc : TypeId × Value → H) :
    ReturnsInHanded {} Try.checked os 20 .any (Rows.fnPutItemSameSpec.pre6 enc Try.prog Try.f20 Rows.fnPutItemSameRow.domain false) (Rows.fnPutItemSameSpec.post enc Try.prog Try.f20 false true false false) := by
  refine returnsInHanded_of_change (C := Try.checked) Try.own started (by kernel_rfl) Try.func20
    (ChangeSpec.witness6 (enc := enc) (C := Try.checked) false ⟨#[], #[.slice none 0 0], []⟩ 12 (by kernel_rfl) (by kernel_rfl) (by kernel_rfl) (by kernel_rfl)) ?_
  intro W base args ds gs before hval0 hW hcnd _
  have hval : ∀ (j : Nat) t v, Try.f20.params[j]? = some t → args[j]? = some v → Value.okWide Try.prog W .any base t v := hval0
  have hW' := hW
  obtain ⟨p, q, hA0, hV, rfl, hfz, hnd⟩ := hW
  have hA : DataW.TrodAll enc Try.prog W 0 (fun _ => true) true Try.f20.params.toList args.toList ds p := hA0
  rw [Try.params20] at hA hval
  obtain ⟨v0, d0, rfl, rfl, h0⟩ := trodAll_one hA
  obtain ⟨rfl, rfl⟩ := trodVars_none hV
  obtain ⟨qa0, ql0, qc0, rfl⟩ := okWide_slice Try.underlying46 (hval 0 46 v0 rfl rfl)
  obtain ⟨fuel0, h0⟩ := h0
  obtain ⟨x0, hx0⟩ := rv_bytes h0
  refine (law_bytes (Eng.lawPutItemSame_AC0 x0) W hx0).mono fun e W' ⟨he, hg⟩ => ?_
  subst he
  refine ⟨_, rfl, post_grow rfl ?_ (by kernel_rfl) rfl hW' hg⟩
  intro t ht
  rw [Try.params20] at ht
  simp at ht
  subst ht
  exact ⟨by kernel_rfl, of_decide_eq_true (by kernel_rfl)⟩
theorem putSa_named : Try.pinned.checked.prog.funcNamed Rows.fnPutItemSameRow.func = some 20 := by kernel_rfl
theorem putSa_k1 : Rows.fnPutItemSameRow.wf (OpenSpec.ofChange Rows.fnPutItemSameSpec) = true := by kernel_rfl
theorem putSa_k2 : laidOutB Try.pinned.checked.prog = true := by kernel_rfl
theorem putSa_k3 : mapsRowed Try.pinned.checked.prog = true := by kernel_rfl
theorem putSa_k4 : Try.f20.params.all (Try.pinned.checked.prog.readableRec ·) = true := by kernel_rfl
theorem putSa_k5 : namedTie Try.pinned.checked.prog Rows.fnPutItemSameRow.named Rows.fnPutItemSameSpec.vars = true := by kernel_rfl
theorem putSa_k6 : (Rows.fnPutItemSameRow.stops == []) = true := by kernel_rfl
theorem putSa_k7 : (Try.pinned.checked.prog.stops == []) = true := by kernel_rfl
theorem putSa_k8 : (Rows.fnPutItemSameRow.knobs == []) = true := by kernel_rfl
theorem putSa_k9 : (Try.pinned.checked.prog.stopKnobs == []) = true := by kernel_rfl
theorem putSa_k10 : (Rows.fnPutItemSameRow.inPlace == Try.pinned.checked.prog.inPlace 20) = true := by kernel_rfl
theorem putSa_k11 : (Rows.fnPutItemSameRow.unfollowed == Try.pinned.checked.prog.unfollowed 20) = true := by kernel_rfl
theorem putSa_k12 : (Rows.fnPutItemSameRow.recurses == Try.pinned.checked.prog.recurses 20) = true := by kernel_rfl
theorem putSa_k13 : (Rows.fnPutItemSameRow.named == Try.pinned.checked.prog.varsNamed 20) = true := by kernel_rfl
theorem putSa_k14 : (Rows.fnPutItemSameRow.maps == (Try.f20.params.toList ++ Rows.fnPutItemSameSpec.plain.varTypes Try.pinned.checked.prog).any (Try.pinned.checked.prog.mapsRec ·)) = true := by kernel_rfl
theorem putSa_k15 : (Rows.fnPutItemSameRow.ifaces == (Try.f20.params.toList ++ Rows.fnPutItemSameSpec.plain.varTypes Try.pinned.checked.prog).any (Try.pinned.checked.prog.ifacesRec ·)) = true := by kernel_rfl
theorem putSa_k16 : (Rows.fnPutItemSameRow.mapsOut == Try.pinned.checked.prog.mapsAmong Try.f20.resultTypes.toList) = true := by kernel_rfl
theorem putSa_k17 : (Rows.fnPutItemSameRow.loops == (Try.f20.params.toList ++ Rows.fnPutItemSameSpec.plain.varTypes Try.pinned.checked.prog).any (Try.pinned.checked.prog.loopsFrom ·)) = true := by kernel_rfl
theorem putSa_k18 : (Rows.fnPutItemSameRow.wideKeys == (Try.f20.params.toList ++ Rows.fnPutItemSameSpec.plain.varTypes Try.pinned.checked.prog ++ Try.f20.resultTypes.toList).any (Try.pinned.checked.prog.wideKeysFrom ·)) = true := by kernel_rfl
theorem putSa_k19 : Rows.fnPutItemSameSpec.vars.all (Try.pinned.checked.prog.varReadable ·) = true := by kernel_rfl
theorem putSa_k20 : Try.f20.resultTypes.all (fun t => Try.pinned.checked.prog.readableRec t && decide (t < Try.pinned.checked.prog.types.size)) = true := by kernel_rfl
theorem putSa_k21 : (Rows.fnPutItemSameRow.ifacesOut == Try.f20.resultTypes.toList.any (Try.pinned.checked.prog.ifacesRec ·)) = true := by kernel_rfl
theorem putSa_k22 : (Rows.fnPutItemSameRow.loopsOut == Try.f20.resultTypes.toList.any (Try.pinned.checked.prog.loopsFrom ·)) = true := by kernel_rfl
theorem putSa_k23 : (Rows.fnPutItemSameRow.plainKeys == Try.pinned.checked.prog.plainKeys) = true := by kernel_rfl
theorem putSa_k24 : Rows.fnPutItemSameRow.shortTexts.isNone = true := by kernel_rfl
theorem putSa_k25 : Try.pinned.checked.prog.stopsHeard = true := by kernel_rfl
theorem putSa_k26 : Try.pinned.checked.prog.mayEnter = true := io_enter
theorem putSa_k27 : (Rows.fnPutItemSameRow.lifted == Try.pinned.checked.prog.liftsFinal) = true := by
  show (false == Try.prog.liftsFinal) = true
  rw [io_lifts]; rfl
theorem putSa_k28 : (Try.pinned.checked.prog.make == some Rows.fnPutItemSameRow.make) = true := by
  show (Try.prog.make == some Make.cut) = true
  rw [io_make]; rfl
theorem putSa_k29 : (Rows.fnPutItemSameRow.kinds == (if Rows.fnPutItemSameRow.domain.isEmpty then [] else Try.f20.params.toList.map fun t => match Try.pinned.checked.prog.underlying t with | some (.int k) => some k | _ => none)) = true := by kernel_rfl
theorem putSa_k30 : (Rows.fnPutItemSameRow.pinned == Rows.fnPutItemSameRow.pinnedBy) = true := by kernel_rfl
theorem putSa_k31 : (Rows.fnPutItemSameRow.veiled == (Try.f20.params.toList ++ Rows.fnPutItemSameSpec.plain.varTypes Try.pinned.checked.prog ++ Try.f20.resultTypes.toList).any (Try.pinned.checked.prog.veiledRec ·)) = true := by kernel_rfl
theorem putSa_k32 : Rows.fnPutItemSameRow.veiledFits Try.pinned.checked.prog Try.f20.params.toList (Try.f20.params.toList ++ Rows.fnPutItemSameSpec.plain.varTypes Try.pinned.checked.prog ++ Try.f20.resultTypes.toList) = true := by kernel_rfl
set_option maxRecDepth 100000 in
theorem putSa_facts : joinedFacts Try.pinned.checked.prog 20 Try.f20 Rows.fnPutItemSameSpec Rows.fnPutItemSameRow = true := joined_mk putSa_k1 putSa_k2 putSa_k3 putSa_k4 putSa_k5 putSa_k6 putSa_k7 putSa_k8 putSa_k9 putSa_k10 putSa_k11 putSa_k12 putSa_k13 putSa_k14 putSa_k15 putSa_k16 putSa_k17 putSa_k18 putSa_k19 putSa_k20 putSa_k21 putSa_k22 putSa_k23 putSa_k24 putSa_k25 putSa_k26 putSa_k27 putSa_k28 putSa_k29 putSa_k30 putSa_k31 putSa_k32
theorem putSa_inst : (Try.f20).isInstance Try.pinned.checked.prog Rows.fnPutItemSameRow.origin Rows.fnPutItemSameRow.targs := of_decide_eq_true (by kernel_rfl)
theorem putSa_wrap : (Try.f20).isWrapper Try.pinned.checked.prog Rows.fnPutItemSameRow.wrapper Rows.fnPutItemSameRow.mainSum := by unfold Func.isWrapper; first | (rw [if_pos (by decide +kernel)]; kernel_rfl) | (rw [if_neg (by decide +kernel)]; exact ⟨rfl, rfl⟩)
theorem putSa_holds : Rows.FnPutItemSameSaid :=
  OpenClaim.holds_of_wide 20 Try.f20 rfl rfl rfl rfl rfl rfl rfl ⟨rfl, rfl, rfl, rfl, rfl⟩ rfl rfl rfl rfl rfl putSa_named Try.func20 putSa_facts putSa_inst putSa_wrap
    (fun os started H enc _ => putSa_lifted os started H enc)
#print axioms putSa_holds
end Go.Proofs.Ytmeobmegnneegaa
