/-
  FnPutItemOnce returns true whatever the bytes, and they read behind the call as they read before. No condition.
-/
import Derived.Test.YtmeobmegnneegaaPjJ

set_option linter.unusedSimpArgs false
set_option linter.unusedVariables false
namespace Go.Proofs.Ytmeobmegnneegaa
open Go.ChangeShapes Go.WideShapes Go.ChangeAt Go.RowKit
set_option maxRecDepth 100000 in
set_option maxHeartbeats 4000000 in
theorem putOn_lifted (os : Os) (started : os.Started) (H : Type) (enc : TypeId × Value → H) :
    ReturnsInHanded {} Try.checked os 19 .any (Rows.fnPutItemOnceSpec.pre6 enc Try.prog Try.f19 Rows.fnPutItemOnceRow.domain false) (Rows.fnPutItemOnceSpec.post enc Try.prog Try.f19 false true false false) := by
  refine returnsInHanded_of_change (C := Try.checked) Try.own started (by kernel_rfl) Try.func19
    (ChangeSpec.witness6 (enc := enc) (C := Try.checked) false ⟨#[], #[.slice none 0 0], []⟩ 12 (by kernel_rfl) (by kernel_rfl) (by kernel_rfl) (by kernel_rfl)) ?_
  intro W base args ds gs before hval0 hW hcnd _
  have hval : ∀ (j : Nat) t v, Try.f19.params[j]? = some t → args[j]? = some v → Value.okWide Try.prog W .any base t v := hval0
  have hW' := hW
  obtain ⟨p, q, hA0, hV, rfl, hfz, hnd⟩ := hW
  have hA : DataW.TrodAll enc Try.prog W 0 (fun _ => true) true Try.f19.params.toList args.toList ds p := hA0
  rw [Try.params19] at hA hval
  obtain ⟨v0, d0, rfl, rfl, h0⟩ := trodAll_one hA
  obtain ⟨rfl, rfl⟩ := trodVars_none hV
  obtain ⟨qa0, ql0, qc0, rfl⟩ := okWide_slice Try.underlying46 (hval 0 46 v0 rfl rfl)
  obtain ⟨fuel0, h0⟩ := h0
  obtain ⟨x0, hx0⟩ := rv_bytes h0
  refine (law_bytes (Eng.lawPutItemOnce_AC0 x0) W hx0).mono fun e W' ⟨he, hg⟩ => ?_
  subst he
  refine ⟨_, rfl, post_grow rfl ?_ (by kernel_rfl) rfl hW' hg⟩
  intro t ht
  rw [Try.params19] at ht
  simp at ht
  subst ht
  exact ⟨by kernel_rfl, of_decide_eq_true (by kernel_rfl)⟩
theorem putOn_named : Try.pinned.checked.prog.funcNamed Rows.fnPutItemOnceRow.func = some 19 := by kernel_rfl
theorem putOn_k1 : Rows.fnPutItemOnceRow.wf (OpenSpec.ofChange Rows.fnPutItemOnceSpec) = true := by kernel_rfl
theorem putOn_k2 : laidOutB Try.pinned.checked.prog = true := by kernel_rfl
theorem putOn_k3 : mapsRowed Try.pinned.checked.prog = true := by kernel_rfl
theorem putOn_k4 : Try.f19.params.all (Try.pinned.checked.prog.readableRec ·) = true := by kernel_rfl
theorem putOn_k5 : namedTie Try.pinned.checked.prog Rows.fnPutItemOnceRow.named Rows.fnPutItemOnceSpec.vars = true := by kernel_rfl
theorem putOn_k6 : (Rows.fnPutItemOnceRow.stops == []) = true := by kernel_rfl
theorem putOn_k7 : (Try.pinned.checked.prog.stops == []) = true := by kernel_rfl
theorem putOn_k8 : (Rows.fnPutItemOnceRow.knobs == []) = true := by kernel_rfl
theorem putOn_k9 : (Try.pinned.checked.prog.stopKnobs == []) = true := by kernel_rfl
theorem putOn_k10 : (Rows.fnPutItemOnceRow.inPlace == Try.pinned.checked.prog.inPlace 19) = true := by kernel_rfl
theorem putOn_k11 : (Rows.fnPutItemOnceRow.unfollowed == Try.pinned.checked.prog.unfollowed 19) = true := by kernel_rfl
theorem putOn_k12 : (Rows.fnPutItemOnceRow.recurses == Try.pinned.checked.prog.recurses 19) = true := by kernel_rfl
theorem putOn_k13 : (Rows.fnPutItemOnceRow.named == Try.pinned.checked.prog.varsNamed 19) = true := by kernel_rfl
theorem putOn_k14 : (Rows.fnPutItemOnceRow.maps == (Try.f19.params.toList ++ Rows.fnPutItemOnceSpec.plain.varTypes Try.pinned.checked.prog).any (Try.pinned.checked.prog.mapsRec ·)) = true := by kernel_rfl
theorem putOn_k15 : (Rows.fnPutItemOnceRow.ifaces == (Try.f19.params.toList ++ Rows.fnPutItemOnceSpec.plain.varTypes Try.pinned.checked.prog).any (Try.pinned.checked.prog.ifacesRec ·)) = true := by kernel_rfl
theorem putOn_k16 : (Rows.fnPutItemOnceRow.mapsOut == Try.pinned.checked.prog.mapsAmong Try.f19.resultTypes.toList) = true := by kernel_rfl
theorem putOn_k17 : (Rows.fnPutItemOnceRow.loops == (Try.f19.params.toList ++ Rows.fnPutItemOnceSpec.plain.varTypes Try.pinned.checked.prog).any (Try.pinned.checked.prog.loopsFrom ·)) = true := by kernel_rfl
theorem putOn_k18 : (Rows.fnPutItemOnceRow.wideKeys == (Try.f19.params.toList ++ Rows.fnPutItemOnceSpec.plain.varTypes Try.pinned.checked.prog ++ Try.f19.resultTypes.toList).any (Try.pinned.checked.prog.wideKeysFrom ·)) = true := by kernel_rfl
theorem putOn_k19 : Rows.fnPutItemOnceSpec.vars.all (Try.pinned.checked.prog.varReadable ·) = true := by kernel_rfl
theorem putOn_k20 : Try.f19.resultTypes.all (fun t => Try.pinned.checked.prog.readableRec t && decide (t < Try.pinned.checked.prog.types.size)) = true := by kernel_rfl
theorem putOn_k21 : (Rows.fnPutItemOnceRow.ifacesOut == Try.f19.resultTypes.toList.any (Try.pinned.checked.prog.ifacesRec ·)) = true := by kernel_rfl
theorem putOn_k22 : (Rows.fnPutItemOnceRow.loopsOut == Try.f19.resultTypes.toList.any (Try.pinned.checked.prog.loopsFrom ·)) = true := by kernel_rfl
theorem putOn_k23 : (Rows.fnPutItemOnceRow.plainKeys == Try.pinned.checked.prog.plainKeys) = true := by kernel_rfl
theorem putOn_k24 : Rows.fnPutItemOnceRow.shortTexts.isNone = true := by kernel_rfl
theorem putOn_k25 : Try.pinned.checked.prog.stopsHeard = true := by kernel_rfl
theorem putOn_k26 : Try.pinned.checked.prog.mayEnter = true := io_enter
theorem putOn_k27 : (Rows.fnPutItemOnceRow.lifted == Try.pinned.checked.prog.liftsFinal) = true := by
  show (false == Try.prog.liftsFinal) = true
  rw [io_lifts]; rfl
theorem putOn_k28 : (Try.pinned.checked.prog.make == some Rows.fnPutItemOnceRow.make) = true := by
  show (Try.prog.make == some Make.cut) = true
  rw [io_make]; rfl
theorem putOn_k29 : (Rows.fnPutItemOnceRow.kinds == (if Rows.fnPutItemOnceRow.domain.isEmpty then [] else Try.f19.params.toList.map fun t => match Try.pinned.checked.prog.underlying t with | some (.int k) => some k | _ => none)) = true := by kernel_rfl
theorem putOn_k30 : (Rows.fnPutItemOnceRow.pinned == Rows.fnPutItemOnceRow.pinnedBy) = true := by kernel_rfl
theorem putOn_k31 : (Rows.fnPutItemOnceRow.veiled == (Try.f19.params.toList ++ Rows.fnPutItemOnceSpec.plain.varTypes Try.pinned.checked.prog ++ Try.f19.resultTypes.toList).any (Try.pinned.checked.prog.veiledRec ·)) = true := by kernel_rfl
theorem putOn_k32 : Rows.fnPutItemOnceRow.veiledFits Try.pinned.checked.prog Try.f19.params.toList (Try.f19.params.toList ++ Rows.fnPutItemOnceSpec.plain.varTypes Try.pinned.checked.prog ++ Try.f19.resultTypes.toList) = true := by kernel_rfl
set_option maxRecDepth 100000 in
theorem putOn_facts : joinedFacts Try.pinned.checked.prog 19 Try.f19 Rows.fnPutItemOnceSpec Rows.fnPutItemOnceRow = true := joined_mk putOn_k1 putOn_k2 putOn_k3 putOn_k4 putOn_k5 putOn_k6 putOn_k7 putOn_k8 putOn_k9 putOn_k10 putOn_k11 putOn_k12 putOn_k13 putOn_k14 putOn_k15 putOn_k16 putOn_k17 putOn_k18 putOn_k19 putOn_k20 putOn_k21 putOn_k22 putOn_k23 putOn_k24 putOn_k25 putOn_k26 putOn_k27 putOn_k28 putOn_k29 putOn_k30 putOn_k31 putOn_k32
theorem putOn_inst : (Try.f19).isInstance Try.pinned.checked.prog Rows.fnPutItemOnceRow.origin Rows.fnPutItemOnceRow.targs := of_decide_eq_true (by kernel_rfl)
theorem putOn_wrap : (Try.f19).isWrapper Try.pinned.checked.prog Rows.fnPutItemOnceRow.wrapper Rows.fnPutItemOnceRow.mainSum := by unfold Func.isWrapper; first | (rw [if_pos (by decide +kernel)]; kernel_rfl) | (rw [if_neg (by decide +kernel)]; exact ⟨rfl, rfl⟩)
theorem putOn_holds : Rows.FnPutItemOnceSaid :=
  OpenClaim.holds_of_wide 19 Try.f19 rfl rfl rfl rfl rfl rfl rfl ⟨rfl, rfl, rfl, rfl, rfl⟩ rfl rfl rfl rfl rfl putOn_named Try.func19 putOn_facts putOn_inst putOn_wrap
    (fun os started H enc _ => putOn_lifted os started H enc)
#print axioms putOn_holds
end Go.Proofs.Ytmeobmegnneegaa
