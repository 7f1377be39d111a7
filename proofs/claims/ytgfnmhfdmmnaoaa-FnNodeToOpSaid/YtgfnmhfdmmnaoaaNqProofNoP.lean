/-
  FnNodeToOp returns true whatever the bytes, and they read behind the call as they read before. No condition.
-/
import Derived.Test.YtgfnmhfdmmnaoaaNqH

set_option linter.unusedSimpArgs false
set_option linter.unusedVariables false
set_option linter.unnecessarySimpa false
set_option maxRecDepth 100000
set_option maxHeartbeats 16000000
namespace Go.Proofs.Ytgfnmhfdmmnaoaa
open Go.ChangeShapes Go.WideShapes Go.ChangeAt Go.RowKit
theorem noP_lifted (os : Os) (started : os.Started) (H : Type) (enc : TypeId × Value → H) :
    ReturnsInHanded {} Try.checked os 11 .any (Rows.fnNodeToOpSpec.pre6 enc Try.prog Try.f11 Rows.fnNodeToOpRow.domain false) (Rows.fnNodeToOpSpec.post enc Try.prog Try.f11 false true false false) := by
  refine returnsInHanded_of_change (C := Try.checked) Try.own started (by kernel_rfl) Try.func11
    (ChangeSpec.witness6 (enc := enc) (C := Try.checked) false ⟨#[], #[.slice none 0 0], []⟩ 12 (by kernel_rfl) (by kernel_rfl) (by kernel_rfl) (by kernel_rfl)) ?_
  intro W base args ds gs before hval0 hW hcnd _
  have hval : ∀ (j : Nat) t v, Try.f11.params[j]? = some t → args[j]? = some v → Value.okWide Try.prog W .any base t v := hval0
  have hW' := hW
  obtain ⟨p, q, hA0, hV, rfl, hfz, hnd⟩ := hW
  have hA : DataW.TrodAll enc Try.prog W 0 (fun _ => true) true Try.f11.params.toList args.toList ds p := hA0
  rw [Try.params11] at hA hval
  obtain ⟨v0, d0, rfl, rfl, h0⟩ := trodAll_one hA
  obtain ⟨rfl, rfl⟩ := trodVars_none hV
  obtain ⟨qa0, ql0, qc0, rfl⟩ := okWide_slice Try.underlying22 (hval 0 22 v0 rfl rfl)
  obtain ⟨fuel0, h0⟩ := h0
  obtain ⟨x0, hx0⟩ := rv_bytes h0
  refine (law_bytes (Eng.lawNodeToOp_AC0 x0) W hx0).mono fun e W' ⟨he, hg⟩ => ?_
  subst he
  refine ⟨_, rfl, post_grow rfl ?_ (by kernel_rfl) rfl hW' hg⟩
  intro t ht
  rw [Try.params11] at ht
  simp at ht
  subst ht
  exact ⟨by kernel_rfl, of_decide_eq_true (by kernel_rfl)⟩
theorem noP_named : Try.pinned.checked.prog.funcNamed Rows.fnNodeToOpRow.func = some 11 := by kernel_rfl
theorem noP_k1 : Rows.fnNodeToOpRow.wf (OpenSpec.ofChange Rows.fnNodeToOpSpec) = true := by kernel_rfl
theorem noP_k2 : laidOutB Try.pinned.checked.prog = true := by kernel_rfl
theorem noP_k3 : mapsRowed Try.pinned.checked.prog = true := by kernel_rfl
theorem noP_k4 : Try.f11.params.all (Try.pinned.checked.prog.readableRec ·) = true := by kernel_rfl
theorem noP_k5 : namedTie Try.pinned.checked.prog Rows.fnNodeToOpRow.named Rows.fnNodeToOpSpec.vars = true := by kernel_rfl
theorem noP_k6 : (Rows.fnNodeToOpRow.stops == []) = true := by kernel_rfl
theorem noP_k7 : (Try.pinned.checked.prog.stops == []) = true := by kernel_rfl
theorem noP_k8 : (Rows.fnNodeToOpRow.knobs == []) = true := by kernel_rfl
theorem noP_k9 : (Try.pinned.checked.prog.stopKnobs == []) = true := by kernel_rfl
theorem noP_k10 : (Rows.fnNodeToOpRow.inPlace == Try.pinned.checked.prog.inPlace 11) = true := by kernel_rfl
theorem noP_k11 : (Rows.fnNodeToOpRow.unfollowed == Try.pinned.checked.prog.unfollowed 11) = true := by kernel_rfl
theorem noP_k12 : (Rows.fnNodeToOpRow.recurses == Try.pinned.checked.prog.recurses 11) = true := by kernel_rfl
theorem noP_k13 : (Rows.fnNodeToOpRow.named == Try.pinned.checked.prog.varsNamed 11) = true := by kernel_rfl
theorem noP_k14 : (Rows.fnNodeToOpRow.maps == (Try.f11.params.toList ++ Rows.fnNodeToOpSpec.plain.varTypes Try.pinned.checked.prog).any (Try.pinned.checked.prog.mapsRec ·)) = true := by kernel_rfl
theorem noP_k15 : (Rows.fnNodeToOpRow.ifaces == (Try.f11.params.toList ++ Rows.fnNodeToOpSpec.plain.varTypes Try.pinned.checked.prog).any (Try.pinned.checked.prog.ifacesRec ·)) = true := by kernel_rfl
theorem noP_k16 : (Rows.fnNodeToOpRow.mapsOut == Try.pinned.checked.prog.mapsAmong Try.f11.resultTypes.toList) = true := by kernel_rfl
theorem noP_k17 : (Rows.fnNodeToOpRow.loops == (Try.f11.params.toList ++ Rows.fnNodeToOpSpec.plain.varTypes Try.pinned.checked.prog).any (Try.pinned.checked.prog.loopsFrom ·)) = true := by kernel_rfl
theorem noP_k18 : (Rows.fnNodeToOpRow.wideKeys == (Try.f11.params.toList ++ Rows.fnNodeToOpSpec.plain.varTypes Try.pinned.checked.prog ++ Try.f11.resultTypes.toList).any (Try.pinned.checked.prog.wideKeysFrom ·)) = true := by kernel_rfl
theorem noP_k19 : Rows.fnNodeToOpSpec.vars.all (Try.pinned.checked.prog.varReadable ·) = true := by kernel_rfl
theorem noP_k20 : Try.f11.resultTypes.all (fun t => Try.pinned.checked.prog.readableRec t && decide (t < Try.pinned.checked.prog.types.size)) = true := by kernel_rfl
theorem noP_k21 : (Rows.fnNodeToOpRow.ifacesOut == Try.f11.resultTypes.toList.any (Try.pinned.checked.prog.ifacesRec ·)) = true := by kernel_rfl
theorem noP_k22 : (Rows.fnNodeToOpRow.loopsOut == Try.f11.resultTypes.toList.any (Try.pinned.checked.prog.loopsFrom ·)) = true := by kernel_rfl
theorem noP_k23 : (Rows.fnNodeToOpRow.plainKeys == Try.pinned.checked.prog.plainKeys) = true := by kernel_rfl
theorem noP_k24 : Rows.fnNodeToOpRow.shortTexts.isNone = true := by kernel_rfl
theorem noP_k25 : Try.pinned.checked.prog.stopsHeard = true := by kernel_rfl
theorem noP_k26 : Try.pinned.checked.prog.mayEnter = true := io_enter
theorem noP_k27 : (Rows.fnNodeToOpRow.lifted == Try.pinned.checked.prog.liftsFinal) = true := by
  show (false == Try.prog.liftsFinal) = true
  rw [io_lifts]; rfl
theorem noP_k28 : (Try.pinned.checked.prog.make == some Rows.fnNodeToOpRow.make) = true := by
  show (Try.prog.make == some Make.cut) = true
  rw [io_make]; rfl
theorem noP_k29 : (Rows.fnNodeToOpRow.kinds == (if Rows.fnNodeToOpRow.domain.isEmpty then [] else Try.f11.params.toList.map fun t => match Try.pinned.checked.prog.underlying t with | some (.int k) => some k | _ => none)) = true := by kernel_rfl
theorem noP_k30 : (Rows.fnNodeToOpRow.pinned == Rows.fnNodeToOpRow.pinnedBy) = true := by kernel_rfl
theorem noP_k31 : (Rows.fnNodeToOpRow.veiled == (Try.f11.params.toList ++ Rows.fnNodeToOpSpec.plain.varTypes Try.pinned.checked.prog ++ Try.f11.resultTypes.toList).any (Try.pinned.checked.prog.veiledRec ·)) = true := by kernel_rfl
theorem noP_k32 : Rows.fnNodeToOpRow.veiledFits Try.pinned.checked.prog Try.f11.params.toList (Try.f11.params.toList ++ Rows.fnNodeToOpSpec.plain.varTypes Try.pinned.checked.prog ++ Try.f11.resultTypes.toList) = true := by kernel_rfl
theorem noP_facts : joinedFacts Try.pinned.checked.prog 11 Try.f11 Rows.fnNodeToOpSpec Rows.fnNodeToOpRow = true := joined_mk noP_k1 noP_k2 noP_k3 noP_k4 noP_k5 noP_k6 noP_k7 noP_k8 noP_k9 noP_k10 noP_k11 noP_k12 noP_k13 noP_k14 noP_k15 noP_k16 noP_k17 noP_k18 noP_k19 noP_k20 noP_k21 noP_k22 noP_k23 noP_k24 noP_k25 noP_k26 noP_k27 noP_k28 noP_k29 noP_k30 noP_k31 noP_k32
theorem noP_inst : (Try.f11).isInstance Try.pinned.checked.prog Rows.fnNodeToOpRow.origin Rows.fnNodeToOpRow.targs := of_decide_eq_true (by kernel_rfl)
theorem noP_wrap : (Try.f11).isWrapper Try.pinned.checked.prog Rows.fnNodeToOpRow.wrapper Rows.fnNodeToOpRow.mainSum := by unfold Func.isWrapper; first | (rw [if_pos (by decide +kernel)]; kernel_rfl) | (rw [if_neg (by decide +kernel)]; exact ⟨rfl, rfl⟩)
theorem noP_holds : Rows.FnNodeToOpSaid :=
  OpenClaim.holds_of_wide 11 Try.f11 rfl rfl rfl rfl rfl rfl rfl ⟨rfl, rfl, rfl, rfl, rfl⟩ rfl rfl rfl rfl rfl noP_named Try.func11 noP_facts noP_inst noP_wrap
    (fun os started H enc _ => noP_lifted os started H enc)
#print axioms noP_holds
end Go.Proofs.Ytgfnmhfdmmnaoaa
