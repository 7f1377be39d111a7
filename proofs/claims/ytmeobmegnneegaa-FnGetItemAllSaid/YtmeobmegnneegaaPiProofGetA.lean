/-
  FnGetItemAll returns true whatever the bytes, and they read behind the call as they read before. No condition.
-/
import Derived.Test.YtmeobmegnneegaaPiI

set_option linter.unusedSimpArgs false
set_option linter.unusedVariables false

namespace Go.Proofs.Ytmeobmegnneegaa
open Go.ChangeShapes Go.WideShapes Go.ChangeAt Go.RowKit

set_option maxRecDepth 100000 in
set_option maxHeartbeats 4000000 in
theorem getA_lifted (os : Os) (started : os.Started) (H : Type) (enc : TypeId × Value → H) :
    ReturnsInHanded {} Try.checked os 10 .any (Rows.fnGetItemAllSpec.pre6 enc Try.prog Try.f10 Rows.fnGetItemAllRow.domain false) (Rows.fnGetItemAllSpec.post enc Try.prog Try.f10 false true false false) := by
  refine returnsInHanded_of_change (C := Try.checked) Try.own started (by kernel_rfl) Try.func10
    (ChangeSpec.witness6 (enc := enc) (C := Try.checked) false ⟨#[], #[.slice none 0 0], []⟩ 12 (by kernel_rfl) (by kernel_rfl) (by kernel_rfl) (by kernel_rfl)) ?_
  intro W base args ds gs before hval0 hW hcnd _
  have hval : ∀ (j : Nat) t v, Try.f10.params[j]? = some t → args[j]? = some v → Value.okWide Try.prog W .any base t v := hval0
  have hW' := hW
  obtain ⟨p, q, hA0, hV, rfl, hfz, hnd⟩ := hW
  have hA : DataW.TrodAll enc Try.prog W 0 (fun _ => true) true Try.f10.params.toList args.toList ds p := hA0
  rw [Try.params10] at hA hval
  obtain ⟨v0, d0, rfl, rfl, h0⟩ := trodAll_one hA
  obtain ⟨rfl, rfl⟩ := trodVars_none hV
  obtain ⟨qa0, ql0, qc0, rfl⟩ := okWide_slice Try.underlying46 (hval 0 46 v0 rfl rfl)
  obtain ⟨fuel0, h0⟩ := h0
  obtain ⟨x0, hx0⟩ := rv_bytes h0
  refine (law_bytes (Eng.lawGetItemAll_AC0 x0) W hx0).mono fun e W' ⟨he, hg⟩ => ?_
  subst he
  refine ⟨_, rfl, post_grow rfl ?_ (by kernel_rfl) rfl hW' hg⟩
  intro t ht
  rw [Try.params10] at ht
  simp at ht
  subst ht
  exact ⟨by kernel_rfl, of_decide_eq_true (by kernel_rfl)⟩

theorem getA_named : Try.pinned.checked.prog.funcNamed Rows.fnGetItemAllRow.func = some 10 := by kernel_rfl
theorem getA_k1 : Rows.fnGetItemAllRow.wf (OpenSpec.ofChange Rows.fnGetItemAllSpec) = true := by kernel_rfl
theorem getA_k2 : laidOutB Try.pinned.checked.prog = true := by kernel_rfl
theorem getA_k3 : mapsRowed Try.pinned.checked.prog = true := by kernel_rfl
theorem getA_k4 : Try.f10.params.all (Try.pinned.checked.prog.readableRec ·) = true := by kernel_rfl
theorem getA_k5 : namedTie Try.pinned.checked.prog Rows.fnGetItemAllRow.named Rows.fnGetItemAllSpec.vars = true := by kernel_rfl
theorem getA_k6 : (Rows.fnGetItemAllRow.stops == []) = true := by kernel_rfl
theorem getA_k7 : (Try.pinned.checked.prog.stops == []) = true := by kernel_rfl
theorem getA_k8 : (Rows.fnGetItemAllRow.knobs == []) = true := by kernel_rfl
theorem getA_k9 : (Try.pinned.checked.prog.stopKnobs == []) = true := by kernel_rfl
theorem getA_k10 : (Rows.fnGetItemAllRow.inPlace == Try.pinned.checked.prog.inPlace 10) = true := by kernel_rfl
theorem getA_k11 : (Rows.fnGetItemAllRow.unfollowed == Try.pinned.checked.prog.unfollowed 10) = true := by kernel_rfl
theorem getA_k12 : (Rows.fnGetItemAllRow.recurses == Try.pinned.checked.prog.recurses 10) = true := by kernel_rfl
theorem getA_k13 : (Rows.fnGetItemAllRow.named == Try.pinned.checked.prog.varsNamed 10) = true := by kernel_rfl
theorem getA_k14 : (Rows.fnGetItemAllRow.maps == (Try.f10.params.toList ++ Rows.fnGetItemAllSpec.plain.varTypes Try.pinned.checked.prog).any (Try.pinned.checked.prog.mapsRec ·)) = true := by kernel_rfl
theorem getA_k15 : (Rows.fnGetItemAllRow.ifaces == (Try.f10.params.toList ++ Rows.fnGetItemAllSpec.plain.varTypes Try.pinned.checked.prog).any (Try.pinned.checked.prog.ifacesRec ·)) = true := by kernel_rfl
theorem getA_k16 : (Rows.fnGetItemAllRow.mapsOut == Try.pinned.checked.prog.mapsAmong Try.f10.resultTypes.toList) = true := by kernel_rfl
theorem getA_k17 : (Rows.fnGetItemAllRow.loops == (Try.f10.params.toList ++ Rows.fnGetItemAllSpec.plain.varTypes Try.pinned.checked.prog).any (Try.pinned.checked.prog.loopsFrom ·)) = true := by kernel_rfl
theorem getA_k18 : (Rows.fnGetItemAllRow.wideKeys == (Try.f10.params.toList ++ Rows.fnGetItemAllSpec.plain.varTypes Try.pinned.checked.prog ++ Try.f10.resultTypes.toList).any (Try.pinned.checked.prog.wideKeysFrom ·)) = true := by kernel_rfl
theorem getA_k19 : Rows.fnGetItemAllSpec.vars.all (Try.pinned.checked.prog.varReadable ·) = true := by kernel_rfl
theorem getA_k20 : Try.f10.resultTypes.all (fun t => Try.pinned.checked.prog.readableRec t && decide (t < Try.pinned.checked.prog.types.size)) = true := by kernel_rfl
theorem getA_k21 : (Rows.fnGetItemAllRow.ifacesOut == Try.f10.resultTypes.toList.any (Try.pinned.checked.prog.ifacesRec ·)) = true := by kernel_rfl
theorem getA_k22 : (Rows.fnGetItemAllRow.loopsOut == Try.f10.resultTypes.toList.any (Try.pinned.checked.prog.loopsFrom ·)) = true := by kernel_rfl
theorem getA_k23 : (Rows.fnGetItemAllRow.plainKeys == Try.pinned.checked.prog.plainKeys) = true := by kernel_rfl
theorem getA_k24 : Rows.fnGetItemAllRow.shortTexts.isNone = true := by kernel_rfl
theorem getA_k25 : Try.pinned.checked.prog.stopsHeard = true := by kernel_rfl
theorem getA_k26 : Try.pinned.checked.prog.mayEnter = true := io_enter
theorem getA_k27 : (Rows.fnGetItemAllRow.lifted == Try.pinned.checked.prog.liftsFinal) = true := by
  show (false == Try.prog.liftsFinal) = true
  rw [io_lifts]; rfl
theorem getA_k28 : (Try.pinned.checked.prog.make == some Rows.fnGetItemAllRow.make) = true := by
  show (Try.prog.make == some Make.cut) = true
  rw [io_make]; rfl
theorem getA_k29 : (Rows.fnGetItemAllRow.kinds == (if Rows.fnGetItemAllRow.domain.isEmpty then [] else Try.f10.params.toList.map fun t => match Try.pinned.checked.prog.underlying t with | some (.int k) => some k | _ => none)) = true := by kernel_rfl
theorem getA_k30 : (Rows.fnGetItemAllRow.pinned == Rows.fnGetItemAllRow.pinnedBy) = true := by kernel_rfl
theorem getA_k31 : (Rows.fnGetItemAllRow.veiled == (Try.f10.params.toList ++ Rows.fnGetItemAllSpec.plain.varTypes Try.pinned.checked.prog ++ Try.f10.resultTypes.toList).any (Try.pinned.checked.prog.veiledRec ·)) = true := by kernel_rfl
theorem getA_k32 : Rows.fnGetItemAllRow.veiledFits Try.pinned.checked.prog Try.f10.params.toList (Try.f10.params.toList ++ Rows.fnGetItemAllSpec.plain.varTypes Try.pinned.checked.prog ++ Try.f10.resultTypes.toList) = true := by kernel_rfl
set_option maxRecDepth 100000 in
theorem getA_facts : joinedFacts Try.pinned.checked.prog 10 Try.f10 Rows.fnGetItemAllSpec Rows.fnGetItemAllRow = true := joined_mk getA_k1 getA_k2 getA_k3 getA_k4 getA_k5 getA_k6 getA_k7 getA_k8 getA_k9 getA_k10 getA_k11 getA_k12 getA_k13 getA_k14 getA_k15 getA_k16 getA_k17 getA_k18 getA_k19 getA_k20 getA_k21 getA_k22 getA_k23 getA_k24 getA_k25 getA_k26 getA_k27 getA_k28 getA_k29 getA_k30 getA_k31 getA_k32
theorem getA_inst : (Try.f10).isInstance Try.pinned.checked.prog Rows.fnGetItemAllRow.origin Rows.fnGetItemAllRow.targs := of_decide_eq_true (by kernel_rfl)
theorem getA_wrap : (Try.f10).isWrapper Try.pinned.checked.prog Rows.fnGetItemAllRow.wrapper Rows.fnGetItemAllRow.mainSum := by unfold Func.isWrapper; first | (rw [if_pos (by decide +kernel)]; kernel_rfl) | (rw [if_neg (by decide +kernel)]; exact ⟨rfl, rfl⟩)
theorem getA_holds : Rows.FnGetItemAllSaid :=
  OpenClaim.holds_of_wide 10 Try.f10 rfl rfl rfl rfl rfl rfl rfl ⟨rfl, rfl, rfl, rfl, rfl⟩ rfl rfl rfl rfl rfl getA_named Try.func10 getA_facts getA_inst getA_wrap
    (fun os started H enc _ => getA_lifted os started H enc)
#print axioms getA_holds

end Go.Proofs.Ytmeobmegnneegaa
