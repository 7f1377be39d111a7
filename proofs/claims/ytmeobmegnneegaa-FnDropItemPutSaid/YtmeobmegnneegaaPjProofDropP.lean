/-
  FnDropItemPut returns true whatever the bytes, and they read behind the call as they read before. No condition.
-/
import Derived.Test.YtmeobmegnneegaaPjJ

set_option linter.unusedSimpArgs false
set_option linter.unusedVariables false
namespace Go.Proofs.Ytmeobmegnneegaa
open Go.ChangeShapes Go.WideShapes Go.ChangeAt Go.RowKit
set_option maxRecDepth 100000 in
set_option maxHeartbeats 4000000 in
theorem dropPu_lifted (os : Os) (started : os.Started) (H : Type) (enc : TypeId × Value → H) :
    ReturnsInHanded {} Try.checked os 21 .any (Rows.fnDropItemPutSpec.pre6 enc Try.prog Try.f21 Rows.fnDropItemPutRow.domain false) (Rows.fnDropItemPutSpec.post enc Try.prog Try.f21 false true false false) := by
  refine returnsInHanded_of_change (C := Try.checked) Try.own started (by kernel_rfl) Try.func21
    (ChangeSpec.witness6 (enc := enc) (C := Try.checked) false ⟨#[], #[.slice none 0 0], []⟩ 12 (by kernel_rfl) (by kernel_rfl) (by kernel_rfl) (by kernel_rfl)) ?_
  intro W base args ds gs before hval0 hW hcnd _
  have hval : ∀ (j : Nat) t v, Try.f21.params[j]? = some t → args[j]? = some v → Value.okWide Try.prog W .any base t v := hval0
  have hW' := hW
  obtain ⟨p, q, hA0, hV, rfl, hfz, hnd⟩ := hW
  have hA : DataW.TrodAll enc Try.prog W 0 (fun _ => true) true Try.f21.params.toList args.toList ds p := hA0
  rw [Try.params21] at hA hval
  obtain ⟨v0, d0, rfl, rfl, h0⟩ := trodAll_one hA
  obtain ⟨rfl, rfl⟩ := trodVars_none hV
  obtain ⟨qa0, ql0, qc0, rfl⟩ := okWide_slice Try.underlying46 (hval 0 46 v0 rfl rfl)
  obtain ⟨fuel0, h0⟩ := h0
  obtain ⟨x0, hx0⟩ := rv_bytes h0
  refine (law_bytes (Eng.lawDropItemPut_AC0 x0) W hx0).mono fun e W' ⟨he, hg⟩ => ?_
  subst he
  refine ⟨_, rfl, post_grow rfl ?_ (by kernel_rfl) rfl hW' hg⟩
  intro t ht
  rw [Try.params21] at ht
  simp at ht
  subst ht
  exact ⟨by kernel_rfl, of_decide_eq_true (by kernel_rfl)⟩
theorem dropPu_named : Try.pinned.checked.prog.funcNamed Rows.fnDropItemPutRow.func = some 21 := by kernel_rfl
theorem dropPu_k1 : Rows.fnDropItemPutRow.wf (OpenSpec.ofChange Rows.fnDropItemPutSpec) = true := by kernel_rfl
theorem dropPu_k2 : laidOutB Try.pinned.checked.prog = true := by kernel_rfl
theorem dropPu_k3 : mapsRowed Try.pinned.checked.prog = true := by kernel_rfl
theorem dropPu_k4 : Try.f21.params.all (Try.pinned.checked.prog.readableRec ·) = true := by kernel_rfl
theorem dropPu_k5 : namedTie Try.pinned.checked.prog Rows.fnDropItemPutRow.named Rows.fnDropItemPutSpec.vars = true := by kernel_rfl
theorem dropPu_k6 : (Rows.fnDropItemPutRow.stops == []) = true := by kernel_rfl
theorem dropPu_k7 : (Try.pinned.checked.prog.stops == []) = true := by kernel_rfl
theorem dropPu_k8 : (Rows.fnDropItemPutRow.knobs == []) = true := by kernel_rfl
theorem dropPu_k9 : (Try.pinned.checked.prog.stopKnobs == []) = true := by kernel_rfl
theorem dropPu_k10 : (Rows.fnDropItemPutRow.inPlace == Try.pinned.checked.prog.inPlace 21) = true := by kernel_rfl
theorem dropPu_k11 : (Rows.fnDropItemPutRow.unfollowed == Try.pinned.checked.prog.unfollowed 21) = true := by kernel_rfl
theorem dropPu_k12 : (Rows.fnDropItemPutRow.recurses == Try.pinned.checked.prog.recurses 21) = true := by kernel_rfl
theorem dropPu_k13 : (Rows.fnDropItemPutRow.named == Try.pinned.checked.prog.varsNamed 21) = true := by kernel_rfl
theorem dropPu_k14 : (Rows.fnDropItemPutRow.maps == (Try.f21.params.toList ++ Rows.fnDropItemPutSpec.plain.varTypes Try.pinned.checked.prog).any (Try.pinned.checked.prog.mapsRec ·)) = true := by kernel_rfl
theorem dropPu_k15 : (Rows.fnDropItemPutRow.ifaces == (Try.f21.params.toList ++ Rows.fnDropItemPutSpec.plain.varTypes Try.pinned.checked.prog).any (Try.pinned.checked.prog.ifacesRec ·)) = true := by kernel_rfl
theorem dropPu_k16 : (Rows.fnDropItemPutRow.mapsOut == Try.pinned.checked.prog.mapsAmong Try.f21.resultTypes.toList) = true := by kernel_rfl
theorem dropPu_k17 : (Rows.fnDropItemPutRow.loops == (Try.f21.params.toList ++ Rows.fnDropItemPutSpec.plain.varTypes Try.pinned.checked.prog).any (Try.pinned.checked.prog.loopsFrom ·)) = true := by kernel_rfl
theorem dropPu_k18 : (Rows.fnDropItemPutRow.wideKeys == (Try.f21.params.toList ++ Rows.fnDropItemPutSpec.plain.varTypes Try.pinned.checked.prog ++ Try.f21.resultTypes.toList).any (Try.pinned.checked.prog.wideKeysFrom ·)) = true := by kernel_rfl
theorem dropPu_k19 : Rows.fnDropItemPutSpec.vars.all (Try.pinned.checked.prog.varReadable ·) = true := by kernel_rfl
theorem dropPu_k20 : Try.f21.resultTypes.all (fun t => Try.pinned.checked.prog.readableRec t && decide (t < Try.pinned.checked.prog.types.size)) = true := by kernel_rfl
theorem dropPu_k21 : (Rows.fnDropItemPutRow.ifacesOut == Try.f21.resultTypes.toList.any (Try.pinned.checked.prog.ifacesRec ·)) = true := by kernel_rfl
theorem dropPu_k22 : (Rows.fnDropItemPutRow.loopsOut == Try.f21.resultTypes.toList.any (Try.pinned.checked.prog.loopsFrom ·)) = true := by kernel_rfl
theorem dropPu_k23 : (Rows.fnDropItemPutRow.plainKeys == Try.pinned.checked.prog.plainKeys) = true := by kernel_rfl
theorem dropPu_k24 : Rows.fnDropItemPutRow.shortTexts.isNone = true := by kernel_rfl
theorem dropPu_k25 : Try.pinned.checked.prog.stopsHeard = true := by kernel_rfl
theorem dropPu_k26 : Try.pinned.checked.prog.mayEnter = true := io_enter
theorem dropPu_k27 : (Rows.fnDropItemPutRow.lifted == Try.pinned.checked.prog.liftsFinal) = true := by
  show (false == Try.prog.liftsFinal) = true
  rw [io_lifts]; rfl
theorem dropPu_k28 : (Try.pinned.checked.prog.make == some Rows.fnDropItemPutRow.make) = true := by
  show (Try.prog.make == some Make.cut) = true
  rw [io_make]; rfl
theorem dropPu_k29 : (Rows.fnDropItemPutRow.kinds == (if Rows.fnDropItemPutRow.domain.isEmpty then [] else Try.f21.params.toList.map fun t => match Try.pinned.checked.prog.underlying t with | some (.int k) => some k | _ => none)) = true := by kernel_rfl
theorem dropPu_k30 : (Rows.fnDropItemPutRow.pinned == Rows.fnDropItemPutRow.pinnedBy) = true := by kernel_rfl
theorem dropPu_k31 : (Rows.fnDropItemPutRow.veiled == (Try.f21.params.toList ++ Rows.fnDropItemPutSpec.plain.varTypes Try.pinned.checked.prog ++ Try.f21.resultTypes.toList).any (Try.pinned.checked.prog.veiledRec ·)) = true := by kernel_rfl
theorem dropPu_k32 : Rows.fnDropItemPutRow.veiledFits Try.pinned.checked.prog Try.f21.params.toList (Try.f21.params.toList ++ Rows.fnDropItemPutSpec.plain.varTypes Try.pinned.checked.prog ++ Try.f21.resultTypes.toList) = true := by kernel_rfl
set_option maxRecDepth 100000 in
theorem dropPu_facts : joinedFacts Try.pinned.checked.prog 21 Try.f21 Rows.fnDropItemPutSpec Rows.fnDropItemPutRow = true := joined_mk dropPu_k1 dropPu_k2 dropPu_k3 dropPu_k4 dropPu_k5 dropPu_k6 dropPu_k7 dropPu_k8 dropPu_k9 dropPu_k10 dropPu_k11 dropPu_k12 dropPu_k13 dropPu_k14 dropPu_k15 dropPu_k16 dropPu_k17 dropPu_k18 dropPu_k19 dropPu_k20 dropPu_k21 dropPu_k22 dropPu_k23 dropPu_k24 dropPu_k25 dropPu_k26 dropPu_k27 dropPu_k28 dropPu_k29 dropPu_k30 dropPu_k31 dropPu_k32
theorem dropPu_inst : (Try.f21).isInstance Try.pinned.checked.prog Rows.fnDropItemPutRow.origin Rows.fnDropItemPutRow.targs := of_decide_eq_true (by kernel_rfl)
theorem dropPu_wrap : (Try.f21).isWrapper Try.pinned.checked.prog Rows.fnDropItemPutRow.wrapper Rows.fnDropItemPutRow.mainSum := by unfold Func.isWrapper; first | (rw [if_pos (by decide +kernel)]; kernel_rfl) | (rw [if_neg (by decide +kernel)]; exact ⟨rfl, rfl⟩)
theorem dropPu_holds : Rows.FnDropItemPutSaid :=
  OpenClaim.holds_of_wide 21 Try.f21 rfl rfl rfl rfl rfl rfl rfl ⟨rfl, rfl, rfl, rfl, rfl⟩ rfl rfl rfl rfl rfl dropPu_named Try.func21 dropPu_facts dropPu_inst dropPu_wrap
    (fun os started H enc _ => dropPu_lifted os started H enc)
#print axioms dropPu_holds
end Go.Proofs.Ytmeobmegnneegaa
