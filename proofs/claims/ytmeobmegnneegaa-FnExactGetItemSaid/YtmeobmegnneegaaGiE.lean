/-
  FnExactGetItem returns true whatever the arguments, and they read behind the call as they read before. No condition.
-/
import Derived.Test.YtmeobmegnneegaaGiD

namespace Go.Proofs.Ytmeobmegnneegaa
open Go.ChangeShapes Go.WideShapes Go.ChangeAt Go.RowKit

set_option maxRecDepth 100000 in
set_option maxHeartbeats 4000000 in
theorem getItem_lifted (os : Os) (started : os.Started) (H : Type) (enc : TypeId × Value → H) :
    ReturnsInHanded {} Try.checked os 13 .any (Rows.fnExactGetItemSpec.pre6 enc Try.prog Try.f13 Rows.fnExactGetItemRow.domain false) (Rows.fnExactGetItemSpec.post enc Try.prog Try.f13 false true false false) := by
  refine returnsInHanded_of_change (C := Try.checked) Try.own started (by kernel_rfl) Try.func13
    (ChangeSpec.witness6 (enc := enc) (C := Try.checked) false ⟨#[], #[.agg #[.slice none 0 0, .int .i64 0], .string ⟨#[]⟩], []⟩ 12 (by kernel_rfl) (by kernel_rfl) (by kernel_rfl) (by kernel_rfl)) ?_
  intro W base args ds gs before hval0 hW hcnd _
  have hval : ∀ (j : Nat) t v, Try.f13.params[j]? = some t → args[j]? = some v → Value.okWide Try.prog W .any base t v := hval0
  have hW' := hW
  obtain ⟨p, q, hA0, hV, rfl, hfz, hnd⟩ := hW
  have hA : DataW.TrodAll enc Try.prog W 0 (fun _ => true) true Try.f13.params.toList args.toList ds p := hA0
  rw [Try.params13] at hA hval
  obtain ⟨v0, v1, d0, d1, p0, p1, rfl, rfl, hp, h0, h1⟩ := trodAll_two hA
  obtain ⟨rfl, rfl⟩ := trodVars_none hV
  obtain ⟨cs0, rfl, _⟩ := okWide_struct Try.underlying24 (hval 0 24 v0 rfl rfl)
  obtain ⟨fuel0, h0⟩ := h0
  obtain ⟨x0, hx0⟩ := rv_sto h0
  obtain ⟨s1, rfl⟩ := okWide_string Try.underlying9 (hval 1 9 v1 rfl rfl)
  obtain ⟨fuel1, h1⟩ := h1
  have hs1 : s1.size ≤ big := rv_str h1
  refine (lawGetI_ok x0 s1 _ W hx0 hs1).mono fun e W' ⟨he, hg⟩ => ?_
  subst he
  refine ⟨_, rfl, post_grow rfl ?_ (by kernel_rfl) rfl hW' hg⟩
  intro t ht
  rw [Try.params13] at ht
  simp at ht
  rcases ht with rfl | rfl
  all_goals exact ⟨by kernel_rfl, of_decide_eq_true (by kernel_rfl)⟩

theorem getItem_named : Try.pinned.checked.prog.funcNamed Rows.fnExactGetItemRow.func = some 13 := by kernel_rfl
theorem getItem_k1 : Rows.fnExactGetItemRow.wf (OpenSpec.ofChange Rows.fnExactGetItemSpec) = true := by kernel_rfl
theorem getItem_k2 : laidOutB Try.pinned.checked.prog = true := by kernel_rfl
theorem getItem_k3 : mapsRowed Try.pinned.checked.prog = true := by kernel_rfl
theorem getItem_k4 : Try.f13.params.all (Try.pinned.checked.prog.readableRec ·) = true := by kernel_rfl
theorem getItem_k5 : namedTie Try.pinned.checked.prog Rows.fnExactGetItemRow.named Rows.fnExactGetItemSpec.vars = true := by kernel_rfl
theorem getItem_k6 : (Rows.fnExactGetItemRow.stops == []) = true := by kernel_rfl
theorem getItem_k7 : (Try.pinned.checked.prog.stops == []) = true := by kernel_rfl
theorem getItem_k8 : (Rows.fnExactGetItemRow.knobs == []) = true := by kernel_rfl
theorem getItem_k9 : (Try.pinned.checked.prog.stopKnobs == []) = true := by kernel_rfl
theorem getItem_k10 : (Rows.fnExactGetItemRow.inPlace == Try.pinned.checked.prog.inPlace 13) = true := by kernel_rfl
theorem getItem_k11 : (Rows.fnExactGetItemRow.unfollowed == Try.pinned.checked.prog.unfollowed 13) = true := by kernel_rfl
theorem getItem_k12 : (Rows.fnExactGetItemRow.recurses == Try.pinned.checked.prog.recurses 13) = true := by kernel_rfl
theorem getItem_k13 : (Rows.fnExactGetItemRow.named == Try.pinned.checked.prog.varsNamed 13) = true := by kernel_rfl
theorem getItem_k14 : (Rows.fnExactGetItemRow.maps == (Try.f13.params.toList ++ Rows.fnExactGetItemSpec.plain.varTypes Try.pinned.checked.prog).any (Try.pinned.checked.prog.mapsRec ·)) = true := by kernel_rfl
theorem getItem_k15 : (Rows.fnExactGetItemRow.ifaces == (Try.f13.params.toList ++ Rows.fnExactGetItemSpec.plain.varTypes Try.pinned.checked.prog).any (Try.pinned.checked.prog.ifacesRec ·)) = true := by kernel_rfl
theorem getItem_k16 : (Rows.fnExactGetItemRow.mapsOut == Try.pinned.checked.prog.mapsAmong Try.f13.resultTypes.toList) = true := by kernel_rfl
theorem getItem_k17 : (Rows.fnExactGetItemRow.loops == (Try.f13.params.toList ++ Rows.fnExactGetItemSpec.plain.varTypes Try.pinned.checked.prog).any (Try.pinned.checked.prog.loopsFrom ·)) = true := by kernel_rfl
theorem getItem_k18 : (Rows.fnExactGetItemRow.wideKeys == (Try.f13.params.toList ++ Rows.fnExactGetItemSpec.plain.varTypes Try.pinned.checked.prog ++ Try.f13.resultTypes.toList).any (Try.pinned.checked.prog.wideKeysFrom ·)) = true := by kernel_rfl
theorem getItem_k19 : Rows.fnExactGetItemSpec.vars.all (Try.pinned.checked.prog.varReadable ·) = true := by kernel_rfl
theorem getItem_k20 : Try.f13.resultTypes.all (fun t => Try.pinned.checked.prog.readableRec t && decide (t < Try.pinned.checked.prog.types.size)) = true := by kernel_rfl
theorem getItem_k21 : (Rows.fnExactGetItemRow.ifacesOut == Try.f13.resultTypes.toList.any (Try.pinned.checked.prog.ifacesRec ·)) = true := by kernel_rfl
theorem getItem_k22 : (Rows.fnExactGetItemRow.loopsOut == Try.f13.resultTypes.toList.any (Try.pinned.checked.prog.loopsFrom ·)) = true := by kernel_rfl
theorem getItem_k23 : (Rows.fnExactGetItemRow.plainKeys == Try.pinned.checked.prog.plainKeys) = true := by kernel_rfl
theorem getItem_k24 : Rows.fnExactGetItemRow.shortTexts.isNone = true := by kernel_rfl
theorem getItem_k25 : Try.pinned.checked.prog.stopsHeard = true := by kernel_rfl
theorem getItem_k26 : Try.pinned.checked.prog.mayEnter = true := io_enter
theorem getItem_k27 : (Rows.fnExactGetItemRow.lifted == Try.pinned.checked.prog.liftsFinal) = true := by
  show (false == Try.prog.liftsFinal) = true
  rw [io_lifts]; rfl
theorem getItem_k28 : (Try.pinned.checked.prog.make == some Rows.fnExactGetItemRow.make) = true := by
  show (Try.prog.make == some Make.cut) = true
  rw [io_make]; rfl
theorem getItem_k29 : (Rows.fnExactGetItemRow.kinds == (if Rows.fnExactGetItemRow.domain.isEmpty then [] else Try.f13.params.toList.map fun t => match Try.pinned.checked.prog.underlying t with | some (.int k) => some k | _ => none)) = true := by kernel_rfl
theorem getItem_k30 : (Rows.fnExactGetItemRow.pinned == Rows.fnExactGetItemRow.pinnedBy) = true := by kernel_rfl
theorem getItem_k31 : (Rows.fnExactGetItemRow.veiled == (Try.f13.params.toList ++ Rows.fnExactGetItemSpec.plain.varTypes Try.pinned.checked.prog ++ Try.f13.resultTypes.toList).any (Try.pinned.checked.prog.veiledRec ·)) = true := by kernel_rfl
theorem getItem_k32 : Rows.fnExactGetItemRow.veiledFits Try.pinned.checked.prog Try.f13.params.toList (Try.f13.params.toList ++ Rows.fnExactGetItemSpec.plain.varTypes Try.pinned.checked.prog ++ Try.f13.resultTypes.toList) = true := by kernel_rfl
set_option maxRecDepth 100000 in
theorem getItem_facts : joinedFacts Try.pinned.checked.prog 13 Try.f13 Rows.fnExactGetItemSpec Rows.fnExactGetItemRow = true := joined_mk getItem_k1 getItem_k2 getItem_k3 getItem_k4 getItem_k5 getItem_k6 getItem_k7 getItem_k8 getItem_k9 getItem_k10 getItem_k11 getItem_k12 getItem_k13 getItem_k14 getItem_k15 getItem_k16 getItem_k17 getItem_k18 getItem_k19 getItem_k20 getItem_k21 getItem_k22 getItem_k23 getItem_k24 getItem_k25 getItem_k26 getItem_k27 getItem_k28 getItem_k29 getItem_k30 getItem_k31 getItem_k32
theorem getItem_inst : (Try.f13).isInstance Try.pinned.checked.prog Rows.fnExactGetItemRow.origin Rows.fnExactGetItemRow.targs := of_decide_eq_true (by kernel_rfl)
theorem getItem_wrap : (Try.f13).isWrapper Try.pinned.checked.prog Rows.fnExactGetItemRow.wrapper Rows.fnExactGetItemRow.mainSum := by unfold Func.isWrapper; first | (rw [if_pos (by decide +kernel)]; kernel_rfl) | (rw [if_neg (by decide +kernel)]; exact ⟨rfl, rfl⟩)
theorem getItem_holds : Rows.FnExactGetItemSaid :=
  OpenClaim.holds_of_wide 13 Try.f13 rfl rfl rfl rfl rfl rfl rfl ⟨rfl, rfl, rfl, rfl, rfl⟩ rfl rfl rfl rfl rfl getItem_named Try.func13 getItem_facts getItem_inst getItem_wrap
    (fun os started H enc _ => getItem_lifted os started H enc)
#print axioms getItem_holds

end Go.Proofs.Ytmeobmegnneegaa
