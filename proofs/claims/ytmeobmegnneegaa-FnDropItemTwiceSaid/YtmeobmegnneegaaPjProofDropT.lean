/-
  FnDropItemTwice returns true whatever the bytes, and they read behind the call as they read before. No condition.
-/
import Derived.Test.YtmeobmegnneegaaPjJ

set_option linter.unusedSimpArgs false
set_option linter.unusedVariables false
namespace Go.Proofs.Ytmeobmegnneegaa
open Go.ChangeShapes Go.WideShapes Go.ChangeAt Go.RowKit
set_option maxRecDepth 100000 in
set_option maxHeartbeats 4000000 in
theorem dropTw_lifted (os : Os) (started : os.Started) (H : Type) (enc : TypeId × Value → H) :
    ReturnsInHanded {} Try.checked os 14 .any (Rows.fnDropItemTwiceSpec.pre6 enc Try.prog Try.f14 Rows.fnDropItemTwiceRow.domain false) (Rows.fnDropItemTwiceSpec.post enc Try.prog Try.f14 false true false false) := by
  refine returnsInHanded_of_change (C := Try.checked) Try.own started (by kernel_rfl) Try.func14
    (ChangeSpec.witness6 (enc := enc) (C := Try.checked) false ⟨#[], #[.slice none 0 0], []⟩ 12 (by kernel_rfl) (by kernel_rfl) (by kernel_rfl) (by kernel_rfl)) ?_
  intro W base args ds gs before hval0 hW hcnd _
  have hval : ∀ (j : Nat) t v, Try.f14.params[j]? = some t → args[j]? = some v → Value.okWide Try.prog W .any base t v := hval0
  have hW' := hW
  obtain ⟨p, q, hA0, hV, rfl, hfz, hnd⟩ := hW
  have hA : DataW.TrodAll enc Try.prog W 0 (fun _ => true) true Try.f14.params.toList args.toList ds p := hA0
  rw [Try.params14] at hA hval
  obtain ⟨v0, d0, rfl, rfl, h0⟩ := trodAll_one hA
  obtain ⟨rfl, rfl⟩ := trodVars_none hV
  obtain ⟨qa0, ql0, qc0, rfl⟩ := okWide_slice Try.underlying46 (hval 0 46 v0 rfl rfl)
  obtain ⟨fuel0, h0⟩ := h0
  obtain ⟨x0, hx0⟩ := rv_bytes h0
  refine (law_bytes (Eng.lawDropItemTwice_AC0 x0) W hx0).mono fun e W' ⟨he, hg⟩ => ?_
  subst he
  refine ⟨_, rfl, post_grow rfl ?_ (by kernel_rfl) rfl hW' hg⟩
  intro t ht
  rw [Try.params14] at ht
  simp at ht
  subst ht
  exact ⟨by kernel_rfl, of_decide_eq_true (by kernel_rfl)⟩
theorem dropTw_named : Try.pinned.checked.prog.funcNamed Rows.fnDropItemTwiceRow.func = some 14 := by kernel_rfl
theorem dropTw_k1 : Rows.fnDropItemTwiceRow.wf (OpenSpec.ofChange Rows.fnDropItemTwiceSpec) = true := by kernel_rfl
theorem dropTw_k2 : laidOutB Try.pinned.checked.prog = true := by kernel_rfl
theorem dropTw_k3 : mapsRowed Try.pinned.checked.prog = true := by kernel_rfl
theorem dropTw_k4 : Try.f14.params.all (Try.pinned.checked.prog.readableRec ·) = true := by kernel_rfl
theorem dropTw_k5 : namedTie Try.pinned.checked.prog Rows.fnDropItemTwiceRow.named Rows.fnDropItemTwiceSpec.vars = true := by kernel_rfl
theorem dropTw_k6 : (Rows.fnDropItemTwiceRow.stops == []) = true := by kernel_rfl
theorem dropTw_k7 : (Try.pinned.checked.prog.stops == []) = true := by kernel_rfl
theorem dropTw_k8 : (Rows.fnDropItemTwiceRow.knobs == []) = true := by kernel_rfl
theorem dropTw_k9 : (Try.pinned.checked.prog.stopKnobs == []) = true := by kernel_rfl
theorem dropTw_k10 : (Rows.fnDropItemTwiceRow.inPlace == Try.pinned.checked.prog.inPlace 14) = true := by kernel_rfl
theorem dropTw_k11 : (Rows.fnDropItemTwiceRow.unfollowed == Try.pinned.checked.prog.unfollowed 14) = true := by kernel_rfl
theorem dropTw_k12 : (Rows.fnDropItemTwiceRow.recurses == Try.pinned.checked.prog.recurses 14) = true := by kernel_rfl
theorem dropTw_k13 : (Rows.fnDropItemTwiceRow.named == Try.pinned.checked.prog.varsNamed 14) = true := by kernel_rfl
theorem dropTw_k14 : (Rows.fnDropItemTwiceRow.maps == (Try.f14.params.toList ++ Rows.fnDropItemTwiceSpec.plain.varTypes Try.pinned.checked.prog).any (Try.pinned.checked.prog.mapsRec ·)) = true := by kernel_rfl
theorem dropTw_k15 : (Rows.fnDropItemTwiceRow.ifaces == (Try.f14.params.toList ++ Rows.fnDropItemTwiceSpec.plain.varTypes Try.pinned.checked.prog).any (Try.pinned.checked.prog.ifacesRec ·)) = true := by kernel_rfl
theorem dropTw_k16 : (Rows.fnDropItemTwiceRow.mapsOut == Try.pinned.checked.prog.mapsAmong Try.f14.resultTypes.toList) = true := by kernel_rfl
theorem dropTw_k17 : (Rows.fnDropItemTwiceRow.loops == (Try.f14.params.toList ++ Rows.fnDropItemTwiceSpec.plain.varTypes Try.pinned.checked.prog).any (Try.pinned.checked.prog.loopsFrom ·)) = true := by kernel_rfl
theorem dropTw_k18 : (Rows.fnDropItemTwiceRow.wideKeys == (Try.f14.params.toList ++ Rows.fnDropItemTwiceSpec.plain.varTypes Try.pinned.checked.prog ++ Try.f14.resultTypes.toList).any (Try.pinned.checked.prog.wideKeysFrom ·)) = true := by kernel_rfl
theorem dropTw_k19 : Rows.fnDropItemTwiceSpec.vars.all (Try.pinned.checked.prog.varReadable ·) = true := by kernel_rfl
theorem dropTw_k20 : Try.f14.resultTypes.all (fun t => Try.pinned.checked.prog.readableRec t && decide (t < Try.pinned.checked.prog.types.size)) = true := by kernel_rfl
theorem dropTw_k21 : (Rows.fnDropItemTwiceRow.ifacesOut == Try.f14.resultTypes.toList.any (Try.pinned.checked.prog.ifacesRec ·)) = true := by kernel_rfl
theorem dropTw_k22 : (Rows.fnDropItemTwiceRow.loopsOut == Try.f14.resultTypes.toList.any (Try.pinned.checked.prog.loopsFrom ·)) = true := by kernel_rfl
theorem dropTw_k23 : (Rows.fnDropItemTwiceRow.plainKeys == Try.pinned.checked.prog.plainKeys) = true := by kernel_rfl
theorem dropTw_k24 : Rows.fnDropItemTwiceRow.shortTexts.isNone = true := by kernel_rfl
theorem dropTw_k25 : Try.pinned.checked.prog.stopsHeard = true := by kernel_rfl
theorem dropTw_k26 : Try.pinned.checked.prog.mayEnter = true := io_enter
theorem dropTw_k27 : (Rows.fnDropItemTwiceRow.lifted == Try.pinned.checked.prog.liftsFinal) = true := by
  show (false == Try.prog.liftsFinal) = true
  rw [io_lifts]; rfl
theorem dropTw_k28 : (Try.pinned.checked.prog.make == some Rows.fnDropItemTwiceRow.make) = true := by
  show (Try.prog.make == some Make.cut) = true
  rw [io_make]; rfl
theorem dropTw_k29 : (Rows.fnDropItemTwiceRow.kinds == (if Rows.fnDropItemTwiceRow.domain.isEmpty then [] else Try.f14.params.toList.map fun t => match Try.pinned.checked.prog.underlying t with | some (.int k) => some k | _ => none)) = true := by kernel_rfl
theorem dropTw_k30 : (Rows.fnDropItemTwiceRow.pinned == Rows.fnDropItemTwiceRow.pinnedBy) = true := by kernel_rfl
theorem dropTw_k31 : (Rows.fnDropItemTwiceRow.veiled == (Try.f14.params.toList ++ Rows.fnDropItemTwiceSpec.plain.varTypes Try.pinned.checked.prog ++ Try.f14.resultTypes.toList).any (Try.pinned.checked.prog.veiledRec ·)) = true := by kernel_rfl
theorem dropTw_k32 : Rows.fnDropItemTwiceRow.veiledFits Try.pinned.checked.prog Try.f14.params.toList (Try.f14.params.toList ++ Rows.fnDropItemTwiceSpec.plain.varTypes Try.pinned.checked.prog ++ Try.f14.resultTypes.toList) = true := by kernel_rfl
set_option maxRecDepth 100000 in
theorem dropTw_facts : joinedFacts Try.pinned.checked.prog 14 Try.f14 Rows.fnDropItemTwiceSpec Rows.fnDropItemTwiceRow = true := joined_mk dropTw_k1 dropTw_k2 dropTw_k3 dropTw_k4 dropTw_k5 dropTw_k6 dropTw_k7 dropTw_k8 dropTw_k9 dropTw_k10 dropTw_k11 dropTw_k12 dropTw_k13 dropTw_k14 dropTw_k15 dropTw_k16 dropTw_k17 dropTw_k18 dropTw_k19 dropTw_k20 dropTw_k21 dropTw_k22 dropTw_k23 dropTw_k24 dropTw_k25 dropTw_k26 dropTw_k27 dropTw_k28 dropTw_k29 dropTw_k30 dropTw_k31 dropTw_k32
theorem dropTw_inst : (Try.f14).isInstance Try.pinned.checked.prog Rows.fnDropItemTwiceRow.origin Rows.fnDropItemTwiceRow.targs := of_decide_eq_true (by kernel_rfl)
theorem dropTw_wrap : (Try.f14).isWrapper Try.pinned.checked.prog Rows.fnDropItemTwiceRow.wrapper Rows.fnDropItemTwiceRow.mainSum := by unfold Func.isWrapper; first | (rw [if_pos (by decide +kernel)]; kernel_rfl) | (rw [if_neg (by decide +kernel)]; exact ⟨rfl, rfl⟩)
theorem dropTw_holds : Rows.FnDropItemTwiceSaid :=
  OpenClaim.holds_of_wide 14 Try.f14 rfl rfl rfl rfl rfl rfl rfl ⟨rfl, rfl, rfl, rfl, rfl⟩ rfl rfl rfl rfl rfl dropTw_named Try.func14 dropTw_facts dropTw_inst dropTw_wrap
    (fun os started H enc _ => dropTw_lifted os started H enc)
#print axioms dropTw_holds
end Go.Proofs.Ytmeobmegnneegaa
