/-
  FnExactFitsShape returns true whatever the shape and the node, and both read behind the call as they read before. No condition.
-/
import Derived.Test.YtchiakeceiefdaaLift
import Derived.Test.YtchiakeceiefdaaLawFits
import Derived.Test.YtchiakeceiefdaaOpenShape
namespace Go.Proofs.Ytchiakeceiefdaa
open Go.ChangeShapes Go.WideShapes Go.ChangeAt Go.RowKit

set_option maxRecDepth 100000 in
theorem fitsShape_lifted (os : Os) (started : os.Started) (H : Type) (enc : TypeId × Value → H) :
    ReturnsInHanded {} Try.checked os 5 .any (Rows.fnExactFitsShapeSpec.pre6 enc Try.prog Try.f5 Rows.fnExactFitsShapeRow.domain false) (Rows.fnExactFitsShapeSpec.post enc Try.prog Try.f5 false true false false) := by
  refine returnsInHanded_of_change (C := Try.checked) Try.own started (by kernel_rfl) Try.func5
    (ChangeSpec.witness6 (enc := enc) (C := Try.checked) false ⟨#[], #[.agg #[.int .i64 0, .slice none 0 0, .slice none 0 0, .slice none 0 0], .agg #[.int .i64 0, .int .i64 0, .string ⟨#[]⟩, .slice none 0 0, .slice none 0 0]], []⟩ 12 (by kernel_rfl) (by kernel_rfl) (by kernel_rfl) (by kernel_rfl)) ?_
  intro W base args ds gs before hval0 hW hcnd _
  have hval : ∀ (j : Nat) t v, Try.f5.params[j]? = some t → args[j]? = some v → Value.okWide Try.prog W .any base t v := hval0
  have hW' := hW
  obtain ⟨p, q, hA0, hV, rfl, hfz, hnd⟩ := hW
  have hA : DataW.TrodAll enc Try.prog W 0 (fun _ => true) true Try.f5.params.toList args.toList ds p := hA0
  rw [Try.params5] at hA hval
  obtain ⟨v0, v1, d0, d1, p0, p1, rfl, rfl, hp, h0, h1⟩ := trodAll_two hA
  obtain ⟨rfl, rfl⟩ := trodVars_none hV
  obtain ⟨cs0, rfl, _⟩ := okWide_struct Try.underlying56 (hval 0 56 v0 rfl rfl)
  obtain ⟨fuel0, h0⟩ := h0
  obtain ⟨n0, na0, nc0, ba0, bc0, ka0, kc0, hcs0, hr0⟩ := open_shape _ _ _ h0
  have hcs0' : cs0 = (shapeL' n0 na0 nc0 ba0 bc0 ka0 kc0).toArray := Array.toList_inj.1 hcs0
  subst hcs0'
  obtain ⟨cs1, rfl, _⟩ := okWide_struct Try.underlying59 (hval 1 59 v1 rfl rfl)
  obtain ⟨fuel1, h1⟩ := h1
  obtain ⟨n1, na1, nc1, ka1, kc1, hcs1, hr1⟩ := open_node _ _ _ h1
  have hcs1' : cs1 = (nodeL n1 na1 nc1 ka1 kc1).toArray := Array.toList_inj.1 hcs1
  subst hcs1'
  refine (lawFits_ok n0 n1 _ _ W ⟨na0, nc0, ba0, bc0, ka0, kc0, rfl, hr0⟩ ⟨na1, nc1, ka1, kc1, rfl, hr1⟩).mono fun e W' ⟨he, hg⟩ => ?_
  subst he
  refine ⟨_, rfl, post_grow rfl ?_ (by kernel_rfl) rfl hW' hg⟩
  intro t ht
  rw [Try.params5] at ht
  simp at ht
  rcases ht with rfl | rfl
  all_goals exact ⟨by kernel_rfl, of_decide_eq_true (by kernel_rfl)⟩

theorem fitsShape_holds : Rows.FnExactFitsShapeSaid :=
  OpenClaim.holds_of_wide 5 Try.f5 rfl rfl rfl rfl rfl rfl rfl ⟨rfl, rfl, rfl, rfl, rfl⟩ rfl rfl rfl rfl rfl (by kernel_rfl) Try.func5 (by kernel_rfl)
    (of_decide_eq_true (by kernel_rfl)) (by unfold Func.isWrapper; first | (rw [if_pos (by decide +kernel)]; kernel_rfl) | (rw [if_neg (by decide +kernel)]; exact ⟨rfl, rfl⟩))
    (fun os started H enc _ => fitsShape_lifted os started H enc)
#print axioms fitsShape_holds

end Go.Proofs.Ytchiakeceiefdaa
