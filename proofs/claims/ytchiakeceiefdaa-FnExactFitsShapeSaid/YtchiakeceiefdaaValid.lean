/-
  The walks of ValidNode, NodeCount, NodeDepth, and of the reference's validNode.
-/
import Derived.Test.YtchiakeceiefdaaMeasure
namespace Go.Proofs.Ytchiakeceiefdaa
open Go.RowKit

/-- A valid node. -/
def validB (n : Nd) : Bool := shapeB n 5 && decide (n.count ≤ 40)

set_option maxHeartbeats 400000 in
theorem ValidNode_ok (n : Nd) (v : Value) (w : World) (hn : NodeR w any n v) :
    Calls Try.prog 14 #[v] w fun e w' => e = .returned (.bool (validB n)) ∧ Grow w w' := by
  have Hn := Lib.hid hn
  obtain ⟨na, nc, ka, kc, rfl, hc⟩ := hn
  clear hc
  unfold nodeV at *
  cases hs : shapeB n 5
  · have Hf := Lib.hid (measV_no hs)
    have Hv : Hid (validB n = false) := Lib.hid (by simp [validB, hs])
    clear hs
    go_enter Try.func14, Try.ntmps14
    go_wp2_with (go_at_call 61; refine (measureNode_ok n 5 _ _ _ (by omega) (by omega) ((Hn.out).ext ((Ext.refl nil w).alloc _) (fun _ _ h => h))).mono ?_; rintro e w2 ⟨rfl, hg2⟩; simp only [Hf.out])
    go_ret
    exact ⟨by simp [Hv.out], (by repeat (first | with_reducible exact Ext.refl _ _ | with_reducible refine Ext.trans ?_ (by assumption) | with_reducible refine Ext.drew ?_ | with_reducible refine Ext.drewN ?_ _ | with_reducible refine Ext.alloc ?_ _ | with_reducible refine Ext.setNew ?_ (by simp; done) _ | with_reducible refine Ext.setNew ?_ (by simp; omega) _))⟩
  · have Hf := Lib.hid (measV_yes hs)
    have Hv : Hid (validB n = decide (n.count ≤ 40)) := Lib.hid (by simp [validB, hs])
    clear hs
    go_enter Try.func14, Try.ntmps14
    go_wp2_with (go_at_call 61; refine (measureNode_ok n 5 _ _ _ (by omega) (by omega) ((Hn.out).ext ((Ext.refl nil w).alloc _) (fun _ _ h => h))).mono ?_; rintro e w2 ⟨rfl, hg2⟩; simp only [Hf.out])
    all_goals go_ret
    all_goals exact ⟨by rw [Hv.out]; simp; omega, (by repeat (first | with_reducible exact Ext.refl _ _ | with_reducible refine Ext.trans ?_ (by assumption) | with_reducible refine Ext.drew ?_ | with_reducible refine Ext.drewN ?_ _ | with_reducible refine Ext.alloc ?_ _ | with_reducible refine Ext.setNew ?_ (by simp; done) _ | with_reducible refine Ext.setNew ?_ (by simp; omega) _))⟩

end Go.Proofs.Ytchiakeceiefdaa
