/-
  The walks of the laws' comparisons of a shape with itself.
-/
import Derived.Test.YtchiakeceiefdaaShapeLaw
import Derived.Test.YtchiakeceiefdaaLater
namespace Go.Proofs.Ytchiakeceiefdaa
open Go.RowKit

set_option maxHeartbeats 400000 in
theorem eqBoolS_same (a b : Option Addr) (c d : Nat) (xs : List Bool) (w : World) (ha : BoolsR w any a c xs) (hb : BoolsR w any b d xs) :
    Calls Try.prog 79 #[.slice a xs.length c, .slice b xs.length d] w fun e w' => e = .returned (.bool true) ∧ Grow w w' := by
  have hbig : xs.length ≤ 9223372036854775807 := ha.2.1
  have Ha := Lib.hid ha
  have Hb := Lib.hid hb
  clear ha hb
  have hlb : ((xs.length : Int) != (xs.length : Int)) = false := by simp
  go_enter Try.func79, Try.ntmps79
  go_wp2
  go_loopw [4, 5] (fun n i wr => n = .bool false ∧ Grow w wr ∧ ∃ k : Nat, k ≤ xs.length ∧ i = .int .i64 k) (fun _ i _ => xs.length - (intOf i).toNat)
  case atStart => exact ⟨rfl, Ext.refl _ _, 0, Nat.zero_le _, rfl⟩
  case round =>
    obtain ⟨rfl, hg, k, hk, rfl⟩ := hrel
    by_cases hlt : k < xs.length
    · obtain ⟨_, _, ha4⟩ := (Ha.out).grow hg
      obtain ⟨_, _, hb4⟩ := (Hb.out).grow hg
      rcases ha4 with rfl | ⟨ba, oa, rfl, _, hca⟩
      · simp at hlt
      rcases hb4 with rfl | ⟨bb, ob, rfl, _, hcb⟩
      · simp at hlt
      have hx := hca k hlt
      have hy := hcb k hlt
      clear hca hcb Ha Hb
      cases hz : xs[k]
      · rw [hz] at hx hy
        clear hz
        go_wp2
        go_quiet (fail)
        go_wp2
        go_roundw
        case rel => exact ⟨rfl, hg.drewN _, k + 1, by omega, by go_num⟩
        case measure => simp [intOf]; omega
      · rw [hz] at hx hy
        clear hz
        go_wp2
        go_quiet (fail)
        go_wp2
        go_roundw
        case rel => exact ⟨rfl, hg.drewN _, k + 1, by omega, by go_num⟩
        case measure => simp [intOf]; omega
    · go_wp2
      go_ret
      exact ⟨by simp, hg⟩

def EqPOk (n : Shp) : Prop := ∀ (v u : Value) (w : World), ShapeR w any n v → ShapeR w any n u →
    Calls Try.prog 29 #[v, u] w fun e w' => e = .returned (.bool true) ∧ Grow w w'

set_option maxRecDepth 100000 in
set_option maxHeartbeats 1000000 in
theorem eqShapeS_of (l : List Shp) (ih : ∀ k ∈ l, EqPOk k) (a b : Option Addr) (c d : Nat) (w : World) (ha : ShpLR w any a c l) (hb : ShpLR w any b d l) :
    Calls Try.prog 80 #[.slice a l.length c, .slice b l.length d] w fun e w' => e = .returned (.bool true) ∧ Grow w w' := by
  have hbig : l.length ≤ 9223372036854775807 := ha.2.1
  have Ha := Lib.hid ha
  have Hb := Lib.hid hb
  have Ih := Lib.hid ih
  clear ha hb ih
  have hlb : ((l.length : Int) != (l.length : Int)) = false := by simp
  go_enter Try.func80, Try.ntmps80
  go_wp2
  go_loopw [4, 5] (fun n i wr => n = .bool false ∧ Grow w wr ∧ ∃ k : Nat, k ≤ l.length ∧ i = .int .i64 k) (fun _ i _ => l.length - (intOf i).toNat)
  case atStart => exact ⟨rfl, Ext.refl _ _, 0, Nat.zero_le _, rfl⟩
  case round =>
    obtain ⟨rfl, hg, k, hk, rfl⟩ := hrel
    by_cases hlt : k < l.length
    · obtain ⟨_, _, ha4⟩ := (Ha.out).grow hg
      obtain ⟨_, _, hb4⟩ := (Hb.out).grow hg
      rcases ha4 with hh | ⟨ba, oa, rfl, _, hca⟩
      · rw [hh] at hlt; simp at hlt
      rcases hb4 with hh | ⟨bb, ob, rfl, _, hcb⟩
      · rw [hh] at hlt; simp at hlt
      obtain ⟨na, nc, b1, c1, ka, kc, x0, x1, x2, x3, hx⟩ := hca.get k hlt
      obtain ⟨na', nc', b1', c1', ka', kc', y0, y1, y2, y3, hy⟩ := hcb.get k hlt
      have Hx : Hid (ShapeR wr any l[k] (shapeV l[k] na nc b1 c1 ka kc)) := Lib.hid ⟨_, _, _, _, _, _, rfl, hx⟩
      have Hy : Hid (ShapeR wr any l[k] (shapeV l[k] na' nc' b1' c1' ka' kc')) := Lib.hid ⟨_, _, _, _, _, _, rfl, hy⟩
      clear hca hcb Ha Hb hx hy
      go_wp2_with fail
      (refine wp_region_later (by kernel_rfl) (by kernel_rfl) ?_; (repeat (first | go_big_quiet_step ((go_at_call 29; exact later_call (Ih.out _ (List.getElem_mem hlt) _ _ _ (Hx.out.grow (later_grow _ _)) (Hy.out.grow (later_grow _ _))))) | quiet_step ((go_at_call 29; exact later_call (Ih.out _ (List.getElem_mem hlt) _ _ _ (Hx.out.grow (later_grow _ _)) (Hy.out.grow (later_grow _ _))))))); refine wpQuiet_nil ?_; rintro _ ⟨x_w2, rfl⟩; have hg_w2 := later_grow wr x_w2; generalize later wr x_w2 = w2 at hg_w2 ⊢)
      go_wp2_with fail
      go_roundw
      case rel => exact ⟨rfl, hg.trans hg_w2, k + 1, by omega, by go_num⟩
      case measure => simp [intOf]; omega
    · go_wp2_with fail
      go_ret
      exact ⟨by simp, hg⟩

set_option maxHeartbeats 1000000 in
theorem eqShape_of (n : Shp) (hk : ∀ (a b : Option Addr) (c d : Nat) (w : World), ShpLR w any a c n.kids → ShpLR w any b d n.kids →
      Calls Try.prog 80 #[.slice a n.kids.length c, .slice b n.kids.length d] w fun e w' => e = .returned (.bool true) ∧ Grow w w') : EqPOk n := by
  intro v u w hv hu
  obtain ⟨na, nc, ba, bc, ka, kc, rfl, hc⟩ := hv
  obtain ⟨na', nc', ba', bc', ka', kc', rfl, hc'⟩ := hu
  obtain ⟨hns, hbs, hks⟩ := hc.parts'
  obtain ⟨hns', hbs', hks'⟩ := hc'.parts'
  have Hns := Lib.hid hns
  have Hks := Lib.hid hks
  have Hbs := Lib.hid hbs
  have Hns' := Lib.hid hns'
  have Hks' := Lib.hid hks'
  have Hbs' := Lib.hid hbs'
  have Hk := Lib.hid hk
  have he : Hid (eqS n.names n.names = true) := Lib.hid (by simp [eqS])
  have hkk : (n.kind != n.kind) = false := by simp
  clear hc hc' hns hbs hks hns' hbs' hks' hk
  unfold shapeV
  go_enter Try.func29, Try.ntmps29
  go_wp2_with fail
  refine (eqStringS_ok _ _ _ _ n.names n.names _ (Hns.out.grow (by repeat (first | with_reducible exact Ext.refl _ _ | with_reducible refine Ext.trans ?_ (by assumption) | with_reducible refine Ext.drew ?_ | with_reducible refine Ext.drewN ?_ _ | with_reducible refine Ext.alloc ?_ _ | with_reducible refine Ext.setNew ?_ (by simp; done) _ | with_reducible refine Ext.setNew ?_ (by simp; omega) _))) (Hns'.out.grow (by repeat (first | with_reducible exact Ext.refl _ _ | with_reducible refine Ext.trans ?_ (by assumption) | with_reducible refine Ext.drew ?_ | with_reducible refine Ext.drewN ?_ _ | with_reducible refine Ext.alloc ?_ _ | with_reducible refine Ext.setNew ?_ (by simp; done) _ | with_reducible refine Ext.setNew ?_ (by simp; omega) _)))).mono ?_
  rintro e w2 ⟨rfl, hg2⟩
  simp only [he.out]
  have hcc2 := bcell hg2
  have hg2' : Grow w w2 := (by repeat (first | with_reducible exact Ext.refl _ _ | with_reducible refine Ext.trans ?_ (by assumption) | with_reducible refine Ext.drew ?_ | with_reducible refine Ext.drewN ?_ _ | with_reducible refine Ext.alloc ?_ _ | with_reducible refine Ext.setNew ?_ (by simp; done) _ | with_reducible refine Ext.setNew ?_ (by simp; omega) _))
  go_wp2_with fail
  refine (eqBoolS_same _ _ _ _ n.needs _ (Hbs.out.grow hg2') (Hbs'.out.grow hg2')).mono ?_
  rintro e w3 ⟨rfl, hg3⟩
  have hcc3 := bcell (hg2.trans hg3)
  have hg3' : Grow w w3 := hg2'.trans hg3
  clear hcc2
  go_wp2_with fail
  refine (Hk.out _ _ _ _ _ (Hks.out.grow hg3') (Hks'.out.grow hg3')).mono ?_
  rintro e w4 ⟨rfl, hg4⟩
  go_wp2_with fail
  go_ret
  exact ⟨by simp, hg3'.trans hg4⟩

theorem eqShape_ok : ∀ n, EqPOk n := by
  refine Shp.ind' EqPOk ?_
  intro n ih
  exact eqShape_of n (fun a b c d w h1 h2 => eqShapeS_of n.kids ih a b c d w h1 h2)

end Go.Proofs.Ytchiakeceiefdaa
