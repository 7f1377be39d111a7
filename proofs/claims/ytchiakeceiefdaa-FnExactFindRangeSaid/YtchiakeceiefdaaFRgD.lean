/-
  Texts of this claim, joined: CompareS, FRange, MarkB, FRangeS, EntTo, FitsShape, ShapeLaw, ShapeTo, ShapeEq, LawFits.
-/
import Derived.Test.YtchiakeceiefdaaFRgC

/-
  The walk of spec.compare.
-/
namespace Go.Proofs.Ytchiakeceiefdaa
open Go.RowKit

set_option maxRecDepth 100000 in
set_option maxHeartbeats 8000000 in
theorem compare_of (a : Nd) (ih : ∀ k ∈ a.kids, CmpSOk k) : CmpSOk a := by
  intro b v u w hga hgb hv hu
  obtain ⟨na, nc, ka, kc, rfl, hc⟩ := hv
  obtain ⟨na2, nc2, ka2, kc2, rfl, hc2⟩ := hu
  obtain ⟨_, hns, hks⟩ := hc.parts
  obtain ⟨_, hns2, hks2⟩ := hc2.parts
  have l1 : a.kids.length ≤ 6 := hga.kids6
  have l2 : b.kids.length ≤ 6 := hgb.kids6
  have Hns := Lib.hid hns
  have Hks := Lib.hid hks
  have Hns2 := Lib.hid hns2
  have Hks2 := Lib.hid hks2
  have Hga := Lib.hid hga
  have Hgb := Lib.hid hgb
  have Ih := Lib.hid ih
  have Hf := Lib.hid (cmpN_eq a b)
  clear hc hc2 hns hks hns2 hks2 hga hgb ih
  unfold nodeV
  by_cases h1 : sgnI a.kind b.kind = 0
  rotate_left
  · have b1 : (a.kind != b.kind) = true := by simpa using fun e => h1 (sgnI_zero.2 e)
    have Hff : Hid (cmpN a b = sgnI a.kind b.kind) := Lib.hid (by rw [Hf.out, if_pos h1])
    clear h1
    go_enter Try.func89, Try.ntmps89
    go_wp2_with fail
    refine (order_ok _ _ _).mono ?_
    rintro e w' ⟨rfl, rfl⟩
    go_wp2_with fail
    go_ret
    exact ⟨by simp [Hff.out], (by repeat (first | with_reducible exact Ext.refl _ _ | with_reducible refine Ext.trans ?_ (by assumption) | with_reducible refine Ext.drew ?_ | with_reducible refine Ext.drewN ?_ _ | with_reducible refine Ext.alloc ?_ _ | with_reducible refine Ext.setNew ?_ (by simp; done) _ | with_reducible refine Ext.setNew ?_ (by simp; omega) _))⟩
  have b1 : (a.kind != b.kind) = false := by simpa using sgnI_zero.1 h1
  by_cases h2 : sgnI a.num b.num = 0
  rotate_left
  · have b2 : (a.num != b.num) = true := by simpa using fun e => h2 (sgnI_zero.2 e)
    have Hff : Hid (cmpN a b = sgnI a.num b.num) := Lib.hid (by rw [Hf.out, if_neg (by simpa using h1), if_pos h2])
    clear h1 h2
    go_enter Try.func89, Try.ntmps89
    go_wp2_with fail
    refine (order_ok _ _ _).mono ?_
    rintro e w' ⟨rfl, rfl⟩
    go_wp2_with fail
    go_ret
    exact ⟨by simp [Hff.out], (by repeat (first | with_reducible exact Ext.refl _ _ | with_reducible refine Ext.trans ?_ (by assumption) | with_reducible refine Ext.drew ?_ | with_reducible refine Ext.drewN ?_ _ | with_reducible refine Ext.alloc ?_ _ | with_reducible refine Ext.setNew ?_ (by simp; done) _ | with_reducible refine Ext.setNew ?_ (by simp; omega) _))⟩
  have b2 : (a.num != b.num) = false := by simpa using sgnI_zero.1 h2
  by_cases h3 : sgnT a.text b.text = 0
  rotate_left
  · have b3 : (a.text.toList == b.text.toList) = false := by rw [beq_toList]; simpa using fun e => h3 (sgnT_zero.2 e)
    have Hff : Hid (cmpN a b = sgnT a.text b.text) := Lib.hid (by rw [Hf.out, if_neg (by simpa using h1), if_neg (by simpa using h2), if_pos h3])
    clear h1 h2 h3
    go_enter Try.func89, Try.ntmps89
    go_wp2_with fail
    refine (orderText_ok _ _ _).mono ?_
    rintro e w' ⟨rfl, rfl⟩
    go_wp2_with fail
    go_ret
    exact ⟨by simp [Hff.out], (by repeat (first | with_reducible exact Ext.refl _ _ | with_reducible refine Ext.trans ?_ (by assumption) | with_reducible refine Ext.drew ?_ | with_reducible refine Ext.drewN ?_ _ | with_reducible refine Ext.alloc ?_ _ | with_reducible refine Ext.setNew ?_ (by simp; done) _ | with_reducible refine Ext.setNew ?_ (by simp; omega) _))⟩
  have b3 : (a.text.toList == b.text.toList) = true := by rw [beq_toList]; simpa using sgnT_zero.1 h3
  have hkk : a.kind = b.kind := sgnI_zero.1 h1
  have Hkk := Lib.hid hkk
  have Hff : Hid (cmpN a b = cmpKs (decide (a.kind = 4)) a.names b.names a.kids b.kids) := Lib.hid (by rw [Hf.out, if_neg (by simpa using h1), if_neg (by simpa using h2), if_neg (by simpa using h3)])
  clear h1 h2 h3 hkk
  go_enter Try.func89, Try.ntmps89
  go_wp2_with fail
  clear b1 b2 b3
  go_loopw [4, 5] (fun t4 i wr => t4 = .int .i64 0 ∧ Grow w wr ∧ BoxN wr w.heap.size (nodeL a na nc ka kc) ∧ BoxN wr (w.heap.size + 1) (nodeL b na2 nc2 ka2 kc2) ∧ ∃ k : Nat, k ≤ a.kids.length ∧ k ≤ b.kids.length ∧ i = .int .i64 k ∧ cmpKs (decide (a.kind = 4)) a.names b.names a.kids b.kids = cmpKs (decide (a.kind = 4)) (a.names.drop k) (b.names.drop k) (a.kids.drop k) (b.kids.drop k)) (fun _ i _ => a.kids.length - (intOf i).toNat)
  case atStart => exact ⟨rfl, (by repeat (first | with_reducible exact Ext.refl _ _ | with_reducible refine Ext.trans ?_ (by assumption) | with_reducible refine Ext.drew ?_ | with_reducible refine Ext.drewN ?_ _ | with_reducible refine Ext.alloc ?_ _ | with_reducible refine Ext.setNew ?_ (by simp; done) _ | with_reducible refine Ext.setNew ?_ (by simp; omega) _)), (BoxN.new w (nodeL a na nc ka kc) _).grow ((Ext.refl nil _).alloc _), BoxN.new1 w _ (nodeL b na2 nc2 ka2 kc2) _, 0, Nat.zero_le _, Nat.zero_le _, rfl, rfl⟩
  case round =>
    obtain ⟨rfl, hg0, B1, B2, k, hk1, hk2, rfl, hs⟩ := hrel
    have Hs := Lib.hid hs
    clear hs
    have HB1 := Lib.hid B1
    have HB2 := Lib.hid B2
    clear B1 B2
    by_cases hlt : k < a.kids.length ∧ k < b.kids.length
    · obtain ⟨hlt1, hlt2⟩ := hlt
      rcases Hks.out.2.2 with hh | ⟨bk, ok, rfl, _, hkr⟩
      · rw [hh] at hlt1; simp at hlt1
      rcases Hks2.out.2.2 with hh | ⟨bk2, ok2, rfl, _, hkr2⟩
      · rw [hh] at hlt2; simp at hlt2
      obtain ⟨na', nc', ka', kc', c0, c1, c2, c3, c4, hkc⟩ := (hkr.ext hg0 (fun _ _ h => h) (fun h => h)).get k hlt1
      obtain ⟨na3, nc3, ka3, kc3, d0, d1, d2, d3, d4, hkc2⟩ := (hkr2.ext hg0 (fun _ _ h => h) (fun h => h)).get k hlt2
      have Hkc : Hid (NodeR wr any a.kids[k] (nodeV a.kids[k] na' nc' ka' kc')) := Lib.hid ⟨_, _, _, _, rfl, hkc⟩
      have Hkc2 : Hid (NodeR wr any b.kids[k] (nodeV b.kids[k] na3 nc3 ka3 kc3)) := Lib.hid ⟨_, _, _, _, rfl, hkc2⟩
      have Hgka := Lib.hid (Hga.out.kid (List.getElem_mem hlt1))
      have Hgkb := Lib.hid (Hgb.out.kid (List.getElem_mem hlt2))
      clear hkr hkr2 hkc hkc2
      have p3 := HB1.out.cell 3 _ rfl
      have p4 := HB1.out.cell 4 _ rfl
      have p0 := HB1.out.cell 0 _ rfl
      have q3 := HB2.out.cell 3 _ rfl
      have q4 := HB2.out.cell 4 _ rfl
      by_cases h4 : a.kind = 4
      · have e1 := (Hga.out.map h4).2
        have e2 := (Hgb.out.map (by rw [← Hkk.out]; exact h4)).2
        have n1 : k < a.names.length := by omega
        have n2 : k < b.names.length := by omega
        have b4 : (a.kind == 4) = true := by simp [h4]
        have hst := cmpKs_map (ns := a.names) (ms := b.names) hlt1 hlt2 n1 n2
        rcases ((Hns.out).grow hg0).2.2.2 with hh | ⟨b5, o5, rfl, _, hc5⟩
        · rw [hh] at n1; simp at n1
        rcases ((Hns2.out).grow hg0).2.2.2 with hh | ⟨b6, o6, rfl, _, hc6⟩
        · rw [hh] at n2; simp at n2
        have x1 := hc5 k n1
        have x2 := hc6 k n2
        clear hc5 hc6 e1 e2
        have Hd : Hid (decide (a.kind = 4) = true) := Lib.hid (by simp [h4])
        clear h4
        by_cases h5 : sgnT a.names[k] b.names[k] = 0
        · have b5' : (a.names[k].toList == b.names[k].toList) = true := by rw [beq_toList]; simpa using sgnT_zero.1 h5
          have hst' := hst.trans (if_neg (by simpa using h5))
          clear hst h5
          by_cases h6 : cmpN a.kids[k] b.kids[k] = 0
          · have b6' := bne0 h6
            have Hst := Lib.hid (hst'.trans (if_neg (by simpa using h6)))
            clear hst' h6
            go_wp2_with fail
            (refine wp_region_later (by kernel_rfl) (by kernel_rfl) ?_; (repeat (first | go_big_quiet_step (fail) | quiet_step (fail))); refine wpQuiet_nil ?_; rintro _ ⟨x_w2, rfl⟩; have hg_w2 := later_grow wr x_w2; generalize later wr x_w2 = w2 at hg_w2 ⊢)
            (replace p0 := hg_w2.some p0; replace p3 := hg_w2.some p3; replace p4 := hg_w2.some p4; replace q3 := hg_w2.some q3; replace q4 := hg_w2.some q4; replace c0 := hg_w2.some c0; replace c1 := hg_w2.some c1; replace c2 := hg_w2.some c2; replace c3 := hg_w2.some c3; replace c4 := hg_w2.some c4; replace d0 := hg_w2.some d0; replace d1 := hg_w2.some d1; replace d2 := hg_w2.some d2; replace d3 := hg_w2.some d3; replace d4 := hg_w2.some d4)
            go_wp2_with fail
            (refine wp_region_later (by kernel_rfl) (by kernel_rfl) ?_; (repeat (first | go_big_quiet_step ((go_at_call 89; exact later_call (v := .int .i64 (cmpN a.kids[k] b.kids[k])) (Ih.out _ (List.getElem_mem hlt1) b.kids[k] _ _ _ Hgka.out Hgkb.out (Hkc.out.grow (hg_w2.trans (later_grow _ _))) (Hkc2.out.grow (hg_w2.trans (later_grow _ _)))))) | quiet_step ((go_at_call 89; exact later_call (v := .int .i64 (cmpN a.kids[k] b.kids[k])) (Ih.out _ (List.getElem_mem hlt1) b.kids[k] _ _ _ Hgka.out Hgkb.out (Hkc.out.grow (hg_w2.trans (later_grow _ _))) (Hkc2.out.grow (hg_w2.trans (later_grow _ _)))))))); refine wpQuiet_nil ?_; rintro _ ⟨x_w3, rfl⟩; have hg_w3 := later_grow w2 x_w3; generalize later w2 x_w3 = w3 at hg_w3 ⊢)
            go_wp2_with fail
            go_roundw
            case rel => exact ⟨rfl, (by repeat (first | with_reducible exact Ext.refl _ _ | with_reducible refine Ext.trans ?_ (by assumption) | with_reducible refine Ext.drew ?_ | with_reducible refine Ext.drewN ?_ _ | with_reducible refine Ext.alloc ?_ _ | with_reducible refine Ext.setNew ?_ (by simp; done) _ | with_reducible refine Ext.setNew ?_ (by simp; omega) _)), HB1.out.grow (by repeat (first | with_reducible exact Ext.refl _ _ | with_reducible refine Ext.trans ?_ (by assumption) | with_reducible refine Ext.drew ?_ | with_reducible refine Ext.drewN ?_ _ | with_reducible refine Ext.alloc ?_ _ | with_reducible refine Ext.setNew ?_ (by simp; done) _ | with_reducible refine Ext.setNew ?_ (by simp; omega) _)), HB2.out.grow (by repeat (first | with_reducible exact Ext.refl _ _ | with_reducible refine Ext.trans ?_ (by assumption) | with_reducible refine Ext.drew ?_ | with_reducible refine Ext.drewN ?_ _ | with_reducible refine Ext.alloc ?_ _ | with_reducible refine Ext.setNew ?_ (by simp; done) _ | with_reducible refine Ext.setNew ?_ (by simp; omega) _)), k + 1, by omega, by omega, by go_num, by rw [Hs.out, Hd.out, Hst.out]⟩
            case measure => simp [intOf]; omega
          · have b6' := bne1 h6
            have Hst := Lib.hid (hst'.trans (if_pos h6))
            clear hst' h6
            go_wp2_with fail
            (refine wp_region_later (by kernel_rfl) (by kernel_rfl) ?_; (repeat (first | go_big_quiet_step (fail) | quiet_step (fail))); refine wpQuiet_nil ?_; rintro _ ⟨x_w2, rfl⟩; have hg_w2 := later_grow wr x_w2; generalize later wr x_w2 = w2 at hg_w2 ⊢)
            (replace p0 := hg_w2.some p0; replace p3 := hg_w2.some p3; replace p4 := hg_w2.some p4; replace q3 := hg_w2.some q3; replace q4 := hg_w2.some q4; replace c0 := hg_w2.some c0; replace c1 := hg_w2.some c1; replace c2 := hg_w2.some c2; replace c3 := hg_w2.some c3; replace c4 := hg_w2.some c4; replace d0 := hg_w2.some d0; replace d1 := hg_w2.some d1; replace d2 := hg_w2.some d2; replace d3 := hg_w2.some d3; replace d4 := hg_w2.some d4)
            go_wp2_with fail
            (refine wp_region_later (by kernel_rfl) (by kernel_rfl) ?_; (repeat (first | go_big_quiet_step ((go_at_call 89; exact later_call (v := .int .i64 (cmpN a.kids[k] b.kids[k])) (Ih.out _ (List.getElem_mem hlt1) b.kids[k] _ _ _ Hgka.out Hgkb.out (Hkc.out.grow (hg_w2.trans (later_grow _ _))) (Hkc2.out.grow (hg_w2.trans (later_grow _ _)))))) | quiet_step ((go_at_call 89; exact later_call (v := .int .i64 (cmpN a.kids[k] b.kids[k])) (Ih.out _ (List.getElem_mem hlt1) b.kids[k] _ _ _ Hgka.out Hgkb.out (Hkc.out.grow (hg_w2.trans (later_grow _ _))) (Hkc2.out.grow (hg_w2.trans (later_grow _ _)))))))); refine wpQuiet_nil ?_; rintro _ ⟨x_w3, rfl⟩; have hg_w3 := later_grow w2 x_w3; generalize later w2 x_w3 = w3 at hg_w3 ⊢)
            go_wp2_with fail
            go_ret
            exact ⟨by rw [Hff.out, Hs.out, Hd.out, Hst.out]; rfl, (by repeat (first | with_reducible exact Ext.refl _ _ | with_reducible refine Ext.trans ?_ (by assumption) | with_reducible refine Ext.drew ?_ | with_reducible refine Ext.drewN ?_ _ | with_reducible refine Ext.alloc ?_ _ | with_reducible refine Ext.setNew ?_ (by simp; done) _ | with_reducible refine Ext.setNew ?_ (by simp; omega) _))⟩
        · have b5' : (a.names[k].toList == b.names[k].toList) = false := by rw [beq_toList]; simpa using fun e => h5 (sgnT_zero.2 e)
          have Hst := Lib.hid (hst.trans (if_pos h5))
          clear hst h5
          go_wp2_with fail
          (refine wp_region_later (by kernel_rfl) (by kernel_rfl) ?_; (repeat (first | go_big_quiet_step (fail) | quiet_step (fail))); refine wpQuiet_nil ?_; rintro _ ⟨x_w2, rfl⟩; have hg_w2 := later_grow wr x_w2; generalize later wr x_w2 = w2 at hg_w2 ⊢)
          (replace p0 := hg_w2.some p0; replace p3 := hg_w2.some p3; replace p4 := hg_w2.some p4; replace q3 := hg_w2.some q3; replace q4 := hg_w2.some q4; replace c0 := hg_w2.some c0; replace c1 := hg_w2.some c1; replace c2 := hg_w2.some c2; replace c3 := hg_w2.some c3; replace c4 := hg_w2.some c4; replace d0 := hg_w2.some d0; replace d1 := hg_w2.some d1; replace d2 := hg_w2.some d2; replace d3 := hg_w2.some d3; replace d4 := hg_w2.some d4; replace x1 := hg_w2.some x1; replace x2 := hg_w2.some x2)
          go_wp2_with fail
          (refine wp_region_later (by kernel_rfl) (by kernel_rfl) ?_; (repeat (first | go_big_quiet_step ((go_at_call 127; exact later_call_same (orderText_ok _ _ _))) | quiet_step ((go_at_call 127; exact later_call_same (orderText_ok _ _ _))))); refine wpQuiet_nil ?_; rintro _ ⟨x_w3, rfl⟩; have hg_w3 := later_grow w2 x_w3; generalize later w2 x_w3 = w3 at hg_w3 ⊢)
          go_wp2_with fail
          go_ret
          exact ⟨by rw [Hff.out, Hs.out, Hd.out, Hst.out]; rfl, (by repeat (first | with_reducible exact Ext.refl _ _ | with_reducible refine Ext.trans ?_ (by assumption) | with_reducible refine Ext.drew ?_ | with_reducible refine Ext.drewN ?_ _ | with_reducible refine Ext.alloc ?_ _ | with_reducible refine Ext.setNew ?_ (by simp; done) _ | with_reducible refine Ext.setNew ?_ (by simp; omega) _))⟩
      · have b4 : (a.kind == 4) = false := by simp [h4]
        have hst := cmpKs_list (ns := a.names) (ms := b.names) hlt1 hlt2
        have Hd : Hid (decide (a.kind = 4) = false) := Lib.hid (by simp [h4])
        clear h4
        by_cases h6 : cmpN a.kids[k] b.kids[k] = 0
        · have b6' := bne0 h6
          have Hst := Lib.hid (hst.trans (if_neg (by simpa using h6)))
          clear hst h6
          go_wp2_with fail
          (refine wp_region_later (by kernel_rfl) (by kernel_rfl) ?_; (repeat (first | go_big_quiet_step (fail) | quiet_step (fail))); refine wpQuiet_nil ?_; rintro _ ⟨x_w2, rfl⟩; have hg_w2 := later_grow wr x_w2; generalize later wr x_w2 = w2 at hg_w2 ⊢)
          (replace p0 := hg_w2.some p0; replace p3 := hg_w2.some p3; replace p4 := hg_w2.some p4; replace q3 := hg_w2.some q3; replace q4 := hg_w2.some q4; replace c0 := hg_w2.some c0; replace c1 := hg_w2.some c1; replace c2 := hg_w2.some c2; replace c3 := hg_w2.some c3; replace c4 := hg_w2.some c4; replace d0 := hg_w2.some d0; replace d1 := hg_w2.some d1; replace d2 := hg_w2.some d2; replace d3 := hg_w2.some d3; replace d4 := hg_w2.some d4)
          go_wp2_with fail
          (refine wp_region_later (by kernel_rfl) (by kernel_rfl) ?_; (repeat (first | go_big_quiet_step ((go_at_call 89; exact later_call (v := .int .i64 (cmpN a.kids[k] b.kids[k])) (Ih.out _ (List.getElem_mem hlt1) b.kids[k] _ _ _ Hgka.out Hgkb.out (Hkc.out.grow (hg_w2.trans (later_grow _ _))) (Hkc2.out.grow (hg_w2.trans (later_grow _ _)))))) | quiet_step ((go_at_call 89; exact later_call (v := .int .i64 (cmpN a.kids[k] b.kids[k])) (Ih.out _ (List.getElem_mem hlt1) b.kids[k] _ _ _ Hgka.out Hgkb.out (Hkc.out.grow (hg_w2.trans (later_grow _ _))) (Hkc2.out.grow (hg_w2.trans (later_grow _ _)))))))); refine wpQuiet_nil ?_; rintro _ ⟨x_w3, rfl⟩; have hg_w3 := later_grow w2 x_w3; generalize later w2 x_w3 = w3 at hg_w3 ⊢)
          go_wp2_with fail
          go_roundw
          case rel => exact ⟨rfl, (by repeat (first | with_reducible exact Ext.refl _ _ | with_reducible refine Ext.trans ?_ (by assumption) | with_reducible refine Ext.drew ?_ | with_reducible refine Ext.drewN ?_ _ | with_reducible refine Ext.alloc ?_ _ | with_reducible refine Ext.setNew ?_ (by simp; done) _ | with_reducible refine Ext.setNew ?_ (by simp; omega) _)), HB1.out.grow (by repeat (first | with_reducible exact Ext.refl _ _ | with_reducible refine Ext.trans ?_ (by assumption) | with_reducible refine Ext.drew ?_ | with_reducible refine Ext.drewN ?_ _ | with_reducible refine Ext.alloc ?_ _ | with_reducible refine Ext.setNew ?_ (by simp; done) _ | with_reducible refine Ext.setNew ?_ (by simp; omega) _)), HB2.out.grow (by repeat (first | with_reducible exact Ext.refl _ _ | with_reducible refine Ext.trans ?_ (by assumption) | with_reducible refine Ext.drew ?_ | with_reducible refine Ext.drewN ?_ _ | with_reducible refine Ext.alloc ?_ _ | with_reducible refine Ext.setNew ?_ (by simp; done) _ | with_reducible refine Ext.setNew ?_ (by simp; omega) _)), k + 1, by omega, by omega, by go_num, by rw [Hs.out, Hd.out, Hst.out]⟩
          case measure => simp [intOf]; omega
        · have b6' := bne1 h6
          have Hst := Lib.hid (hst.trans (if_pos h6))
          clear hst h6
          go_wp2_with fail
          (refine wp_region_later (by kernel_rfl) (by kernel_rfl) ?_; (repeat (first | go_big_quiet_step (fail) | quiet_step (fail))); refine wpQuiet_nil ?_; rintro _ ⟨x_w2, rfl⟩; have hg_w2 := later_grow wr x_w2; generalize later wr x_w2 = w2 at hg_w2 ⊢)
          (replace p0 := hg_w2.some p0; replace p3 := hg_w2.some p3; replace p4 := hg_w2.some p4; replace q3 := hg_w2.some q3; replace q4 := hg_w2.some q4; replace c0 := hg_w2.some c0; replace c1 := hg_w2.some c1; replace c2 := hg_w2.some c2; replace c3 := hg_w2.some c3; replace c4 := hg_w2.some c4; replace d0 := hg_w2.some d0; replace d1 := hg_w2.some d1; replace d2 := hg_w2.some d2; replace d3 := hg_w2.some d3; replace d4 := hg_w2.some d4)
          go_wp2_with fail
          (refine wp_region_later (by kernel_rfl) (by kernel_rfl) ?_; (repeat (first | go_big_quiet_step ((go_at_call 89; exact later_call (v := .int .i64 (cmpN a.kids[k] b.kids[k])) (Ih.out _ (List.getElem_mem hlt1) b.kids[k] _ _ _ Hgka.out Hgkb.out (Hkc.out.grow (hg_w2.trans (later_grow _ _))) (Hkc2.out.grow (hg_w2.trans (later_grow _ _)))))) | quiet_step ((go_at_call 89; exact later_call (v := .int .i64 (cmpN a.kids[k] b.kids[k])) (Ih.out _ (List.getElem_mem hlt1) b.kids[k] _ _ _ Hgka.out Hgkb.out (Hkc.out.grow (hg_w2.trans (later_grow _ _))) (Hkc2.out.grow (hg_w2.trans (later_grow _ _)))))))); refine wpQuiet_nil ?_; rintro _ ⟨x_w3, rfl⟩; have hg_w3 := later_grow w2 x_w3; generalize later w2 x_w3 = w3 at hg_w3 ⊢)
          go_wp2_with fail
          go_ret
          exact ⟨by rw [Hff.out, Hs.out, Hd.out, Hst.out]; rfl, (by repeat (first | with_reducible exact Ext.refl _ _ | with_reducible refine Ext.trans ?_ (by assumption) | with_reducible refine Ext.drew ?_ | with_reducible refine Ext.drewN ?_ _ | with_reducible refine Ext.alloc ?_ _ | with_reducible refine Ext.setNew ?_ (by simp; done) _ | with_reducible refine Ext.setNew ?_ (by simp; omega) _))⟩
    · have Hend := Lib.hid (cmpKs_end (decide (a.kind = 4)) a.names b.names a.kids b.kids k hk1 hk2 hlt)
      have p4 := HB1.out.cell 4 _ rfl
      have q4 := HB2.out.cell 4 _ rfl
      by_cases h1 : k < a.kids.length
      · have h2 : ¬ k < b.kids.length := by omega
        go_wp2_with fail
        refine (order_ok _ _ _).mono ?_
        rintro e w' ⟨rfl, rfl⟩
        go_wp2_with fail
        go_ret
        exact ⟨by rw [Hff.out, Hs.out, Hend.out]; rfl, hg0⟩
      · go_wp2_with fail
        refine (order_ok _ _ _).mono ?_
        rintro e w' ⟨rfl, rfl⟩
        go_wp2_with fail
        go_ret
        exact ⟨by rw [Hff.out, Hs.out, Hend.out]; rfl, hg0⟩

theorem compare_ok : ∀ a, CmpSOk a := Nd.ind' CmpSOk compare_of

end Go.Proofs.Ytchiakeceiefdaa

/-
  The walks of impl.FindRange and spec.FindRange.
-/
namespace Go.Proofs.Ytchiakeceiefdaa
open Go.RowKit

def frB (lo hi : Nd) (e : Ent) : Bool := decide (cmpN lo e.1 ≤ 0) && decide (cmpN e.1 hi ≤ 0)
def frL (lo hi : Nd) (l : List Ent) : List ByteArray := (l.filter (frB lo hi)).map (·.2)
def frS (lo hi : Nd) (l : List Ent) : List ByteArray := if entsB l && validB lo && validB hi then frL lo hi l else []
theorem frL_yes {lo hi : Nd} {l : List Ent} {k : Nat} (h : k < l.length) (hb : frB lo hi l[k] = true) : frL lo hi (l.take (k + 1)) = frL lo hi (l.take k) ++ [l[k].2] := by
  unfold frL; rw [take_snoc' _ _ h, List.filter_append]; simp [hb]
theorem frL_no {lo hi : Nd} {l : List Ent} {k : Nat} (h : k < l.length) (hb : frB lo hi l[k] = false) : frL lo hi (l.take (k + 1)) = frL lo hi (l.take k) := by
  unfold frL; rw [take_snoc' _ _ h, List.filter_append]; simp [hb]
theorem frL_len (lo hi : Nd) (l : List Ent) (k : Nat) : (frL lo hi (l.take k)).length ≤ k := by
  unfold frL
  rw [List.length_map]
  exact Nat.le_trans (List.length_filter_le _ _) (by simp; omega)
theorem frL_mem {lo hi : Nd} {l : List Ent} {x : ByteArray} (h : x ∈ frL lo hi l) : ∃ e ∈ l, x = e.2 := by
  unfold frL at h
  obtain ⟨e, he, rfl⟩ := List.mem_map.1 h
  exact ⟨e, (List.mem_filter.1 he).1, rfl⟩
theorem entsB_len {l : List Ent} (h : entsB l = true) : l.length ≤ 10 := by
  simp only [entsB, Bool.and_eq_true, decide_eq_true_eq] at h; exact h.1
theorem entsB_good {l : List Ent} (h : entsB l = true) : ∀ e ∈ l, Good e.1 := by
  simp only [entsB, Bool.and_eq_true, entsV, List.all_eq_true] at h; exact fun e he => validB_good (h.2 e he)
theorem entsR_texts {w : World} {S : Nat → Prop} {a : Option Addr} {c : Nat} {l : List Ent} (h : SlR entRep w S a c l) : ∀ e ∈ l, e.2.size ≤ big := by
  intro e he
  obtain ⟨k, hk, rfl⟩ := List.getElem_of_mem he
  rcases h.2.2 with hh | ⟨_, _, _, _, hkr⟩
  · rw [hh] at hk; simp at hk
  · obtain ⟨cs, _, hx⟩ := hkr k hk
    obtain ⟨_, _, _, _, _, _, h1⟩ := entRep_open hx
    exact h1

/-- A row of strings that lies in memory made since w. -/
def OwnS (w w' : World) (xs : List ByteArray) (v : Value) : Prop := ∃ a c fp, v = .slice a xs.length c ∧ StrsF w' a c xs fp ∧ Free w.heap.size w' fp
theorem OwnS.nil (w w' : World) : OwnS w w' [] (.slice none 0 0) := ⟨none, 0, [], rfl, ⟨Nat.le_refl _, Nat.zero_le _, by simp, .inl ⟨rfl, rfl⟩⟩, Free.nil _ _⟩
theorem OwnS.grow {w w' w'' : World} {xs : List ByteArray} {v : Value} (h : OwnS w w' xs v) (hg : Grow w' w'') : OwnS w w'' xs v := by
  obtain ⟨a, c, fp, hv, h1, h2⟩ := h
  exact ⟨a, c, fp, hv, h1.keep (hg.keeps h2 (fun _ _ h => h)), h2.ext hg (fun _ _ h => h)⟩
theorem Free.down {B B' : Nat} {w : World} {fp : List Nat} (h : Free B w fp) (hb : B' ≤ B) : Free B' w fp := ⟨h.1, fun y hy => ⟨Nat.le_trans hb (h.2 y hy).1, (h.2 y hy).2⟩⟩
theorem OwnS.row {w w' : World} {B : Nat} {T : TypeId} {v : Value} {n : Nat} {xs : List ByteArray} (hB : w.heap.size ≤ B) (h : w'.ownsRow B T 1 v n (xs.map Value.string)) (hx : ∀ x ∈ xs, x.size ≤ big) : OwnS w w' xs v := by
  obtain ⟨a, c, fp, hv, h1, h2, _⟩ := strs_of_row h hx
  exact ⟨a, c, fp, hv, h1, h2.down hB⟩
theorem row_len {w : World} {B : Nat} {T : TypeId} {v : Value} {n : Nat} {xs : List Value} (h : w.ownsRow B T 1 v n xs) : n = xs.length := by have := h.1; omega

def FrRel (w : World) (lo hi : Nd) (l : List Ent) (t i : Value) (wr : World) : Prop :=
  ∃ (v : Value) (k : Nat), v = t ∧ k ≤ l.length ∧ i = .int .i64 k ∧ wr.ownsRow (w.heap.size + 2) 9 1 v (frL lo hi (l.take k)).length ((frL lo hi (l.take k)).map Value.string)

set_option maxRecDepth 100000 in
set_option maxHeartbeats 4000000 in
theorem implFindRange_ok (l : List Ent) (lo hi : Nd) (a : Option Addr) (c : Nat) (v u : Value) (w : World) (hn : SlR entRep w any a c l) (hv : NodeR w any lo v) (hu : NodeR w any hi u) :
    Calls Try.prog 39 #[.slice a l.length c, v, u] w fun e w' => ∃ r, e = .returned r ∧ Grow w w' ∧ OwnS w w' (frS lo hi l) r := by
  have hbig : l.length ≤ 9223372036854775807 := hn.2.1
  have Hn := Lib.hid hn
  obtain ⟨na, nc, ka, kc, rfl, hc⟩ := hv
  obtain ⟨na2, nc2, ka2, kc2, rfl, hc2⟩ := hu
  have Hc := Lib.hid hc
  have Hc2 := Lib.hid hc2
  clear hn hc hc2
  unfold nodeV
  cases he : entsB l
  · have He := Lib.hid he
    have Hf : Hid (frS lo hi l = []) := Lib.hid (by unfold frS; simp [he])
    clear he
    go_enter Try.func39, Try.ntmps39
    go_wp2_with fail
    refine (areEntries_ok l _ _ _ (Hn.out.grow (by repeat (first | with_reducible exact Ext.refl _ _ | with_reducible refine Ext.trans ?_ (by assumption) | with_reducible refine Ext.drew ?_ | with_reducible refine Ext.drewN ?_ _ | with_reducible refine Ext.alloc ?_ _ | with_reducible refine Ext.setNew ?_ (by simp; done) _ | with_reducible refine Ext.setNew ?_ (by simp; omega) _)))).mono ?_
    rintro e w2 ⟨rfl, hg2⟩
    simp only [He.out]
    go_wp2_with fail
    go_ret
    exact ⟨_, rfl, (by repeat (first | with_reducible exact Ext.refl _ _ | with_reducible refine Ext.trans ?_ (by assumption) | with_reducible refine Ext.drew ?_ | with_reducible refine Ext.drewN ?_ _ | with_reducible refine Ext.alloc ?_ _ | with_reducible refine Ext.setNew ?_ (by simp; done) _ | with_reducible refine Ext.setNew ?_ (by simp; omega) _)), by rw [Hf.out]; exact OwnS.nil _ _⟩
  have He := Lib.hid he
  cases h1 : validB lo
  · have H1 := Lib.hid h1
    have Hf : Hid (frS lo hi l = []) := Lib.hid (by unfold frS; simp [h1])
    clear he h1
    go_enter Try.func39, Try.ntmps39
    go_wp2_with fail
    refine (areEntries_ok l _ _ _ (Hn.out.grow (by repeat (first | with_reducible exact Ext.refl _ _ | with_reducible refine Ext.trans ?_ (by assumption) | with_reducible refine Ext.drew ?_ | with_reducible refine Ext.drewN ?_ _ | with_reducible refine Ext.alloc ?_ _ | with_reducible refine Ext.setNew ?_ (by simp; done) _ | with_reducible refine Ext.setNew ?_ (by simp; omega) _)))).mono ?_
    rintro e w2 ⟨rfl, hg2⟩
    simp only [He.out]
    have HB1 := Lib.hid (((BoxN.new w (nodeL lo na nc ka kc) 30).grow ((Ext.refl nil _).alloc (.cells (nodeL hi na2 nc2 ka2 kc2).toArray 30))).grow hg2)
    (have p0 := HB1.out.cell 0 _ rfl; have p1 := HB1.out.cell 1 _ rfl; have p2 := HB1.out.cell 2 _ rfl; have p3 := HB1.out.cell 3 _ rfl; have p4 := HB1.out.cell 4 _ rfl)
    go_wp2_with fail
    refine (ValidNode_ok lo _ _ ⟨_, _, _, _, rfl, Hc.out.grow' (by repeat (first | with_reducible exact Ext.refl _ _ | with_reducible refine Ext.trans ?_ (by assumption) | with_reducible refine Ext.drew ?_ | with_reducible refine Ext.drewN ?_ _ | with_reducible refine Ext.alloc ?_ _ | with_reducible refine Ext.setNew ?_ (by simp; done) _ | with_reducible refine Ext.setNew ?_ (by simp; omega) _))⟩).mono ?_
    rintro e w3 ⟨rfl, hg3⟩
    simp only [H1.out]
    go_wp2_with fail
    go_ret
    exact ⟨_, rfl, (by repeat (first | with_reducible exact Ext.refl _ _ | with_reducible refine Ext.trans ?_ (by assumption) | with_reducible refine Ext.drew ?_ | with_reducible refine Ext.drewN ?_ _ | with_reducible refine Ext.alloc ?_ _ | with_reducible refine Ext.setNew ?_ (by simp; done) _ | with_reducible refine Ext.setNew ?_ (by simp; omega) _)), by rw [Hf.out]; exact OwnS.nil _ _⟩
  have H1 := Lib.hid h1
  cases h2 : validB hi
  · have H2 := Lib.hid h2
    have Hf : Hid (frS lo hi l = []) := Lib.hid (by unfold frS; simp [h2])
    clear he h1 h2
    go_enter Try.func39, Try.ntmps39
    go_wp2_with fail
    refine (areEntries_ok l _ _ _ (Hn.out.grow (by repeat (first | with_reducible exact Ext.refl _ _ | with_reducible refine Ext.trans ?_ (by assumption) | with_reducible refine Ext.drew ?_ | with_reducible refine Ext.drewN ?_ _ | with_reducible refine Ext.alloc ?_ _ | with_reducible refine Ext.setNew ?_ (by simp; done) _ | with_reducible refine Ext.setNew ?_ (by simp; omega) _)))).mono ?_
    rintro e w2 ⟨rfl, hg2⟩
    simp only [He.out]
    have HB1 := Lib.hid (((BoxN.new w (nodeL lo na nc ka kc) 30).grow ((Ext.refl nil _).alloc (.cells (nodeL hi na2 nc2 ka2 kc2).toArray 30))).grow hg2)
    have HB2 := Lib.hid ((BoxN.new1 w (.cells (nodeL lo na nc ka kc).toArray 30) (nodeL hi na2 nc2 ka2 kc2) 30).grow hg2)
    (have p0 := HB1.out.cell 0 _ rfl; have p1 := HB1.out.cell 1 _ rfl; have p2 := HB1.out.cell 2 _ rfl; have p3 := HB1.out.cell 3 _ rfl; have p4 := HB1.out.cell 4 _ rfl)
    go_wp2_with fail
    refine (ValidNode_ok lo _ _ ⟨_, _, _, _, rfl, Hc.out.grow' (by repeat (first | with_reducible exact Ext.refl _ _ | with_reducible refine Ext.trans ?_ (by assumption) | with_reducible refine Ext.drew ?_ | with_reducible refine Ext.drewN ?_ _ | with_reducible refine Ext.alloc ?_ _ | with_reducible refine Ext.setNew ?_ (by simp; done) _ | with_reducible refine Ext.setNew ?_ (by simp; omega) _))⟩).mono ?_
    rintro e w3 ⟨rfl, hg3⟩
    simp only [H1.out]
    replace HB2 := Lib.hid (HB2.out.grow hg3)
    clear p0 p1 p2 p3 p4
    (have p0 := HB2.out.cell 0 _ rfl; have p1 := HB2.out.cell 1 _ rfl; have p2 := HB2.out.cell 2 _ rfl; have p3 := HB2.out.cell 3 _ rfl; have p4 := HB2.out.cell 4 _ rfl)
    go_wp2_with fail
    refine (ValidNode_ok hi _ _ ⟨_, _, _, _, rfl, Hc2.out.grow' (by repeat (first | with_reducible exact Ext.refl _ _ | with_reducible refine Ext.trans ?_ (by assumption) | with_reducible refine Ext.drew ?_ | with_reducible refine Ext.drewN ?_ _ | with_reducible refine Ext.alloc ?_ _ | with_reducible refine Ext.setNew ?_ (by simp; done) _ | with_reducible refine Ext.setNew ?_ (by simp; omega) _))⟩).mono ?_
    rintro e w4 ⟨rfl, hg4⟩
    simp only [H2.out]
    go_wp2_with fail
    go_ret
    exact ⟨_, rfl, (by repeat (first | with_reducible exact Ext.refl _ _ | with_reducible refine Ext.trans ?_ (by assumption) | with_reducible refine Ext.drew ?_ | with_reducible refine Ext.drewN ?_ _ | with_reducible refine Ext.alloc ?_ _ | with_reducible refine Ext.setNew ?_ (by simp; done) _ | with_reducible refine Ext.setNew ?_ (by simp; omega) _)), by rw [Hf.out]; exact OwnS.nil _ _⟩
  have H2 := Lib.hid h2
  have Hf : Hid (frS lo hi l = frL lo hi l) := Lib.hid (by unfold frS; simp [he, h1, h2])
  have hl10 := entsB_len he
  clear he h1 h2
  go_enter Try.func39, Try.ntmps39
  go_wp2_with fail
  refine (areEntries_ok l _ _ _ (Hn.out.grow (by repeat (first | with_reducible exact Ext.refl _ _ | with_reducible refine Ext.trans ?_ (by assumption) | with_reducible refine Ext.drew ?_ | with_reducible refine Ext.drewN ?_ _ | with_reducible refine Ext.alloc ?_ _ | with_reducible refine Ext.setNew ?_ (by simp; done) _ | with_reducible refine Ext.setNew ?_ (by simp; omega) _)))).mono ?_
  rintro e w2 ⟨rfl, hg2⟩
  simp only [He.out]
  have HB1 := Lib.hid (((BoxN.new w (nodeL lo na nc ka kc) 30).grow ((Ext.refl nil _).alloc (.cells (nodeL hi na2 nc2 ka2 kc2).toArray 30))).grow hg2)
  have HB2 := Lib.hid ((BoxN.new1 w (.cells (nodeL lo na nc ka kc).toArray 30) (nodeL hi na2 nc2 ka2 kc2) 30).grow hg2)
  (have p0 := HB1.out.cell 0 _ rfl; have p1 := HB1.out.cell 1 _ rfl; have p2 := HB1.out.cell 2 _ rfl; have p3 := HB1.out.cell 3 _ rfl; have p4 := HB1.out.cell 4 _ rfl)
  go_wp2_with fail
  refine (ValidNode_ok lo _ _ ⟨_, _, _, _, rfl, Hc.out.grow' (by repeat (first | with_reducible exact Ext.refl _ _ | with_reducible refine Ext.trans ?_ (by assumption) | with_reducible refine Ext.drew ?_ | with_reducible refine Ext.drewN ?_ _ | with_reducible refine Ext.alloc ?_ _ | with_reducible refine Ext.setNew ?_ (by simp; done) _ | with_reducible refine Ext.setNew ?_ (by simp; omega) _))⟩).mono ?_
  rintro e w3 ⟨rfl, hg3⟩
  simp only [H1.out]
  replace HB1 := Lib.hid (HB1.out.grow hg3)
  replace HB2 := Lib.hid (HB2.out.grow hg3)
  clear p0 p1 p2 p3 p4
  (have p0 := HB2.out.cell 0 _ rfl; have p1 := HB2.out.cell 1 _ rfl; have p2 := HB2.out.cell 2 _ rfl; have p3 := HB2.out.cell 3 _ rfl; have p4 := HB2.out.cell 4 _ rfl)
  go_wp2_with fail
  refine (ValidNode_ok hi _ _ ⟨_, _, _, _, rfl, Hc2.out.grow' (by repeat (first | with_reducible exact Ext.refl _ _ | with_reducible refine Ext.trans ?_ (by assumption) | with_reducible refine Ext.drew ?_ | with_reducible refine Ext.drewN ?_ _ | with_reducible refine Ext.alloc ?_ _ | with_reducible refine Ext.setNew ?_ (by simp; done) _ | with_reducible refine Ext.setNew ?_ (by simp; omega) _))⟩).mono ?_
  rintro e w4 ⟨rfl, hg4⟩
  simp only [H2.out]
  replace HB1 := Lib.hid (HB1.out.grow hg4)
  replace HB2 := Lib.hid (HB2.out.grow hg4)
  clear p0 p1 p2 p3 p4
  go_wp2_with fail
  have hgw : Grow w w4 := (by repeat (first | with_reducible exact Ext.refl _ _ | with_reducible refine Ext.trans ?_ (by assumption) | with_reducible refine Ext.drew ?_ | with_reducible refine Ext.drewN ?_ _ | with_reducible refine Ext.alloc ?_ _ | with_reducible refine Ext.setNew ?_ (by simp; done) _ | with_reducible refine Ext.setNew ?_ (by simp; omega) _))
  go_loopw [7, 9, 25] (fun t _ i wr => Grow w wr ∧ BoxN wr w.heap.size (nodeL lo na nc ka kc) ∧ BoxN wr (w.heap.size + 1) (nodeL hi na2 nc2 ka2 kc2) ∧ FrRel w lo hi l t i wr) (fun _ _ i _ => l.length - (intOf i).toNat)
  case atStart => exact ⟨hgw, HB1.out, HB2.out, _, 0, rfl, Nat.zero_le _, rfl, World.ownsRow_nil _ _ _ _⟩
  case round =>
    obtain ⟨hg0, B1, B2, t, k, rfl, hk, rfl, hrow⟩ := hrel
    have HB1 := Lib.hid B1
    have HB2 := Lib.hid B2
    have Hrow := Lib.hid hrow
    have lb1 := B1.lt
    have lb2 := B2.lt
    have hfl := frL_len lo hi l k
    clear B1 B2 hrow
    by_cases hlt : k < l.length
    · obtain ⟨_, _, hks⟩ := (Hn.out).grow hg0
      rcases hks with hks | ⟨bk, ok, rfl, _, hkr⟩
      · simp [hks] at hlt
      obtain ⟨cs, hcs, hx⟩ := hkr k hlt
      obtain ⟨na0, nc0, ka0, kc0, rfl, h0, hsz⟩ := entRep_open hx
      rw [entRep_n] at hcs
      have x0 : wr.cell? ⟨bk, ok + k * 6, none⟩ = _ := hcs 0 _ rfl
      have x1 := hcs 1 _ rfl
      have x2 := hcs 2 _ rfl
      have x3 := hcs 3 _ rfl
      have x4 := hcs 4 _ rfl
      have x5 := hcs 5 _ rfl
      have H0 := Lib.hid h0
      clear hkr hcs hx h0
      (have p0 := HB1.out.cell 0 _ rfl; have p1 := HB1.out.cell 1 _ rfl; have p2 := HB1.out.cell 2 _ rfl; have p3 := HB1.out.cell 3 _ rfl; have p4 := HB1.out.cell 4 _ rfl)
      (have q0 := HB2.out.cell 0 _ rfl; have q1 := HB2.out.cell 1 _ rfl; have q2 := HB2.out.cell 2 _ rfl; have q3 := HB2.out.cell 3 _ rfl; have q4 := HB2.out.cell 4 _ rfl)
      have Hg1 := Lib.hid (validB_good H1.out)
      have Hg2 := Lib.hid (validB_good H2.out)
      have Hgk := Lib.hid (entsB_good He.out _ (List.getElem_mem hlt))
      have Hsz := Lib.hid hsz
      clear hsz
      by_cases h1 : cmpN lo l[k].1 ≤ 0
      · by_cases h2 : cmpN l[k].1 hi ≤ 0
        · have Hs : Hid (frL lo hi (l.take (k + 1)) = frL lo hi (l.take k) ++ [l[k].2]) := Lib.hid (frL_yes hlt (by unfold frB; simp [h1, h2]))
          go_wp2_with fail
          refine (compareValid_ok lo l[k].1 _ _ _ Hg1.out Hgk.out ⟨_, _, _, _, rfl, Hc.out.grow' (by repeat (first | with_reducible exact Ext.refl _ _ | with_reducible refine Ext.trans ?_ (by assumption) | with_reducible refine Ext.drew ?_ | with_reducible refine Ext.drewN ?_ _ | with_reducible refine Ext.alloc ?_ _ | with_reducible refine Ext.setNew ?_ (by simp; done) _ | with_reducible refine Ext.setNew ?_ (by simp; omega) _))⟩ ⟨_, _, _, _, rfl, H0.out.grow' (by repeat (first | with_reducible exact Ext.refl _ _ | with_reducible refine Ext.trans ?_ (by assumption) | with_reducible refine Ext.drew ?_ | with_reducible refine Ext.drewN ?_ _ | with_reducible refine Ext.alloc ?_ _ | with_reducible refine Ext.setNew ?_ (by simp; done) _ | with_reducible refine Ext.setNew ?_ (by simp; omega) _))⟩).mono ?_
          rintro e w5 ⟨rfl, hg5⟩
          have hcc := bcell hg5
          go_wp2_with fail
          refine (compareValid_ok l[k].1 hi _ _ _ Hgk.out Hg2.out ⟨_, _, _, _, rfl, H0.out.grow' (by repeat (first | with_reducible exact Ext.refl _ _ | with_reducible refine Ext.trans ?_ (by assumption) | with_reducible refine Ext.drew ?_ | with_reducible refine Ext.drewN ?_ _ | with_reducible refine Ext.alloc ?_ _ | with_reducible refine Ext.setNew ?_ (by simp; done) _ | with_reducible refine Ext.setNew ?_ (by simp; omega) _))⟩ ⟨_, _, _, _, rfl, Hc2.out.grow' (by repeat (first | with_reducible exact Ext.refl _ _ | with_reducible refine Ext.trans ?_ (by assumption) | with_reducible refine Ext.drew ?_ | with_reducible refine Ext.drewN ?_ _ | with_reducible refine Ext.alloc ?_ _ | with_reducible refine Ext.setNew ?_ (by simp; done) _ | with_reducible refine Ext.setNew ?_ (by simp; omega) _))⟩).mono ?_
          rintro e w6 ⟨rfl, hg6⟩
          have hcc6 := bcell (hg5.trans hg6)
          have hg56 : Grow wr w6 := (by repeat (first | with_reducible exact Ext.refl _ _ | with_reducible refine Ext.trans ?_ (by assumption) | with_reducible refine Ext.drew ?_ | with_reducible refine Ext.drewN ?_ _ | with_reducible refine Ext.alloc ?_ _ | with_reducible refine Ext.setNew ?_ (by simp; done) _ | with_reducible refine Ext.setNew ?_ (by simp; omega) _))
          have Hg56 := Lib.hid hg56
          have Hrow6 := Lib.hid (row_grow Hrow.out hg56)
          have hz6 := hg56.size
          clear p0 p1 p2 p3 p4
          clear q0 q1 q2 q3 q4
          clear hcc
          obtain ⟨i0, hi0, hz0, hz1, hz2⟩ := info_parts info_string
          go_wp2_with (at_builtin; (refine wpList_append_own _ rfl _ _ 23 rfl (w.heap.size + 2) 9 i0 (.string ⟨#[]⟩) 1 16 Try.underlying23 hi0 hz0 hz1 hz2 rfl (by decide) t _ _ rfl (row_grow Hrow6.out ((Ext.refl nil w6).alloc _)) ⟨w6.heap.size, 0, none⟩ 1 1 [.string l[k].2] rfl ?c1 ?c2 ?c3 ?c4 ?c5 ?c6 ?_))
          case c1 => rfl
          case c2 =>
            intro j u hu
            rw [addr_add, Nat.zero_add]
            exact (BoxN.new w6 [.string l[k].2] 9).cell j u hu
          case c3 => simp [Value.oneCell']
          case c4 => unfold maxLen; omega
          case c5 => omega
          case c6 => simp; omega
          intro v' w7 hown7 hgrow7 _
          have hb3 : ∀ b, t.ownBlock = some b → w.heap.size + 1 < b := fun b e => by have := (Hrow.out.lt b e).1; omega
          have hg7 : Grow w w7 := grown_ext ((hg0.trans Hg56.out).alloc _) hgrow7 (fun b e => by have := hb3 b e; omega)
          have B1 := (HB1.out.grow ((Hg56.out).alloc _)).grown hgrow7 (fun b e => by have := hb3 b e; omega)
          have B2 := (HB2.out.grow ((Hg56.out).alloc _)).grown hgrow7 hb3
          have Hown7 := Lib.hid hown7
          clear hown7 hgrow7 hb3 hg0 hg56 hcc6
          go_wp2_with fail
          go_roundw
          case rel =>
            refine ⟨hg7, B1, B2, _, k + 1, rfl, by omega, by go_num, ?_⟩
            rw [Hs.out]
            simpa using Hown7.out
          case measure => simp [intOf]; omega
        · have Hs : Hid (frL lo hi (l.take (k + 1)) = frL lo hi (l.take k)) := Lib.hid (frL_no hlt (by unfold frB; simp [h2]))
          go_wp2_with fail
          refine (compareValid_ok lo l[k].1 _ _ _ Hg1.out Hgk.out ⟨_, _, _, _, rfl, Hc.out.grow' (by repeat (first | with_reducible exact Ext.refl _ _ | with_reducible refine Ext.trans ?_ (by assumption) | with_reducible refine Ext.drew ?_ | with_reducible refine Ext.drewN ?_ _ | with_reducible refine Ext.alloc ?_ _ | with_reducible refine Ext.setNew ?_ (by simp; done) _ | with_reducible refine Ext.setNew ?_ (by simp; omega) _))⟩ ⟨_, _, _, _, rfl, H0.out.grow' (by repeat (first | with_reducible exact Ext.refl _ _ | with_reducible refine Ext.trans ?_ (by assumption) | with_reducible refine Ext.drew ?_ | with_reducible refine Ext.drewN ?_ _ | with_reducible refine Ext.alloc ?_ _ | with_reducible refine Ext.setNew ?_ (by simp; done) _ | with_reducible refine Ext.setNew ?_ (by simp; omega) _))⟩).mono ?_
          rintro e w5 ⟨rfl, hg5⟩
          have hcc := bcell hg5
          go_wp2_with fail
          refine (compareValid_ok l[k].1 hi _ _ _ Hgk.out Hg2.out ⟨_, _, _, _, rfl, H0.out.grow' (by repeat (first | with_reducible exact Ext.refl _ _ | with_reducible refine Ext.trans ?_ (by assumption) | with_reducible refine Ext.drew ?_ | with_reducible refine Ext.drewN ?_ _ | with_reducible refine Ext.alloc ?_ _ | with_reducible refine Ext.setNew ?_ (by simp; done) _ | with_reducible refine Ext.setNew ?_ (by simp; omega) _))⟩ ⟨_, _, _, _, rfl, Hc2.out.grow' (by repeat (first | with_reducible exact Ext.refl _ _ | with_reducible refine Ext.trans ?_ (by assumption) | with_reducible refine Ext.drew ?_ | with_reducible refine Ext.drewN ?_ _ | with_reducible refine Ext.alloc ?_ _ | with_reducible refine Ext.setNew ?_ (by simp; done) _ | with_reducible refine Ext.setNew ?_ (by simp; omega) _))⟩).mono ?_
          rintro e w6 ⟨rfl, hg6⟩
          have hg56 : Grow wr w6 := (by repeat (first | with_reducible exact Ext.refl _ _ | with_reducible refine Ext.trans ?_ (by assumption) | with_reducible refine Ext.drew ?_ | with_reducible refine Ext.drewN ?_ _ | with_reducible refine Ext.alloc ?_ _ | with_reducible refine Ext.setNew ?_ (by simp; done) _ | with_reducible refine Ext.setNew ?_ (by simp; omega) _))
          go_wp2_with fail
          go_roundw
          case rel => exact ⟨hg0.trans hg56, HB1.out.grow hg56, HB2.out.grow hg56, _, k + 1, rfl, by omega, by go_num, by rw [Hs.out]; exact row_grow Hrow.out hg56⟩
          case measure => simp [intOf]; omega
      · have Hs : Hid (frL lo hi (l.take (k + 1)) = frL lo hi (l.take k)) := Lib.hid (frL_no hlt (by unfold frB; simp [h1]))
        go_wp2_with fail
        refine (compareValid_ok lo l[k].1 _ _ _ Hg1.out Hgk.out ⟨_, _, _, _, rfl, Hc.out.grow' (by repeat (first | with_reducible exact Ext.refl _ _ | with_reducible refine Ext.trans ?_ (by assumption) | with_reducible refine Ext.drew ?_ | with_reducible refine Ext.drewN ?_ _ | with_reducible refine Ext.alloc ?_ _ | with_reducible refine Ext.setNew ?_ (by simp; done) _ | with_reducible refine Ext.setNew ?_ (by simp; omega) _))⟩ ⟨_, _, _, _, rfl, H0.out.grow' (by repeat (first | with_reducible exact Ext.refl _ _ | with_reducible refine Ext.trans ?_ (by assumption) | with_reducible refine Ext.drew ?_ | with_reducible refine Ext.drewN ?_ _ | with_reducible refine Ext.alloc ?_ _ | with_reducible refine Ext.setNew ?_ (by simp; done) _ | with_reducible refine Ext.setNew ?_ (by simp; omega) _))⟩).mono ?_
        rintro e w5 ⟨rfl, hg5⟩
        have hg56 : Grow wr w5 := (by repeat (first | with_reducible exact Ext.refl _ _ | with_reducible refine Ext.trans ?_ (by assumption) | with_reducible refine Ext.drew ?_ | with_reducible refine Ext.drewN ?_ _ | with_reducible refine Ext.alloc ?_ _ | with_reducible refine Ext.setNew ?_ (by simp; done) _ | with_reducible refine Ext.setNew ?_ (by simp; omega) _))
        go_wp2_with fail
        go_roundw
        case rel => exact ⟨hg0.trans hg56, HB1.out.grow hg56, HB2.out.grow hg56, _, k + 1, rfl, by omega, by go_num, by rw [Hs.out]; exact row_grow Hrow.out hg56⟩
        case measure => simp [intOf]; omega
    · have hke : k = l.length := by omega
      go_wp2_with fail
      go_ret
      refine ⟨_, rfl, hg0, ?_⟩
      rw [Hf.out]
      have hrow := Hrow.out
      rw [hke, List.take_length] at hrow
      exact OwnS.row (by omega) hrow (fun x hx => by obtain ⟨e, he, rfl⟩ := frL_mem hx; exact entsR_texts Hn.out e he)

end Go.Proofs.Ytchiakeceiefdaa

/-
  How many marks a value takes, and blocks that lie between two bounds.
-/
namespace Go.Proofs.Ytchiakeceiefdaa
open Go.RowKit

mutual
theorem cntK_le : ∀ n : Nd, cntK n ≤ 3 + 3 * costN n
  | ⟨_, _, text, names, kids⟩ => by
    have h := cntL_le kids
    have h2 : names.length ≤ costS names := by simp [costS]
    simp only [cntK, costN]; omega
theorem cntL_le : ∀ l : List Nd, cntL l ≤ 3 * costL l
  | [] => by simp [cntL]
  | k :: ks => by
    have h1 := cntK_le k
    have h2 := cntL_le ks
    simp only [cntL, costL]; omega
end
theorem cntT_le (n : Nd) : cntT n ≤ 3 * costN n := by
  have := cntK_le n
  rw [cntK_eq] at this; unfold cntT; omega
theorem cntEnt_le (l : List Ent) : cntR cntEnt l ≤ 4 * costEntL l := by
  induction l with
  | nil => simp [cntR]
  | cons x l ih =>
    have h := cntK_le x.1
    have e : cntEnt x = cntK x.1 + 1 := rfl
    simp only [cntR, costEntL, List.map_cons, List.sum_cons, List.length_cons, costEnt] at ih ⊢
    omega

/-- The blocks of a list lie from A on and below Z, each once and not frozen. -/
def Seg (A Z : Nat) (w : World) (fp : List Nat) : Prop := Free A w fp ∧ ∀ y ∈ fp, y < Z
theorem Seg.of {A : Nat} {w : World} {fp : List Nat} (h : Free A w fp) : Seg A w.heap.size w fp := ⟨h, fun y hy => (h.2 y hy).2.1⟩
theorem Seg.grow {A Z : Nat} {w w' : World} {fp : List Nat} (h : Seg A Z w fp) (hg : Grow w w') : Seg A Z w' fp := ⟨h.1.ext hg (fun _ _ h => h), h.2⟩
theorem Seg.off {A Z A' Z' : Nat} {w w0 : World} {fp fx : List Nat} (h : Seg A Z w fp) (hx : Seg A' Z' w0 fx) (hd : Z ≤ A' ∨ Z' ≤ A) : ∀ y ∈ fp, ¬ inl fx y := fun y hy h2 => by
  have h3 := h.2 y hy
  have h4 := (h.1.2 y hy).1
  have h5 := hx.2 y h2
  have h6 := (hx.1.2 y h2).1
  omega
theorem Seg.ext {A Z A' Z' : Nat} {w w' w0 : World} {fp fx : List Nat} (h : Seg A Z w fp) (hx : Seg A' Z' w0 fx) (hd : Z ≤ A' ∨ Z' ≤ A) (he : Ext (inl fx) w w') : Seg A Z w' fp := ⟨h.1.ext he (h.off hx hd), h.2⟩
theorem Seg.keeps {A Z A' Z' : Nat} {w w' w0 : World} {fp fx : List Nat} (h : Seg A Z w fp) (hx : Seg A' Z' w0 fx) (hd : Z ≤ A' ∨ Z' ≤ A) (he : Ext (inl fx) w w') : ∀ b ∈ fp, ∀ o, w'.cell? ⟨b, o, none⟩ = w.cell? ⟨b, o, none⟩ := he.keeps h.1 (h.off hx hd)
theorem Seg.marked {A Z : Nat} {w w' : World} {fp : List Nat} (h : Seg A Z w fp) (h' : Free A w' fp) : Seg A Z w' fp := ⟨h', h.2⟩
theorem Seg.inner {A Z : Nat} {w0 w w' : World} {fp : List Nat} (h : Seg A Z w fp) (hg : Grow w0 w) (he : Ext (inl fp) w w') (hA : w0.heap.size ≤ A) : Grow w0 w' :=
  hg.inner he (fun i hi => Nat.le_trans hA (h.1.2 i hi).1)
theorem Seg.box {A Z b : Nat} {w0 w w' : World} {fp : List Nat} {cs : List Value} (h : Seg A Z w0 fp) (hB : BoxN w b cs) (he : Ext (inl fp) w w') (hd : b < A ∨ Z ≤ b) : BoxN w' b cs :=
  hB.ext he (fun hi => by have h3 := h.2 b hi; have h4 := (h.1.2 b hi).1; omega)
/-- What lies below A stays. -/
theorem Seg.below {A Z : Nat} {w0 w w' : World} {fp : List Nat} {a : Option Addr} {c Y : Nat} {xs : List ByteArray} (h : Seg A Z w0 fp) (hs : StrsR w (fun k => k < Y) a c xs) (he : Ext (inl fp) w w') (hd : Y ≤ A) : StrsR w' (fun k => k < Y) a c xs :=
  hs.ext he (fun k hk hi => by have h4 := (h.1.2 k hi).1; omega)
theorem StrsR.under {S : Nat → Prop} {w : World} {a : Option Addr} {c : Nat} {xs : List ByteArray} (h : StrsR w S a c xs) : StrsR w (fun k => k < w.heap.size) a c xs := h.lt.mono (fun _ h => h.2)

end Go.Proofs.Ytchiakeceiefdaa

/-
  The walk of spec.FindRange.
-/
namespace Go.Proofs.Ytchiakeceiefdaa
open Go.RowKit

set_option maxRecDepth 100000 in
set_option maxHeartbeats 4000000 in
theorem specFindRange_ok (l : List Ent) (lo hi : Nd) (a : Option Addr) (c : Nat) (v u : Value) (w : World) (hn : SlR entRep w any a c l) (hv : NodeR w any lo v) (hu : NodeR w any hi u) :
    Calls Try.prog 37 #[.slice a l.length c, v, u] w fun e w' => ∃ r, e = .returned r ∧ Grow w w' ∧ OwnS w w' (frS lo hi l) r := by
  have hbig : l.length ≤ 9223372036854775807 := hn.2.1
  have Hn := Lib.hid hn
  obtain ⟨na, nc, ka, kc, rfl, hc⟩ := hv
  obtain ⟨na2, nc2, ka2, kc2, rfl, hc2⟩ := hu
  have Hc := Lib.hid hc
  have Hc2 := Lib.hid hc2
  clear hn hc hc2
  unfold nodeV
  cases he : entsB l
  · have He := Lib.hid he
    have Hf : Hid (frS lo hi l = []) := Lib.hid (by unfold frS; simp [he])
    clear he
    go_enter Try.func37, Try.ntmps37
    go_wp2_with fail
    refine (validEntries_ok l _ _ _ (Hn.out.grow (by repeat (first | with_reducible exact Ext.refl _ _ | with_reducible refine Ext.trans ?_ (by assumption) | with_reducible refine Ext.drew ?_ | with_reducible refine Ext.drewN ?_ _ | with_reducible refine Ext.alloc ?_ _ | with_reducible refine Ext.setNew ?_ (by simp; done) _ | with_reducible refine Ext.setNew ?_ (by simp; omega) _)))).mono ?_
    rintro e w2 ⟨rfl, hg2⟩
    simp only [He.out]
    go_wp2_with fail
    go_ret
    exact ⟨_, rfl, (by repeat (first | with_reducible exact Ext.refl _ _ | with_reducible refine Ext.trans ?_ (by assumption) | with_reducible refine Ext.drew ?_ | with_reducible refine Ext.drewN ?_ _ | with_reducible refine Ext.alloc ?_ _ | with_reducible refine Ext.setNew ?_ (by simp; done) _ | with_reducible refine Ext.setNew ?_ (by simp; omega) _)), by rw [Hf.out]; exact OwnS.nil _ _⟩
  have He := Lib.hid he
  cases h1 : validB lo
  · have H1 := Lib.hid h1
    have Hf : Hid (frS lo hi l = []) := Lib.hid (by unfold frS; simp [h1])
    clear he h1
    go_enter Try.func37, Try.ntmps37
    go_wp2_with fail
    refine (validEntries_ok l _ _ _ (Hn.out.grow (by repeat (first | with_reducible exact Ext.refl _ _ | with_reducible refine Ext.trans ?_ (by assumption) | with_reducible refine Ext.drew ?_ | with_reducible refine Ext.drewN ?_ _ | with_reducible refine Ext.alloc ?_ _ | with_reducible refine Ext.setNew ?_ (by simp; done) _ | with_reducible refine Ext.setNew ?_ (by simp; omega) _)))).mono ?_
    rintro e w2 ⟨rfl, hg2⟩
    simp only [He.out]
    have HB1 := Lib.hid ((((BoxN.new w (nodeL lo na nc ka kc) 30).grow ((Ext.refl nil _).alloc (.cells (nodeL hi na2 nc2 ka2 kc2).toArray 30))).grow ((Ext.refl nil _).alloc (.cells #[] 9))).grow hg2)
    (have p0 := HB1.out.cell 0 _ rfl; have p1 := HB1.out.cell 1 _ rfl; have p2 := HB1.out.cell 2 _ rfl; have p3 := HB1.out.cell 3 _ rfl; have p4 := HB1.out.cell 4 _ rfl)
    go_wp2_with fail
    refine (validNode_ok lo _ _ ⟨_, _, _, _, rfl, Hc.out.grow' (by repeat (first | with_reducible exact Ext.refl _ _ | with_reducible refine Ext.trans ?_ (by assumption) | with_reducible refine Ext.drew ?_ | with_reducible refine Ext.drewN ?_ _ | with_reducible refine Ext.alloc ?_ _ | with_reducible refine Ext.setNew ?_ (by simp; done) _ | with_reducible refine Ext.setNew ?_ (by simp; omega) _))⟩).mono ?_
    rintro e w3 ⟨rfl, hg3⟩
    simp only [H1.out]
    go_wp2_with fail
    go_ret
    exact ⟨_, rfl, (by repeat (first | with_reducible exact Ext.refl _ _ | with_reducible refine Ext.trans ?_ (by assumption) | with_reducible refine Ext.drew ?_ | with_reducible refine Ext.drewN ?_ _ | with_reducible refine Ext.alloc ?_ _ | with_reducible refine Ext.setNew ?_ (by simp; done) _ | with_reducible refine Ext.setNew ?_ (by simp; omega) _)), by rw [Hf.out]; exact OwnS.nil _ _⟩
  have H1 := Lib.hid h1
  cases h2 : validB hi
  · have H2 := Lib.hid h2
    have Hf : Hid (frS lo hi l = []) := Lib.hid (by unfold frS; simp [h2])
    clear he h1 h2
    go_enter Try.func37, Try.ntmps37
    go_wp2_with fail
    refine (validEntries_ok l _ _ _ (Hn.out.grow (by repeat (first | with_reducible exact Ext.refl _ _ | with_reducible refine Ext.trans ?_ (by assumption) | with_reducible refine Ext.drew ?_ | with_reducible refine Ext.drewN ?_ _ | with_reducible refine Ext.alloc ?_ _ | with_reducible refine Ext.setNew ?_ (by simp; done) _ | with_reducible refine Ext.setNew ?_ (by simp; omega) _)))).mono ?_
    rintro e w2 ⟨rfl, hg2⟩
    simp only [He.out]
    have HB1 := Lib.hid ((((BoxN.new w (nodeL lo na nc ka kc) 30).grow ((Ext.refl nil _).alloc (.cells (nodeL hi na2 nc2 ka2 kc2).toArray 30))).grow ((Ext.refl nil _).alloc (.cells #[] 9))).grow hg2)
    have HB2 := Lib.hid (((BoxN.new1 w (.cells (nodeL lo na nc ka kc).toArray 30) (nodeL hi na2 nc2 ka2 kc2) 30).grow ((Ext.refl nil _).alloc (.cells #[] 9))).grow hg2)
    (have p0 := HB1.out.cell 0 _ rfl; have p1 := HB1.out.cell 1 _ rfl; have p2 := HB1.out.cell 2 _ rfl; have p3 := HB1.out.cell 3 _ rfl; have p4 := HB1.out.cell 4 _ rfl)
    go_wp2_with fail
    refine (validNode_ok lo _ _ ⟨_, _, _, _, rfl, Hc.out.grow' (by repeat (first | with_reducible exact Ext.refl _ _ | with_reducible refine Ext.trans ?_ (by assumption) | with_reducible refine Ext.drew ?_ | with_reducible refine Ext.drewN ?_ _ | with_reducible refine Ext.alloc ?_ _ | with_reducible refine Ext.setNew ?_ (by simp; done) _ | with_reducible refine Ext.setNew ?_ (by simp; omega) _))⟩).mono ?_
    rintro e w3 ⟨rfl, hg3⟩
    simp only [H1.out]
    replace HB2 := Lib.hid (HB2.out.grow hg3)
    clear p0 p1 p2 p3 p4
    (have p0 := HB2.out.cell 0 _ rfl; have p1 := HB2.out.cell 1 _ rfl; have p2 := HB2.out.cell 2 _ rfl; have p3 := HB2.out.cell 3 _ rfl; have p4 := HB2.out.cell 4 _ rfl)
    go_wp2_with fail
    refine (validNode_ok hi _ _ ⟨_, _, _, _, rfl, Hc2.out.grow' (by repeat (first | with_reducible exact Ext.refl _ _ | with_reducible refine Ext.trans ?_ (by assumption) | with_reducible refine Ext.drew ?_ | with_reducible refine Ext.drewN ?_ _ | with_reducible refine Ext.alloc ?_ _ | with_reducible refine Ext.setNew ?_ (by simp; done) _ | with_reducible refine Ext.setNew ?_ (by simp; omega) _))⟩).mono ?_
    rintro e w4 ⟨rfl, hg4⟩
    simp only [H2.out]
    go_wp2_with fail
    go_ret
    exact ⟨_, rfl, (by repeat (first | with_reducible exact Ext.refl _ _ | with_reducible refine Ext.trans ?_ (by assumption) | with_reducible refine Ext.drew ?_ | with_reducible refine Ext.drewN ?_ _ | with_reducible refine Ext.alloc ?_ _ | with_reducible refine Ext.setNew ?_ (by simp; done) _ | with_reducible refine Ext.setNew ?_ (by simp; omega) _)), by rw [Hf.out]; exact OwnS.nil _ _⟩
  have H2 := Lib.hid h2
  have Hf : Hid (frS lo hi l = frL lo hi l) := Lib.hid (by unfold frS; simp [he, h1, h2])
  have hl10 := entsB_len he
  clear he h1 h2
  go_enter Try.func37, Try.ntmps37
  go_wp2_with fail
  refine (validEntries_ok l _ _ _ (Hn.out.grow (by repeat (first | with_reducible exact Ext.refl _ _ | with_reducible refine Ext.trans ?_ (by assumption) | with_reducible refine Ext.drew ?_ | with_reducible refine Ext.drewN ?_ _ | with_reducible refine Ext.alloc ?_ _ | with_reducible refine Ext.setNew ?_ (by simp; done) _ | with_reducible refine Ext.setNew ?_ (by simp; omega) _)))).mono ?_
  rintro e w2 ⟨rfl, hg2⟩
  simp only [He.out]
  have HB1 := Lib.hid ((((BoxN.new w (nodeL lo na nc ka kc) 30).grow ((Ext.refl nil _).alloc (.cells (nodeL hi na2 nc2 ka2 kc2).toArray 30))).grow ((Ext.refl nil _).alloc (.cells #[] 9))).grow hg2)
  have HB2 := Lib.hid (((BoxN.new1 w (.cells (nodeL lo na nc ka kc).toArray 30) (nodeL hi na2 nc2 ka2 kc2) 30).grow ((Ext.refl nil _).alloc (.cells #[] 9))).grow hg2)
  (have p0 := HB1.out.cell 0 _ rfl; have p1 := HB1.out.cell 1 _ rfl; have p2 := HB1.out.cell 2 _ rfl; have p3 := HB1.out.cell 3 _ rfl; have p4 := HB1.out.cell 4 _ rfl)
  go_wp2_with fail
  refine (validNode_ok lo _ _ ⟨_, _, _, _, rfl, Hc.out.grow' (by repeat (first | with_reducible exact Ext.refl _ _ | with_reducible refine Ext.trans ?_ (by assumption) | with_reducible refine Ext.drew ?_ | with_reducible refine Ext.drewN ?_ _ | with_reducible refine Ext.alloc ?_ _ | with_reducible refine Ext.setNew ?_ (by simp; done) _ | with_reducible refine Ext.setNew ?_ (by simp; omega) _))⟩).mono ?_
  rintro e w3 ⟨rfl, hg3⟩
  simp only [H1.out]
  replace HB1 := Lib.hid (HB1.out.grow hg3)
  replace HB2 := Lib.hid (HB2.out.grow hg3)
  clear p0 p1 p2 p3 p4
  (have p0 := HB2.out.cell 0 _ rfl; have p1 := HB2.out.cell 1 _ rfl; have p2 := HB2.out.cell 2 _ rfl; have p3 := HB2.out.cell 3 _ rfl; have p4 := HB2.out.cell 4 _ rfl)
  go_wp2_with fail
  refine (validNode_ok hi _ _ ⟨_, _, _, _, rfl, Hc2.out.grow' (by repeat (first | with_reducible exact Ext.refl _ _ | with_reducible refine Ext.trans ?_ (by assumption) | with_reducible refine Ext.drew ?_ | with_reducible refine Ext.drewN ?_ _ | with_reducible refine Ext.alloc ?_ _ | with_reducible refine Ext.setNew ?_ (by simp; done) _ | with_reducible refine Ext.setNew ?_ (by simp; omega) _))⟩).mono ?_
  rintro e w4 ⟨rfl, hg4⟩
  simp only [H2.out]
  replace HB1 := Lib.hid (HB1.out.grow hg4)
  replace HB2 := Lib.hid (HB2.out.grow hg4)
  clear p0 p1 p2 p3 p4
  go_wp2_with fail
  have hgw : Grow w w4 := (by repeat (first | with_reducible exact Ext.refl _ _ | with_reducible refine Ext.trans ?_ (by assumption) | with_reducible refine Ext.drew ?_ | with_reducible refine Ext.drewN ?_ _ | with_reducible refine Ext.alloc ?_ _ | with_reducible refine Ext.setNew ?_ (by simp; done) _ | with_reducible refine Ext.setNew ?_ (by simp; omega) _))
  go_loopw [7, 8] (fun t i wr => Grow w wr ∧ BoxN wr w.heap.size (nodeL lo na nc ka kc) ∧ BoxN wr (w.heap.size + 1) (nodeL hi na2 nc2 ka2 kc2) ∧ FrRel w lo hi l t i wr) (fun _ i _ => l.length - (intOf i).toNat)
  case atStart =>
    refine ⟨hgw, HB1.out, HB2.out, _, 0, rfl, Nat.zero_le _, rfl, row_grow (row_grow (row_grow ?_ hg2) hg3) hg4⟩
    have := World.ownsRow_made (e := 9) (size := 1) (base := w.heap.size + 2) ((w.alloc (.cells #[.int .i64 lo.kind, .int .i64 lo.num, .string lo.text, .slice na lo.names.length nc, .slice ka lo.kids.length kc] 30)).alloc (.cells #[.int .i64 hi.kind, .int .i64 hi.num, .string hi.text, .slice na2 hi.names.length nc2, .slice ka2 hi.kids.length kc2] 30)) #[] 0 (by simp) (by unfold maxLen; omega) rfl
    simpa [frL] using this
  case round =>
    obtain ⟨hg0, B1, B2, t, k, rfl, hk, rfl, hrow⟩ := hrel
    have HB1 := Lib.hid B1
    have HB2 := Lib.hid B2
    have Hrow := Lib.hid hrow
    have lb1 := B1.lt
    have lb2 := B2.lt
    have hfl := frL_len lo hi l k
    clear B1 B2 hrow
    by_cases hlt : k < l.length
    · obtain ⟨_, _, hks⟩ := (Hn.out).grow hg0
      rcases hks with hks | ⟨bk, ok, rfl, _, hkr⟩
      · simp [hks] at hlt
      obtain ⟨cs, hcs, hx⟩ := hkr k hlt
      obtain ⟨na0, nc0, ka0, kc0, rfl, h0, hsz⟩ := entRep_open hx
      rw [entRep_n] at hcs
      have x0 : wr.cell? ⟨bk, ok + k * 6, none⟩ = _ := hcs 0 _ rfl
      have x1 := hcs 1 _ rfl
      have x2 := hcs 2 _ rfl
      have x3 := hcs 3 _ rfl
      have x4 := hcs 4 _ rfl
      have x5 := hcs 5 _ rfl
      have H0 := Lib.hid h0
      clear hkr hcs hx h0
      (have p0 := HB1.out.cell 0 _ rfl; have p1 := HB1.out.cell 1 _ rfl; have p2 := HB1.out.cell 2 _ rfl; have p3 := HB1.out.cell 3 _ rfl; have p4 := HB1.out.cell 4 _ rfl)
      (have q0 := HB2.out.cell 0 _ rfl; have q1 := HB2.out.cell 1 _ rfl; have q2 := HB2.out.cell 2 _ rfl; have q3 := HB2.out.cell 3 _ rfl; have q4 := HB2.out.cell 4 _ rfl)
      have Hg1 := Lib.hid (validB_good H1.out)
      have Hg2 := Lib.hid (validB_good H2.out)
      have Hgk := Lib.hid (entsB_good He.out _ (List.getElem_mem hlt))
      have Hsz := Lib.hid hsz
      clear hsz
      have HA : Hid (∀ w', Grow wr w' → Calls Try.prog 89 #[.agg #[.int .i64 lo.kind, .int .i64 lo.num, .string lo.text, .slice na lo.names.length nc, .slice ka lo.kids.length kc], .agg #[.int .i64 l[k].1.kind, .int .i64 l[k].1.num, .string l[k].1.text, .slice na0 l[k].1.names.length nc0, .slice ka0 l[k].1.kids.length kc0]] w' fun e w'' => e = .returned (.int .i64 (cmpN lo l[k].1)) ∧ Grow w' w'') := Lib.hid (fun w' hg => compare_ok lo l[k].1 _ _ _ Hg1.out Hgk.out ⟨_, _, _, _, rfl, Hc.out.grow' (hg0.trans hg)⟩ ⟨_, _, _, _, rfl, H0.out.grow' hg⟩)
      have HC : Hid (∀ w', Grow wr w' → Calls Try.prog 89 #[.agg #[.int .i64 l[k].1.kind, .int .i64 l[k].1.num, .string l[k].1.text, .slice na0 l[k].1.names.length nc0, .slice ka0 l[k].1.kids.length kc0], .agg #[.int .i64 hi.kind, .int .i64 hi.num, .string hi.text, .slice na2 hi.names.length nc2, .slice ka2 hi.kids.length kc2]] w' fun e w'' => e = .returned (.int .i64 (cmpN l[k].1 hi)) ∧ Grow w' w'') := Lib.hid (fun w' hg => compare_ok l[k].1 hi _ _ _ Hgk.out Hg2.out ⟨_, _, _, _, rfl, H0.out.grow' hg⟩ ⟨_, _, _, _, rfl, Hc2.out.grow' (hg0.trans hg)⟩)
      by_cases hb : frB lo hi l[k] = true
      · have Hs := Lib.hid (frL_yes hlt hb)
        have h12 : cmpN lo l[k].1 ≤ 0 ∧ cmpN l[k].1 hi ≤ 0 := by unfold frB at hb; simpa using hb
        obtain ⟨h1, h2⟩ := h12
        clear hb
        go_wp2_with fail
        (refine wp_region_later (by kernel_rfl) (by kernel_rfl) ?_; (repeat (first | go_big_quiet_step ((go_at_call 89; first | with_reducible exact later_call (v := .int .i64 (cmpN lo l[k].1)) (HA.out _ (later_grow _ _)) | with_reducible exact later_call (v := .int .i64 (cmpN l[k].1 hi)) (HC.out _ (later_grow _ _)))) | quiet_step ((go_at_call 89; first | with_reducible exact later_call (v := .int .i64 (cmpN lo l[k].1)) (HA.out _ (later_grow _ _)) | with_reducible exact later_call (v := .int .i64 (cmpN l[k].1 hi)) (HC.out _ (later_grow _ _)))))); refine wpQuiet_nil ?_; rintro _ ⟨x_w6, rfl⟩; have hg_w6 := later_grow wr x_w6; generalize later wr x_w6 = w6 at hg_w6 ⊢)

        have Hg56 := Lib.hid hg_w6
        have Hrow6 := Lib.hid (row_grow Hrow.out hg_w6)
        have hz6 := hg_w6.size
        have e5 := hg_w6.some x5
        clear p0 p1 p2 p3 p4
        clear q0 q1 q2 q3 q4
        clear x0 x1 x2 x3 x4 x5
        obtain ⟨i0, hi0, hz0, hz1, hz2⟩ := info_parts info_string
        go_wp2_with (at_builtin; (refine wpList_append_own _ rfl _ _ 23 rfl (w.heap.size + 2) 9 i0 (.string ⟨#[]⟩) 1 16 Try.underlying23 hi0 hz0 hz1 hz2 rfl (by decide) t _ _ rfl (row_grow Hrow6.out ((Ext.refl nil w6).alloc _)) ⟨w6.heap.size, 0, none⟩ 1 1 [.string l[k].2] rfl ?c1 ?c2 ?c3 ?c4 ?c5 ?c6 ?_))
        case c1 => rfl
        case c2 =>
          intro j u hu
          rw [addr_add, Nat.zero_add]
          exact (BoxN.new w6 [.string l[k].2] 9).cell j u hu
        case c3 => simp [Value.oneCell']
        case c4 => unfold maxLen; omega
        case c5 => omega
        case c6 => simp; omega
        intro v' w7 hown7 hgrow7 _
        have hb3 : ∀ b, t.ownBlock = some b → w.heap.size + 1 < b := fun b e => by have := (Hrow.out.lt b e).1; omega
        have hg7 : Grow w w7 := grown_ext ((hg0.trans Hg56.out).alloc _) hgrow7 (fun b e => by have := hb3 b e; omega)
        have B1 := (HB1.out.grow ((Hg56.out).alloc _)).grown hgrow7 (fun b e => by have := hb3 b e; omega)
        have B2 := (HB2.out.grow ((Hg56.out).alloc _)).grown hgrow7 hb3
        have Hown7 := Lib.hid hown7
        clear hown7 hgrow7 hb3 hg0 hg_w6
        go_wp2_with fail
        go_roundw
        case rel =>
          refine ⟨hg7, B1, B2, _, k + 1, rfl, by omega, by go_num, ?_⟩
          rw [Hs.out]
          simpa using Hown7.out
        case measure => simp [intOf]; omega
      · have hb' : frB lo hi l[k] = false := by simpa using hb
        have Hs := Lib.hid (frL_no hlt hb')
        by_cases h1 : cmpN lo l[k].1 ≤ 0
        · have h2 : ¬ cmpN l[k].1 hi ≤ 0 := fun h2 => hb (by unfold frB; simp [h1, h2])
          clear hb hb'
          go_wp2_with fail
          (refine wp_region_later (by kernel_rfl) (by kernel_rfl) ?_; (repeat (first | go_big_quiet_step ((go_at_call 89; first | with_reducible exact later_call (v := .int .i64 (cmpN lo l[k].1)) (HA.out _ (later_grow _ _)) | with_reducible exact later_call (v := .int .i64 (cmpN l[k].1 hi)) (HC.out _ (later_grow _ _)))) | quiet_step ((go_at_call 89; first | with_reducible exact later_call (v := .int .i64 (cmpN lo l[k].1)) (HA.out _ (later_grow _ _)) | with_reducible exact later_call (v := .int .i64 (cmpN l[k].1 hi)) (HC.out _ (later_grow _ _)))))); refine wpQuiet_nil ?_; rintro _ ⟨x_w6, rfl⟩; have hg_w6 := later_grow wr x_w6; generalize later wr x_w6 = w6 at hg_w6 ⊢)
          go_wp2_with fail
          go_roundw
          case rel => exact ⟨hg0.trans hg_w6, HB1.out.grow hg_w6, HB2.out.grow hg_w6, _, k + 1, rfl, by omega, by go_num, by rw [Hs.out]; exact row_grow Hrow.out hg_w6⟩
          case measure => simp [intOf]; omega
        · have b1 : decide (cmpN lo l[k].1 ≤ 0) = false := by simpa using h1
          clear hb hb'
          go_wp2_with fail
          (refine wp_region_later (by kernel_rfl) (by kernel_rfl) ?_; (repeat (first | go_big_quiet_step ((go_at_call 89; first | with_reducible exact later_call (v := .int .i64 (cmpN lo l[k].1)) (HA.out _ (later_grow _ _)) | with_reducible exact later_call (v := .int .i64 (cmpN l[k].1 hi)) (HC.out _ (later_grow _ _)))) | quiet_step ((go_at_call 89; first | with_reducible exact later_call (v := .int .i64 (cmpN lo l[k].1)) (HA.out _ (later_grow _ _)) | with_reducible exact later_call (v := .int .i64 (cmpN l[k].1 hi)) (HC.out _ (later_grow _ _)))))); refine wpQuiet_nil ?_; rintro _ ⟨x_w6, rfl⟩; have hg_w6 := later_grow wr x_w6; generalize later wr x_w6 = w6 at hg_w6 ⊢)
          go_wp2_with fail
          go_roundw
          case rel => exact ⟨hg0.trans hg_w6, HB1.out.grow hg_w6, HB2.out.grow hg_w6, _, k + 1, rfl, by omega, by go_num, by rw [Hs.out]; exact row_grow Hrow.out hg_w6⟩
          case measure => simp [intOf]; omega
    · have hke : k = l.length := by omega
      go_wp2_with fail
      go_ret
      refine ⟨_, rfl, hg0, ?_⟩
      rw [Hf.out]
      have hrow := Hrow.out
      rw [hke, List.take_length] at hrow
      exact OwnS.row (by omega) hrow (fun x hx => by obtain ⟨e, he, rfl⟩ := frL_mem hx; exact entsR_texts Hn.out e he)


end Go.Proofs.Ytchiakeceiefdaa

/-
  The walks of the laws' copies of Entry. (Printed by wip/gento.py.)
-/
namespace Go.Proofs.Ytchiakeceiefdaa
open Go.RowKit

set_option maxHeartbeats 4000000 in
theorem toEntry_ok (x : Ent) (cs : List Value) (w : World) (hcost : costEnt x ≤ 1048576) (hx : entRep.R w any x cs) :
    Calls Try.prog 90 #[.agg cs.toArray] w fun e w' => ∃ cs' fp, e = .returned (.agg (cs' : List Value).toArray) ∧ Grow w w' ∧ entRep.F w' x cs' fp ∧ Free w.heap.size w' fp := by
  have hce : costEnt x = costN x.1 + x.2.size := rfl
  rw [hce] at hcost
  obtain ⟨na0, nc0, ka0, kc0, rfl, h0, h1⟩ := entRep_open hx
  have H0 := Lib.hid h0
  have H1 := Lib.hid h1
  clear hx hce h0 h1
  have B0 := ((BoxN.new w (entL x na0 nc0 ka0 kc0) 133).grow ((Ext.refl nil _).alloc (.cells #[.int .i64 0, .int .i64 0, .string ⟨#[]⟩, .slice none 0 0, .slice none 0 0, .string ⟨#[]⟩] 136))).grow ((Ext.refl nil _).alloc (.cells #[.int .i64 0, .int .i64 0, .string ⟨#[]⟩, .slice none 0 0, .slice none 0 0, .string ⟨#[]⟩] 136))
  have B1 := (BoxN.new1 w (.cells (entL x na0 nc0 ka0 kc0).toArray 133) [.int .i64 0, .int .i64 0, .string ⟨#[]⟩, .slice none 0 0, .slice none 0 0, .string ⟨#[]⟩] 136).grow ((Ext.refl nil _).alloc (.cells #[.int .i64 0, .int .i64 0, .string ⟨#[]⟩, .slice none 0 0, .slice none 0 0, .string ⟨#[]⟩] 136))
  have B2 := BoxN.new2 w (.cells (entL x na0 nc0 ka0 kc0).toArray 133) (.cells #[.int .i64 0, .int .i64 0, .string ⟨#[]⟩, .slice none 0 0, .slice none 0 0, .string ⟨#[]⟩] 136) [.int .i64 0, .int .i64 0, .string ⟨#[]⟩, .slice none 0 0, .slice none 0 0, .string ⟨#[]⟩] 136
  have hgp : Grow w (((w.alloc (.cells (entL x na0 nc0 ka0 kc0).toArray 133)).alloc (.cells #[.int .i64 0, .int .i64 0, .string ⟨#[]⟩, .slice none 0 0, .slice none 0 0, .string ⟨#[]⟩] 136)).alloc (.cells #[.int .i64 0, .int .i64 0, .string ⟨#[]⟩, .slice none 0 0, .slice none 0 0, .string ⟨#[]⟩] 136)) := (by repeat (first | with_reducible exact Ext.refl _ _ | with_reducible refine Ext.trans ?_ (by assumption) | with_reducible refine Ext.drew ?_ | with_reducible refine Ext.drewN ?_ _ | with_reducible refine Ext.alloc ?_ _ | with_reducible refine Ext.setNew ?_ (by simp; done) _ | with_reducible refine Ext.setNew ?_ (by simp; omega) _))
  have HB0 := Lib.hid B0
  have HB1 := Lib.hid B1
  have HB2 := Lib.hid B2
  have Hgp := Lib.hid hgp
  clear B0 B1 B2 hgp
  unfold entL at *
  go_enter Try.func90, Try.ntmps90
  go_wp2_with fail
  refine (toNode_ok x.1 (nodeV x.1 na0 nc0 ka0 kc0) _ (by omega) ⟨_, _, _, _, rfl, H0.out.grow' (Ext.trans Hgp.out (Ext.refl _ _))⟩).mono ?_
  rintro e w1 ⟨v0, f0, rfl, hg, hF, hf⟩
  obtain ⟨na0', nc0', ka0', kc0', rfl, hF⟩ := hF
  have e0 := Ext.trans (Ext.refl (fun k => k = w.heap.size + 1 ∨ k = w.heap.size + 1 + 1) _) (hg.toX' (X := (fun k => k = w.heap.size + 1 ∨ k = w.heap.size + 1 + 1)))
  have B0 := HB0.out.grow hg
  have B1 := HB1.out.grow hg
  have B2 := HB2.out.grow hg
  have hgp := Hgp.out.inner e0 (by intro i hi; omega)
  simp only [World.size_alloc] at hf
  have Hf0 := Lib.hid hf
  have HF0 := Lib.hid hF
  have HE0 := Lib.hid e0
  clear hg hF hf e0 HB0 HB1 HB2 Hgp
  have HB0 := Lib.hid B0
  have HB1 := Lib.hid B1
  have HB2 := Lib.hid B2
  have Hgp := Lib.hid hgp
  clear B0 B1 B2 hgp
  unfold nodeV
  have p0 := HB0.out.cell 0 _ rfl
  have p1 := HB0.out.cell 1 _ rfl
  have p2 := HB0.out.cell 2 _ rfl
  have p3 := HB0.out.cell 3 _ rfl
  have p4 := HB0.out.cell 4 _ rfl
  have p5 := HB0.out.cell 5 _ rfl
  have q0 := HB2.out.cell 0 _ rfl
  have q1 := HB2.out.cell 1 _ rfl
  have q2 := HB2.out.cell 2 _ rfl
  have q3 := HB2.out.cell 3 _ rfl
  have q4 := HB2.out.cell 4 _ rfl
  have q5 := HB2.out.cell 5 _ rfl
  have qf := HB2.out.fr
  have r0 := HB1.out.cell 0 _ rfl
  have r1 := HB1.out.cell 1 _ rfl
  have r2 := HB1.out.cell 2 _ rfl
  have r3 := HB1.out.cell 3 _ rfl
  have r4 := HB1.out.cell 4 _ rfl
  have r5 := HB1.out.cell 5 _ rfl
  have rf := HB1.out.fr
  have z1 : w.heap.size + 1 + 1 < w1.heap.size := HB2.out.lt
  go_wp2_with fail
  clear p0 q0 p1 q1 p2 q2 p3 q3 p4 q4 p5 q5 qf rf r0 r1 r2 r3 r4 r5
  have BF := ((((((((((((HB1.out.other (p := ⟨w.heap.size + 1 + 1, 0, none⟩) (by simp) (.int .i64 x.1.kind)).other (p := ⟨w.heap.size + 1 + 1, 1, none⟩) (by simp) (.int .i64 x.1.num)).other (p := ⟨w.heap.size + 1 + 1, 2, none⟩) (by simp) (.string x.1.text)).other (p := ⟨w.heap.size + 1 + 1, 3, none⟩) (by simp) (.slice na0' x.1.names.length nc0')).other (p := ⟨w.heap.size + 1 + 1, 4, none⟩) (by simp) (.slice ka0' x.1.kids.length kc0')).other (p := ⟨w.heap.size + 1 + 1, 5, none⟩) (by simp) (.string x.2)).set 0 (by simp) (.int .i64 x.1.kind)).set 1 (by simp) (.int .i64 x.1.num)).set 2 (by simp) (.string x.1.text)).set 3 (by simp) (.slice na0' x.1.names.length nc0')).set 4 (by simp) (.slice ka0' x.1.kids.length kc0')).set 5 (by simp) (.string x.2))
  have x0 : ∀ b ∈ f0, ¬ (b = w.heap.size + 1 ∨ b = w.heap.size + 1 + 1) := fun b hb => by have := (Hf0.out.2 b hb).1; omega
  have fin : ∀ W, Ext (fun k => k = w.heap.size + 1 ∨ k = w.heap.size + 1 + 1) w1 W → ∃ cs' fp, Ending.returned (.agg ([.int .i64 x.1.kind, .int .i64 x.1.num, .string x.1.text, .slice na0' x.1.names.length nc0', .slice ka0' x.1.kids.length kc0', .string x.2] : List Value).toArray) = Ending.returned (.agg (cs' : List Value).toArray) ∧ Grow w W ∧ entRep.F W x cs' fp ∧ Free w.heap.size W fp := by
    intro W hW
    have g0 : Ext (fun k => k = w.heap.size + 1 ∨ k = w.heap.size + 1 + 1) w1 W := hW
    have F0 := Hf0.out.ext g0 x0
    have k0 := HF0.out.keep (g0.keeps Hf0.out x0)
    refine ⟨_, (f0 ++ []), rfl, Hgp.out.inner hW (by intro i hi; omega), ⟨[.int .i64 x.1.kind, .int .i64 x.1.num, .string x.1.text, .slice na0' x.1.names.length nc0', .slice ka0' x.1.kids.length kc0'], [.string x.2], f0, [], rfl, rfl, ⟨na0', nc0', ka0', kc0', rfl, k0⟩, ⟨rfl, H1.out, rfl⟩⟩, ?_⟩
    simp only [List.append_nil]
    exact F0.mono (by omega)
  have r0 := BF.cell 0 _ rfl
  have r1 := BF.cell 1 _ rfl
  have r2 := BF.cell 2 _ rfl
  have r3 := BF.cell 3 _ rfl
  have r4 := BF.cell 4 _ rfl
  have r5 := BF.cell 5 _ rfl
  refine bodyPost_ret (v := .agg #[.int .i64 x.1.kind, .int .i64 x.1.num, .string x.1.text, .slice na0' x.1.names.length nc0', .slice ka0' x.1.kids.length kc0', .string x.2]) ?_ rfl ?_
  · simp [results, Try.results90, go_sem, r0, r1, r2, r3, r4, r5]
  · refine fin _ ?_
    exact (by repeat (first | with_reducible exact Ext.refl _ _ | with_reducible refine Ext.setIn ?_ (by simp) _ | with_reducible refine Ext.trans ?_ (Ext.mono (by assumption) (fun _ h => False.elim h))))

theorem info_Entry : (Try.prog.info? 136).map (fun i => (i.zero, i.size, i.bytes)) = some (some (.agg #[.int .i64 0, .int .i64 0, .string ⟨#[]⟩, .slice none 0 0, .slice none 0 0, .string ⟨#[]⟩]), 6, 96) := by kernel_rfl

set_option maxHeartbeats 2000000 in
theorem toEntryS_ok (l : List Ent) (a : Option Addr) (c : Nat) (w : World) (hcost : costEntL l ≤ 1048576) (hn : SlR entRep w any a c l) :
    Calls Try.prog 38 #[.slice a l.length c] w fun e w' => ∃ a' c' fp, e = .returned (.slice a' l.length c') ∧ Grow w w' ∧ SlF entRep w' a' c' l fp ∧ Free w.heap.size w' fp := by
  have hb : l.length ≤ 1048576 := by unfold costEntL at hcost; omega
  have Hn := Lib.hid hn
  clear hn
  have hmk := run_mk (P := Try.prog) 81 136 _ 6 96 Try.underlying81 info_Entry .i64 .i64 l.length (by omega) (by omega)
  go_enter Try.func38, Try.ntmps38
  go_wp2
  clear hmk
  go_loopw [4] (fun i wr => ∃ (k : Nat) (fp : List Nat), k ≤ l.length ∧ i = .int .i64 k ∧ Grow w wr ∧ RowIn wr w.heap.size (l.length * 6) ∧ RowF entRep wr w.heap.size 0 (l.take k) fp ∧ Free (w.heap.size + 1) wr fp) (fun i _ => l.length - (intOf i).toNat)
  case atStart => exact ⟨0, [], Nat.zero_le _, rfl, (Ext.refl _ _).alloc _, RowIn.made _ _ _ _, rfl, Free.nil _ _⟩
  case round =>
    obtain ⟨k, fp, hk, rfl, hg, hrow, hkf, hfr⟩ := hrel
    have Hrow := Lib.hid hrow
    have Hkf := Lib.hid hkf
    have Hfr := Lib.hid hfr
    clear hrow hkf hfr
    by_cases hlt : k < l.length
    · obtain ⟨_, _, hks⟩ := (Hn.out).grow hg
      rcases hks with hks | ⟨bk, ok, rfl, _, hkr⟩
      · simp [hks] at hlt
      obtain ⟨cs, hcs, hx⟩ := hkr k hlt
      have Hx := Lib.hid hx
      obtain ⟨na0, nc0, ka0, kc0, rfl, h0, h1⟩ := entRep_open hx
      rw [entRep_n] at hcs
      have x0 : wr.cell? ⟨bk, ok + k * 6, none⟩ = _ := hcs 0 _ rfl
      have x1 := hcs 1 _ rfl
      have x2 := hcs 2 _ rfl
      have x3 := hcs 3 _ rfl
      have x4 := hcs 4 _ rfl
      have x5 := hcs 5 _ rfl
      have hck := costEnt_get l k hlt
      clear hkr hcs hx h0 h1
      go_wp2_with fail
      refine (toEntry_ok l[k] _ _ (by omega) Hx.out).mono ?_
      rintro e w2 ⟨ds, f', rfl, hg2, hN, hf'⟩
      clear x0 x1 x2 x3 x4 x5
      have Hl := entRep.flen hN
      have HN := Lib.hid hN
      obtain ⟨na0', nc0', ka0', kc0', rfl, g0, g1⟩ := entRep_openF hN
      have hrow2 := Hrow.out.ext hg2 (fun h => h)
      have hfz := hrow2.2.2
      obtain ⟨u0, d0⟩ := hrow2.2.1 (k * 6) (by omega)
      obtain ⟨u1, d1⟩ := hrow2.2.1 (k * 6 + 1) (by omega)
      obtain ⟨u2, d2⟩ := hrow2.2.1 (k * 6 + 2) (by omega)
      obtain ⟨u3, d3⟩ := hrow2.2.1 (k * 6 + 3) (by omega)
      obtain ⟨u4, d4⟩ := hrow2.2.1 (k * 6 + 4) (by omega)
      obtain ⟨u5, d5⟩ := hrow2.2.1 (k * 6 + 5) (by omega)
      have Hrow2 := Lib.hid hrow2
      clear hrow2 hN Hl g0 g1
      unfold entL at *
      go_wp2_with fail
      clear d0 d1 d2 d3 d4 d5 hfz
      have hl : (l.take k).length = k := by simp; omega
      have hbf : w.heap.size ∉ fp := fun h => by have := (Hfr.out.2 _ h).1; omega
      have hbf' : w.heap.size ∉ f' := fun h => by have := (hf'.2 _ h).1; have := Hrow.out.1; omega
      have hfr2 := Hfr.out.ext hg2 (fun _ _ h => h)
      have hkf2 := Hkf.out.keep (hg2.keeps Hfr.out (fun _ _ h => h)) (fun o' _ ho => hg2.cell (p := ⟨w.heap.size, o', none⟩) Hrow.out.1 (fun h => h))
      have hlay := RowF.lay Hrow2.out hkf2 HN.out (by rw [hl, entRep_n]; omega) hbf hbf'
      rw [hl, entRep_n] at hlay
      have hfr3 := Free.append Hfr.out hf' hg2 (Nat.le_refl _) (by have := Hrow.out.1; omega)
      go_roundw
      case rel =>
        rw [show ((((((w2.setCell ⟨w.heap.size, k * 6, none⟩ (.int .i64 l[k].1.kind)).setCell ⟨w.heap.size, k * 6 + 1, none⟩ (.int .i64 l[k].1.num)).setCell ⟨w.heap.size, k * 6 + 2, none⟩ (.string l[k].1.text)).setCell ⟨w.heap.size, k * 6 + 3, none⟩ (.slice na0' l[k].1.names.length nc0')).setCell ⟨w.heap.size, k * 6 + 4, none⟩ (.slice ka0' l[k].1.kids.length kc0')).setCell ⟨w.heap.size, k * 6 + 5, none⟩ (.string l[k].2)) = storeL w2 w.heap.size (k * 6) [.int .i64 l[k].1.kind, .int .i64 l[k].1.num, .string l[k].1.text, .slice na0' l[k].1.names.length nc0', .slice ka0' l[k].1.kids.length kc0', .string l[k].2] from rfl]
        exact ⟨k + 1, fp ++ f', by omega, by go_num, Grow.inner (hg.trans hg2) (storeL_ext w.heap.size [.int .i64 l[k].1.kind, .int .i64 l[k].1.num, .string l[k].1.text, .slice na0' l[k].1.names.length nc0', .slice ka0' l[k].1.kids.length kc0', .string l[k].2] w2 (k * 6)) (by intro i hi; omega), storeL_row _ _ _ Hrow2.out, by rw [take_snoc' _ _ hlt]; exact hlay, storeL_free _ _ _ hfr3⟩
      case measure => simp [intOf]; omega
    · have hke : k = l.length := by omega
      subst hke
      go_wp2
      go_ret
      rw [List.take_length] at Hkf
      by_cases hne : l = []
      · subst hne
        exact ⟨_, _, [], rfl, hg, ⟨Nat.le_refl _, by simp, .inl ⟨rfl, rfl⟩⟩, Free.nil _ _⟩
      · exact ⟨_, _, w.heap.size :: fp, rfl, hg, ⟨Nat.le_refl _, Hn.out.2.1, .inr ⟨_, 0, fp, hne, rfl, rfl, Hkf.out⟩⟩, Free.cons Hrow.out (Nat.le_refl _) Hfr.out⟩

end Go.Proofs.Ytchiakeceiefdaa

/-
  The walks of impl.FitsShape and spec.FitsShape.
-/
namespace Go.Proofs.Ytchiakeceiefdaa
open Go.RowKit

def fitsV (x : Shp) (n : Nd) : Bool := shpB x 5 && validB n && fitB x n

theorem GoodS.head' {x : Shp} {d : Nat} (h : shpB x d = true) : shpHead x = true := by
  rw [shpB_eq] at h
  simp only [Bool.and_eq_true] at h
  exact h.1.2

theorem misL_fit (n : Nd) : ∀ (ks : List Shp), (∀ k ∈ ks, ∀ m, (mis k m).isSome = !fitB k m) → ∀ (ns : List ByteArray) (bs : List Bool), (misL ns bs ks n).isSome = !fitL ns bs ks n
  | [], _, ns, bs => by cases ns <;> cases bs <;> simp [misL, fitL]
  | k :: ks, hk, [], bs => by simp [misL, fitL]
  | k :: ks, hk, nm :: ns, [] => by simp [misL, fitL]
  | k :: ks, hk, nm :: ns, nd :: bs => by
    have ih := misL_fit n ks (fun k' hk' => hk k' (by simp [hk'])) ns bs
    have h0 := hk k (by simp) (kidOf n nm)
    rw [misL, fitL]
    cases hm : mem n.names nm
    · cases nd
      · simpa using ih
      · simp
    · cases hx : mis k (kidOf n nm) with
      | none => rw [hx] at h0; simp at h0; simpa [h0] using ih
      | some p => rw [hx] at h0; simp at h0; simp [h0]

theorem mis_fit : ∀ (d : Nat) (x : Shp) (n : Nd), shpB x d = true → (mis x n).isSome = !fitB x n
  | 0, x, n, h => by rw [shpB_eq] at h; simp at h
  | d + 1, x, n, h => by
    have hh : shpHead x = true := GoodS.head' h
    rw [shpB_eq, shpL_all] at h
    simp only [Bool.and_eq_true, List.all_eq_true, Nat.add_sub_cancel] at h
    obtain ⟨p1, p2, p3, p4, p5, p6⟩ := shpHead_parts hh
    have hl := misL_fit n x.kids (fun k hk m => mis_fit d k m (h.2 k hk)) x.names x.needs
    rw [mis_eq, fitB_eq]
    by_cases h0 : x.kind = 0
    · have : x.names = [] := by
        rcases p6 with p6 | p6
        · exact List.length_eq_zero_iff.1 p6
        · omega
      rw [this]
      simp [h0, fitL]
    · rw [if_neg h0]
      by_cases h1 : x.kind ≠ n.kind
      · rw [if_pos h1]
        have : ¬ n.kind = x.kind := fun h => h1 h.symm
        simp [h0, this]
      · rw [if_neg h1]
        have : n.kind = x.kind := by omega
        simp [h0, this, hl]

theorem GoodS.mis {x : Shp} (h : GoodS x) (n : Nd) : (Go.Proofs.Ytchiakeceiefdaa.mis x n).isSome = !fitB x n := by
  obtain ⟨d, _, h⟩ := h
  exact mis_fit d x n h

set_option maxHeartbeats 400000 in
theorem implValidShape_ok (x : Shp) (v : Value) (w : World) (hn : ShapeR w any x v) :
    Calls Try.prog 13 #[v] w fun e w' => e = .returned (.bool (shpB x 5)) ∧ Grow w w' := by
  have Hn := Lib.hid hn
  obtain ⟨na, nc, ba, bc, ka, kc, rfl, hc⟩ := hn
  clear hc
  unfold shapeV at *
  go_enter Try.func13, Try.ntmps13
  go_wp2_with fail
  refine (isShape_ok x 5 _ _ (by omega) (Hn.out.grow (by repeat (first | with_reducible exact Ext.refl _ _ | with_reducible refine Ext.trans ?_ (by assumption) | with_reducible refine Ext.drew ?_ | with_reducible refine Ext.drewN ?_ _ | with_reducible refine Ext.alloc ?_ _ | with_reducible refine Ext.setNew ?_ (by simp; done) _ | with_reducible refine Ext.setNew ?_ (by simp; omega) _)))).mono ?_
  rintro e w2 ⟨rfl, hg2⟩
  go_wp2_with fail
  go_ret
  exact ⟨by simp, (by repeat (first | with_reducible exact Ext.refl _ _ | with_reducible refine Ext.trans ?_ (by assumption) | with_reducible refine Ext.drew ?_ | with_reducible refine Ext.drewN ?_ _ | with_reducible refine Ext.alloc ?_ _ | with_reducible refine Ext.setNew ?_ (by simp; done) _ | with_reducible refine Ext.setNew ?_ (by simp; omega) _))⟩

set_option maxHeartbeats 2000000 in
theorem implFitsShape_ok (x : Shp) (n : Nd) (v u : Value) (w : World) (hx : ShapeR w any x v) (hn : NodeR w any n u) :
    Calls Try.prog 11 #[v, u] w fun e w' => e = .returned (.bool (fitsV x n)) ∧ Grow w w' := by
  have Hx := Lib.hid hx
  have Hn := Lib.hid hn
  obtain ⟨na, nc, ba, bc, ka, kc, rfl, hc⟩ := hx
  obtain ⟨na2, nc2, ka2, kc2, rfl, hc2⟩ := hn
  clear hc hc2
  unfold shapeV nodeV at *
  cases h1 : shpB x 5
  · have Hf : Hid (fitsV x n = false) := Lib.hid (by simp [fitsV, h1])
    have H1 := Lib.hid h1
    clear h1
    go_enter Try.func11, Try.ntmps11
    go_wp2_with fail
    refine (implValidShape_ok x _ _ (Hx.out.grow (by repeat (first | with_reducible exact Ext.refl _ _ | with_reducible refine Ext.trans ?_ (by assumption) | with_reducible refine Ext.drew ?_ | with_reducible refine Ext.drewN ?_ _ | with_reducible refine Ext.alloc ?_ _ | with_reducible refine Ext.setNew ?_ (by simp; done) _ | with_reducible refine Ext.setNew ?_ (by simp; omega) _)))).mono ?_
    rintro e w2 ⟨rfl, hg2⟩
    simp only [H1.out]
    go_wp2_with fail
    go_ret
    exact ⟨by simp [Hf.out], (by repeat (first | with_reducible exact Ext.refl _ _ | with_reducible refine Ext.trans ?_ (by assumption) | with_reducible refine Ext.drew ?_ | with_reducible refine Ext.drewN ?_ _ | with_reducible refine Ext.alloc ?_ _ | with_reducible refine Ext.setNew ?_ (by simp; done) _ | with_reducible refine Ext.setNew ?_ (by simp; omega) _))⟩
  cases h2 : validB n
  · have Hf : Hid (fitsV x n = false) := Lib.hid (by simp [fitsV, h2])
    have H1 := Lib.hid h1
    have H2 := Lib.hid h2
    clear h1 h2
    go_enter Try.func11, Try.ntmps11
    go_wp2_with fail
    refine (implValidShape_ok x _ _ (Hx.out.grow (by repeat (first | with_reducible exact Ext.refl _ _ | with_reducible refine Ext.trans ?_ (by assumption) | with_reducible refine Ext.drew ?_ | with_reducible refine Ext.drewN ?_ _ | with_reducible refine Ext.alloc ?_ _ | with_reducible refine Ext.setNew ?_ (by simp; done) _ | with_reducible refine Ext.setNew ?_ (by simp; omega) _)))).mono ?_
    rintro e w2 ⟨rfl, hg2⟩
    simp only [H1.out]
    have hcc2 := bcell hg2
    go_wp2_with fail
    refine (ValidNode_ok n _ _ (Hn.out.grow (by repeat (first | with_reducible exact Ext.refl _ _ | with_reducible refine Ext.trans ?_ (by assumption) | with_reducible refine Ext.drew ?_ | with_reducible refine Ext.drewN ?_ _ | with_reducible refine Ext.alloc ?_ _ | with_reducible refine Ext.setNew ?_ (by simp; done) _ | with_reducible refine Ext.setNew ?_ (by simp; omega) _)))).mono ?_
    rintro e w3 ⟨rfl, hg3⟩
    simp only [H2.out]
    go_wp2_with fail
    go_ret
    exact ⟨by simp [Hf.out], (by repeat (first | with_reducible exact Ext.refl _ _ | with_reducible refine Ext.trans ?_ (by assumption) | with_reducible refine Ext.drew ?_ | with_reducible refine Ext.drewN ?_ _ | with_reducible refine Ext.alloc ?_ _ | with_reducible refine Ext.setNew ?_ (by simp; done) _ | with_reducible refine Ext.setNew ?_ (by simp; omega) _))⟩
  have hgs : GoodS x := ⟨5, by omega, h1⟩
  have Hf : Hid (fitsV x n = !(mis x n).isSome) := Lib.hid (by rw [hgs.mis]; simp [fitsV, h1, h2])
  have Hgs := Lib.hid hgs
  have Hgn := Lib.hid (validB_good h2)
  have H1 := Lib.hid h1
  have H2 := Lib.hid h2
  clear h1 h2 hgs
  go_enter Try.func11, Try.ntmps11
  go_wp2_with fail
  refine (implValidShape_ok x _ _ (Hx.out.grow (by repeat (first | with_reducible exact Ext.refl _ _ | with_reducible refine Ext.trans ?_ (by assumption) | with_reducible refine Ext.drew ?_ | with_reducible refine Ext.drewN ?_ _ | with_reducible refine Ext.alloc ?_ _ | with_reducible refine Ext.setNew ?_ (by simp; done) _ | with_reducible refine Ext.setNew ?_ (by simp; omega) _)))).mono ?_
  rintro e w2 ⟨rfl, hg2⟩
  simp only [H1.out]
  have hcc2 := bcell hg2
  go_wp2_with fail
  refine (ValidNode_ok n _ _ (Hn.out.grow (by repeat (first | with_reducible exact Ext.refl _ _ | with_reducible refine Ext.trans ?_ (by assumption) | with_reducible refine Ext.drew ?_ | with_reducible refine Ext.drewN ?_ _ | with_reducible refine Ext.alloc ?_ _ | with_reducible refine Ext.setNew ?_ (by simp; done) _ | with_reducible refine Ext.setNew ?_ (by simp; omega) _)))).mono ?_
  rintro e w3 ⟨rfl, hg3⟩
  simp only [H2.out]
  have hcc3 := bcell (hg2.trans hg3)
  clear hcc2
  go_wp2_with fail
  refine (misfit_ok x n _ _ _ Hgs.out Hgn.out (Hx.out.grow (by repeat (first | with_reducible exact Ext.refl _ _ | with_reducible refine Ext.trans ?_ (by assumption) | with_reducible refine Ext.drew ?_ | with_reducible refine Ext.drewN ?_ _ | with_reducible refine Ext.alloc ?_ _ | with_reducible refine Ext.setNew ?_ (by simp; done) _ | with_reducible refine Ext.setNew ?_ (by simp; omega) _))) (Hn.out.grow (by repeat (first | with_reducible exact Ext.refl _ _ | with_reducible refine Ext.trans ?_ (by assumption) | with_reducible refine Ext.drew ?_ | with_reducible refine Ext.drewN ?_ _ | with_reducible refine Ext.alloc ?_ _ | with_reducible refine Ext.setNew ?_ (by simp; done) _ | with_reducible refine Ext.setNew ?_ (by simp; omega) _)))).mono ?_
  rintro e w4 ⟨r, rfl, hg4, a, c, fp, rfl, _, _, _⟩
  go_wp2_with fail
  go_ret
  exact ⟨by simp [Hf.out], (by repeat (first | with_reducible exact Ext.refl _ _ | with_reducible refine Ext.trans ?_ (by assumption) | with_reducible refine Ext.drew ?_ | with_reducible refine Ext.drewN ?_ _ | with_reducible refine Ext.alloc ?_ _ | with_reducible refine Ext.setNew ?_ (by simp; done) _ | with_reducible refine Ext.setNew ?_ (by simp; omega) _))⟩

set_option maxHeartbeats 2000000 in
theorem specFitsShape_ok (x : Shp) (n : Nd) (v u : Value) (w : World) (hx : ShapeR w any x v) (hn : NodeR w any n u) :
    Calls Try.prog 12 #[v, u] w fun e w' => e = .returned (.bool (fitsV x n)) ∧ Grow w w' := by
  have Hx := Lib.hid hx
  have Hn := Lib.hid hn
  obtain ⟨na, nc, ba, bc, ka, kc, rfl, hc⟩ := hx
  obtain ⟨na2, nc2, ka2, kc2, rfl, hc2⟩ := hn
  clear hc hc2
  unfold shapeV nodeV at *
  cases h1 : shpB x 5
  · have Hf : Hid (fitsV x n = false) := Lib.hid (by simp [fitsV, h1])
    have H1 := Lib.hid h1
    clear h1
    go_enter Try.func12, Try.ntmps12
    go_wp2_with fail
    refine (validShape_ok x 5 _ _ (by omega) (Hx.out.grow (by repeat (first | with_reducible exact Ext.refl _ _ | with_reducible refine Ext.trans ?_ (by assumption) | with_reducible refine Ext.drew ?_ | with_reducible refine Ext.drewN ?_ _ | with_reducible refine Ext.alloc ?_ _ | with_reducible refine Ext.setNew ?_ (by simp; done) _ | with_reducible refine Ext.setNew ?_ (by simp; omega) _)))).mono ?_
    rintro e w2 ⟨rfl, hg2⟩
    simp only [H1.out]
    go_wp2_with fail
    go_ret
    exact ⟨by simp [Hf.out], (by repeat (first | with_reducible exact Ext.refl _ _ | with_reducible refine Ext.trans ?_ (by assumption) | with_reducible refine Ext.drew ?_ | with_reducible refine Ext.drewN ?_ _ | with_reducible refine Ext.alloc ?_ _ | with_reducible refine Ext.setNew ?_ (by simp; done) _ | with_reducible refine Ext.setNew ?_ (by simp; omega) _))⟩
  cases h2 : validB n
  · have Hf : Hid (fitsV x n = false) := Lib.hid (by simp [fitsV, h2])
    have H1 := Lib.hid h1
    have H2 := Lib.hid h2
    clear h1 h2
    go_enter Try.func12, Try.ntmps12
    go_wp2_with fail
    refine (validShape_ok x 5 _ _ (by omega) (Hx.out.grow (by repeat (first | with_reducible exact Ext.refl _ _ | with_reducible refine Ext.trans ?_ (by assumption) | with_reducible refine Ext.drew ?_ | with_reducible refine Ext.drewN ?_ _ | with_reducible refine Ext.alloc ?_ _ | with_reducible refine Ext.setNew ?_ (by simp; done) _ | with_reducible refine Ext.setNew ?_ (by simp; omega) _)))).mono ?_
    rintro e w2 ⟨rfl, hg2⟩
    simp only [H1.out]
    have hcc2 := bcell hg2
    go_wp2_with fail
    refine (validNode_ok n _ _ (Hn.out.grow (by repeat (first | with_reducible exact Ext.refl _ _ | with_reducible refine Ext.trans ?_ (by assumption) | with_reducible refine Ext.drew ?_ | with_reducible refine Ext.drewN ?_ _ | with_reducible refine Ext.alloc ?_ _ | with_reducible refine Ext.setNew ?_ (by simp; done) _ | with_reducible refine Ext.setNew ?_ (by simp; omega) _)))).mono ?_
    rintro e w3 ⟨rfl, hg3⟩
    simp only [H2.out]
    go_wp2_with fail
    go_ret
    exact ⟨by simp [Hf.out], (by repeat (first | with_reducible exact Ext.refl _ _ | with_reducible refine Ext.trans ?_ (by assumption) | with_reducible refine Ext.drew ?_ | with_reducible refine Ext.drewN ?_ _ | with_reducible refine Ext.alloc ?_ _ | with_reducible refine Ext.setNew ?_ (by simp; done) _ | with_reducible refine Ext.setNew ?_ (by simp; omega) _))⟩
  have hgs : GoodS x := ⟨5, by omega, h1⟩
  have Hf : Hid (fitsV x n = fitB x n) := Lib.hid (by simp [fitsV, h1, h2])
  have Hgs := Lib.hid hgs
  have Hgn := Lib.hid (validB_good h2)
  have H1 := Lib.hid h1
  have H2 := Lib.hid h2
  clear h1 h2 hgs
  go_enter Try.func12, Try.ntmps12
  go_wp2_with fail
  refine (validShape_ok x 5 _ _ (by omega) (Hx.out.grow (by repeat (first | with_reducible exact Ext.refl _ _ | with_reducible refine Ext.trans ?_ (by assumption) | with_reducible refine Ext.drew ?_ | with_reducible refine Ext.drewN ?_ _ | with_reducible refine Ext.alloc ?_ _ | with_reducible refine Ext.setNew ?_ (by simp; done) _ | with_reducible refine Ext.setNew ?_ (by simp; omega) _)))).mono ?_
  rintro e w2 ⟨rfl, hg2⟩
  simp only [H1.out]
  have hcc2 := bcell hg2
  go_wp2_with fail
  refine (validNode_ok n _ _ (Hn.out.grow (by repeat (first | with_reducible exact Ext.refl _ _ | with_reducible refine Ext.trans ?_ (by assumption) | with_reducible refine Ext.drew ?_ | with_reducible refine Ext.drewN ?_ _ | with_reducible refine Ext.alloc ?_ _ | with_reducible refine Ext.setNew ?_ (by simp; done) _ | with_reducible refine Ext.setNew ?_ (by simp; omega) _)))).mono ?_
  rintro e w3 ⟨rfl, hg3⟩
  simp only [H2.out]
  have hcc3 := bcell (hg2.trans hg3)
  clear hcc2
  go_wp2_with fail
  refine (fits_ok x n _ _ _ Hgs.out Hgn.out (Hx.out.grow (by repeat (first | with_reducible exact Ext.refl _ _ | with_reducible refine Ext.trans ?_ (by assumption) | with_reducible refine Ext.drew ?_ | with_reducible refine Ext.drewN ?_ _ | with_reducible refine Ext.alloc ?_ _ | with_reducible refine Ext.setNew ?_ (by simp; done) _ | with_reducible refine Ext.setNew ?_ (by simp; omega) _))) (Hn.out.grow (by repeat (first | with_reducible exact Ext.refl _ _ | with_reducible refine Ext.trans ?_ (by assumption) | with_reducible refine Ext.drew ?_ | with_reducible refine Ext.drewN ?_ _ | with_reducible refine Ext.alloc ?_ _ | with_reducible refine Ext.setNew ?_ (by simp; done) _ | with_reducible refine Ext.setNew ?_ (by simp; omega) _)))).mono ?_
  rintro e w4 ⟨rfl, hg4⟩
  go_wp2_with fail
  go_ret
  exact ⟨by simp [Hf.out], (by repeat (first | with_reducible exact Ext.refl _ _ | with_reducible refine Ext.trans ?_ (by assumption) | with_reducible refine Ext.drew ?_ | with_reducible refine Ext.drewN ?_ _ | with_reducible refine Ext.alloc ?_ _ | with_reducible refine Ext.setNew ?_ (by simp; done) _ | with_reducible refine Ext.setNew ?_ (by simp; omega) _))⟩

end Go.Proofs.Ytchiakeceiefdaa

/-
  The walks of the laws' helpers on shapes: sizes, copies, comparisons of a shape with itself.
-/
namespace Go.Proofs.Ytchiakeceiefdaa
open Go.RowKit

mutual
def costP : Shp → Nat
  | ⟨_, names, needs, kids⟩ => costS names + needs.length + costPL kids
def costPL : List Shp → Nat
  | [] => 0
  | k :: ks => 1 + costP k + costPL ks
end
theorem costP_eq (n : Shp) : costP n = costS n.names + n.needs.length + costPL n.kids := by cases n; simp [costP]
theorem costPL_len (l : List Shp) : l.length ≤ costPL l := by
  induction l with
  | nil => simp
  | cons a l ih => simp [costPL]; omega
theorem costPL_get (l : List Shp) (k : Nat) (h : k < l.length) : costP l[k] ≤ costPL l := by
  induction l generalizing k with
  | nil => simp at h
  | cons a l ih => cases k with
    | zero => simp [costPL]; omega
    | succ k => have := ih k (by simpa using h); simp [costPL]; omega
def sumP (l : List Shp) : Nat := (l.map costP).sum
theorem sumP_snoc (xs : List Shp) (x : Shp) : sumP (xs ++ [x]) = sumP xs + costP x := by simp [sumP]
theorem sumP_take (xs : List Shp) (k : Nat) : sumP (xs.take k) ≤ sumP xs := by
  unfold sumP; rw [List.map_take]; exact sum_take_le _ _
theorem costPL_eq (l : List Shp) : costPL l = l.length + sumP l := by
  induction l with
  | nil => simp [costPL, sumP]
  | cons a l ih => simp only [costPL, ih, sumP, List.map_cons, List.sum_cons, List.length_cons]; omega

/-- A slice of shapes. -/
def ShpLR (w : World) (S : Nat → Prop) (a : Option Addr) (c : Nat) (l : List Shp) : Prop :=
  l.length ≤ c ∧ l.length ≤ big ∧ (l = [] ∨ ∃ b o, a = some ⟨b, o, none⟩ ∧ S b ∧ ShpsR w S b o l)
theorem ShpLR.grow {S : Nat → Prop} {w w' : World} {a : Option Addr} {c : Nat} {l : List Shp} (hs : ShpLR w S a c l) (h : Grow w w') : ShpLR w' S a c l := by
  obtain ⟨h1, h2, h4⟩ := hs
  refine ⟨h1, h2, h4.imp id ?_⟩
  rintro ⟨b, o, rfl, hb, hc⟩
  exact ⟨b, o, rfl, hb, hc.ext h (fun _ _ h => h) (fun h => h)⟩
theorem BoolsR.grow {S : Nat → Prop} {w w' : World} {a : Option Addr} {c : Nat} {xs : List Bool} (hs : BoolsR w S a c xs) (h : Grow w w') : BoolsR w' S a c xs := hs.ext h (fun _ _ h => h)
theorem ShapeC.parts' {w : World} {S : Nat → Prop} {n : Shp} {na : Option Addr} {nc : Nat} {ba : Option Addr} {bc : Nat} {ka : Option Addr} {kc : Nat} (h : ShapeC w S n na nc ba bc ka kc) :
    StrsR w S na nc n.names ∧ BoolsR w S ba bc n.needs ∧ ShpLR w S ka kc n.kids := h.parts

set_option maxHeartbeats 400000 in
theorem szBoolS_ok (a : Option Addr) (c : Nat) (n : Nat) (left : Int) (w : World) (hn : n ≤ 9223372036854775807) (h0 : 0 ≤ left) (h1 : left ≤ 1048576) :
    Calls Try.prog 72 #[.slice a n c, .int .i64 left] w fun e w' => e = .returned (.int .i64 (szR n left)) ∧ Grow w w' := by
  by_cases hl : left < (n : Int)
  · have Hf := Lib.hid (szR_neg (c := n) (left := left) hl)
    go_enter Try.func72, Try.ntmps72
    go_wp2
    go_ret
    exact ⟨by rw [Hf.out]; simp, Ext.refl _ _⟩
  · have Hf := Lib.hid (szR_pos (c := n) (left := left) (by omega))
    go_enter Try.func72, Try.ntmps72
    go_wp2
    go_ret
    exact ⟨by rw [Hf.out]; simp, Ext.refl _ _⟩

def SzPOk (n : Shp) : Prop := ∀ (v : Value) (left : Int) (w : World), 0 ≤ left → left ≤ 1048576 → ShapeR w any n v →
    Calls Try.prog 25 #[v, .int .i64 left] w fun e w' => e = .returned (.int .i64 (szR (costP n) left)) ∧ Grow w w'

set_option maxHeartbeats 400000 in
theorem szShapeS_of (l : List Shp) (ih : ∀ k ∈ l, SzPOk k) (a : Option Addr) (c : Nat) (left : Int) (w : World) (hn : ShpLR w any a c l) (h0 : 0 ≤ left) (h1 : left ≤ 1048576) :
    Calls Try.prog 73 #[.slice a l.length c, .int .i64 left] w fun e w' => e = .returned (.int .i64 (szR (costPL l) left)) ∧ Grow w w' := by
  have hbig : l.length ≤ 9223372036854775807 := hn.2.1
  have Hn := Lib.hid hn
  have Ih := Lib.hid ih
  clear hn ih
  by_cases hl : left < (l.length : Int)
  · have Hf := Lib.hid (szR_neg (c := costPL l) (left := left) (by rw [costPL_eq]; omega))
    go_enter Try.func73, Try.ntmps73
    go_wp2
    go_ret
    exact ⟨by rw [Hf.out]; simp, Ext.refl _ _⟩
  · go_enter Try.func73, Try.ntmps73
    go_wp2
    go_loopw [1, 5] (fun t i wr => Grow w wr ∧ ∃ (k : Nat) (r : Int), k ≤ l.length ∧ i = .int .i64 k ∧ t = .int .i64 r ∧ 0 ≤ r ∧ r ≤ 1048576 ∧ Hid (r = left - l.length - sumP (l.take k))) (fun _ i _ => l.length - (intOf i).toNat)
    case atStart => exact ⟨Ext.refl _ _, 0, _, Nat.zero_le _, rfl, rfl, by omega, by omega, Lib.hid (by simp [sumP])⟩
    case round =>
      obtain ⟨hg, k, r, hk, rfl, rfl, hr0, hr1, Hr⟩ := hrel
      have hst := sumP_take l k
      by_cases hlt : k < l.length
      · obtain ⟨_, _, hks⟩ := (Hn.out).grow hg
        rcases hks with hks | ⟨bk, ok, rfl, _, hkr⟩
        · simp [hks] at hlt
        obtain ⟨na', nc', ba', bc', ka', kc', c0, c1, c2, c3, hkc⟩ := hkr.get k hlt
        have Hkc : Hid (ShapeR wr any l[k] (shapeV l[k] na' nc' ba' bc' ka' kc')) := Lib.hid ⟨_, _, _, _, _, _, rfl, hkc⟩
        have hst2 := sumP_take l (k + 1)
        rw [take_snoc' _ _ hlt, sumP_snoc] at hst2
        clear hkr hkc
        by_cases hneg : r < (costP l[k] : Int)
        · have Hf : Hid (szR (costPL l) left = -1) := Lib.hid (szR_neg (by rw [costPL_eq]; have := Hr.out; omega))
          have Hs := Lib.hid (szR_neg hneg)
          go_wp2_with (go_at_call 25; refine (Ih.out _ (List.getElem_mem hlt) _ _ _ hr0 hr1 Hkc.out).mono ?_; rintro e w2 ⟨rfl, hg2⟩; simp only [Hs.out])
          go_ret
          exact ⟨by simp [Hf.out], hg.trans hg2⟩
        · have Hs := Lib.hid (szR_pos (c := costP l[k]) (left := r) (by omega))
          go_wp2_with (go_at_call 25; refine (Ih.out _ (List.getElem_mem hlt) _ _ _ hr0 hr1 Hkc.out).mono ?_; rintro e w2 ⟨rfl, hg2⟩; simp only [Hs.out])
          go_roundw
          case rel => exact ⟨hg.trans hg2, k + 1, _, by omega, by go_num, rfl, by omega, by omega, Lib.hid (by rw [take_snoc' _ _ hlt, sumP_snoc, Hr.out]; omega)⟩
          case measure => simp [intOf]; omega
      · have hke : k = l.length := by omega
        have Hf : Hid (szR (costPL l) left = r) := Lib.hid (by
          have h2 := Hr.out
          rw [hke, List.take_length] at h2
          rw [szR_pos (by rw [costPL_eq]; omega), costPL_eq]; omega)
        have Hke := Lib.hid hke
        clear hke
        go_wp2
        go_ret
        exact ⟨by simp [Hf.out], hg⟩

set_option maxHeartbeats 1000000 in
theorem szShape_ok : ∀ n, SzPOk n := by
  refine Shp.ind' SzPOk ?_
  intro n ih v left w h0 h1 hn
  obtain ⟨na, nc, ba, bc, ka, kc, rfl, hc⟩ := hn
  obtain ⟨hns, hbs, hks⟩ := hc.parts'
  have hbl : n.needs.length ≤ 9223372036854775807 := hbs.2.1
  have Hns := Lib.hid hns
  have Hks := Lib.hid hks
  have Ih := Lib.hid ih
  have hce := costP_eq n
  have Hce := Lib.hid hce
  clear hns hks hc hbs ih hce
  unfold shapeV at *
  by_cases a1 : left < (costS n.names : Int)
  · have Hf := Lib.hid (szR_neg (c := costP n) (left := left) (by have := Hce.out; omega))
    have Hs := Lib.hid (szR_neg a1)
    go_enter Try.func25, Try.ntmps25
    go_wp2_with (go_at_call 71; refine (szStringS_ok _ _ _ _ _ (Hns.out.grow (by repeat (first | with_reducible exact Ext.refl _ _ | with_reducible refine Ext.trans ?_ (by assumption) | with_reducible refine Ext.drew ?_ | with_reducible refine Ext.drewN ?_ _ | with_reducible refine Ext.alloc ?_ _ | with_reducible refine Ext.setNew ?_ (by simp; done) _ | with_reducible refine Ext.setNew ?_ (by simp; omega) _))) (by omega) (by omega)).mono ?_; rintro e w2 ⟨rfl, hg2⟩; simp only [Hs.out])
    go_ret
    exact ⟨by simp [Hf.out], (by repeat (first | with_reducible exact Ext.refl _ _ | with_reducible refine Ext.trans ?_ (by assumption) | with_reducible refine Ext.drew ?_ | with_reducible refine Ext.drewN ?_ _ | with_reducible refine Ext.alloc ?_ _ | with_reducible refine Ext.setNew ?_ (by simp; done) _ | with_reducible refine Ext.setNew ?_ (by simp; omega) _))⟩
  have Hs := Lib.hid (szR_pos (c := costS n.names) (left := left) (by omega))
  by_cases a2 : left - costS n.names < (n.needs.length : Int)
  · have Hf := Lib.hid (szR_neg (c := costP n) (left := left) (by have := Hce.out; omega))
    have Hs2 := Lib.hid (szR_neg a2)
    go_enter Try.func25, Try.ntmps25
    go_wp2_with (first | (go_at_call 71; refine (szStringS_ok _ _ _ _ _ (Hns.out.grow (by repeat (first | with_reducible exact Ext.refl _ _ | with_reducible refine Ext.trans ?_ (by assumption) | with_reducible refine Ext.drew ?_ | with_reducible refine Ext.drewN ?_ _ | with_reducible refine Ext.alloc ?_ _ | with_reducible refine Ext.setNew ?_ (by simp; done) _ | with_reducible refine Ext.setNew ?_ (by simp; omega) _))) (by omega) (by omega)).mono ?_; rintro e w2 ⟨rfl, hg2⟩; simp only [Hs.out]; have hcc := bcell hg2) | (go_at_call 72; refine (szBoolS_ok _ _ _ _ _ hbl (by omega) (by omega)).mono ?_; rintro e w3 ⟨rfl, hg3⟩; simp only [Hs2.out]))
    go_ret
    exact ⟨by simp [Hf.out], (by repeat (first | with_reducible exact Ext.refl _ _ | with_reducible refine Ext.trans ?_ (by assumption) | with_reducible refine Ext.drew ?_ | with_reducible refine Ext.drewN ?_ _ | with_reducible refine Ext.alloc ?_ _ | with_reducible refine Ext.setNew ?_ (by simp; done) _ | with_reducible refine Ext.setNew ?_ (by simp; omega) _))⟩
  have Hs2 := Lib.hid (szR_pos (c := n.needs.length) (left := left - costS n.names) (by omega))
  by_cases a3 : left - costS n.names - n.needs.length < (costPL n.kids : Int)
  · have Hf := Lib.hid (szR_neg (c := costP n) (left := left) (by have := Hce.out; omega))
    have Hs3 := Lib.hid (szR_neg a3)
    go_enter Try.func25, Try.ntmps25
    go_wp2_with (first | (go_at_call 71; refine (szStringS_ok _ _ _ _ _ (Hns.out.grow (by repeat (first | with_reducible exact Ext.refl _ _ | with_reducible refine Ext.trans ?_ (by assumption) | with_reducible refine Ext.drew ?_ | with_reducible refine Ext.drewN ?_ _ | with_reducible refine Ext.alloc ?_ _ | with_reducible refine Ext.setNew ?_ (by simp; done) _ | with_reducible refine Ext.setNew ?_ (by simp; omega) _))) (by omega) (by omega)).mono ?_; rintro e w2 ⟨rfl, hg2⟩; simp only [Hs.out]; have hcc := bcell hg2) | (go_at_call 72; refine (szBoolS_ok _ _ _ _ _ hbl (by omega) (by omega)).mono ?_; rintro e w3 ⟨rfl, hg3⟩; simp only [Hs2.out]; have hcc3 := bcell (hg2.trans hg3)) | (go_at_call 73; refine (szShapeS_of _ Ih.out _ _ _ _ (Hks.out.grow (by repeat (first | with_reducible exact Ext.refl _ _ | with_reducible refine Ext.trans ?_ (by assumption) | with_reducible refine Ext.drew ?_ | with_reducible refine Ext.drewN ?_ _ | with_reducible refine Ext.alloc ?_ _ | with_reducible refine Ext.setNew ?_ (by simp; done) _ | with_reducible refine Ext.setNew ?_ (by simp; omega) _))) (by omega) (by omega)).mono ?_; rintro e w4 ⟨rfl, hg4⟩; simp only [Hs3.out]))
    go_ret
    exact ⟨by simp [Hf.out], (by repeat (first | with_reducible exact Ext.refl _ _ | with_reducible refine Ext.trans ?_ (by assumption) | with_reducible refine Ext.drew ?_ | with_reducible refine Ext.drewN ?_ _ | with_reducible refine Ext.alloc ?_ _ | with_reducible refine Ext.setNew ?_ (by simp; done) _ | with_reducible refine Ext.setNew ?_ (by simp; omega) _))⟩
  · have Hf := Lib.hid (szR_pos (c := costP n) (left := left) (by have := Hce.out; omega))
    have Hs3 := Lib.hid (szR_pos (c := costPL n.kids) (left := left - costS n.names - n.needs.length) (by omega))
    go_enter Try.func25, Try.ntmps25
    go_wp2_with (first | (go_at_call 71; refine (szStringS_ok _ _ _ _ _ (Hns.out.grow (by repeat (first | with_reducible exact Ext.refl _ _ | with_reducible refine Ext.trans ?_ (by assumption) | with_reducible refine Ext.drew ?_ | with_reducible refine Ext.drewN ?_ _ | with_reducible refine Ext.alloc ?_ _ | with_reducible refine Ext.setNew ?_ (by simp; done) _ | with_reducible refine Ext.setNew ?_ (by simp; omega) _))) (by omega) (by omega)).mono ?_; rintro e w2 ⟨rfl, hg2⟩; simp only [Hs.out]; have hcc := bcell hg2) | (go_at_call 72; refine (szBoolS_ok _ _ _ _ _ hbl (by omega) (by omega)).mono ?_; rintro e w3 ⟨rfl, hg3⟩; simp only [Hs2.out]; have hcc3 := bcell (hg2.trans hg3)) | (go_at_call 73; refine (szShapeS_of _ Ih.out _ _ _ _ (Hks.out.grow (by repeat (first | with_reducible exact Ext.refl _ _ | with_reducible refine Ext.trans ?_ (by assumption) | with_reducible refine Ext.drew ?_ | with_reducible refine Ext.drewN ?_ _ | with_reducible refine Ext.alloc ?_ _ | with_reducible refine Ext.setNew ?_ (by simp; done) _ | with_reducible refine Ext.setNew ?_ (by simp; omega) _))) (by omega) (by omega)).mono ?_; rintro e w4 ⟨rfl, hg4⟩; simp only [Hs3.out]))
    go_ret
    exact ⟨by have h1 := Hf.out; have h2 := Hce.out; rw [h1]; simp; omega, (by repeat (first | with_reducible exact Ext.refl _ _ | with_reducible refine Ext.trans ?_ (by assumption) | with_reducible refine Ext.drew ?_ | with_reducible refine Ext.drewN ?_ _ | with_reducible refine Ext.alloc ?_ _ | with_reducible refine Ext.setNew ?_ (by simp; done) _ | with_reducible refine Ext.setNew ?_ (by simp; omega) _))⟩

end Go.Proofs.Ytchiakeceiefdaa

/-
  The walks of the laws' copies of shapes.
-/
namespace Go.Proofs.Ytchiakeceiefdaa
open Go.RowKit

theorem info_bool : (Try.prog.info? 4).map (fun i => (i.zero, i.size, i.bytes)) = some (some (.bool false), 1, 1) := by kernel_rfl
theorem info_Shape : (Try.prog.info? 27).map (fun i => (i.zero, i.size, i.bytes)) = some (some (.agg #[.int .i64 0, .slice none 0 0, .slice none 0 0, .slice none 0 0]), 4, 80) := by kernel_rfl

set_option maxHeartbeats 400000 in
theorem toBoolS_ok (a : Option Addr) (c : Nat) (xs : List Bool) (w : World) (ha : BoolsR w any a c xs) (hb : xs.length ≤ 1048576) :
    Calls Try.prog 76 #[.slice a xs.length c] w fun e w' => ∃ a' c' fp, e = .returned (.slice a' xs.length c') ∧ Grow w w' ∧ BoolsF w' a' c' xs fp ∧ Free w.heap.size w' fp := by
  have Ha := Lib.hid ha
  clear ha
  have hmk := run_mk (P := Try.prog) 24 4 _ 1 1 Try.underlying24 info_bool .i64 .i64 xs.length (by omega) (by omega)
  go_enter Try.func76, Try.ntmps76
  go_wp2
  clear hmk
  go_loopw [4] (fun i wr => ∃ k : Nat, k ≤ xs.length ∧ i = .int .i64 k ∧ Grow w wr ∧ RowIn wr w.heap.size xs.length ∧ ∀ j (h : j < xs.length), j < k → wr.cell? ⟨w.heap.size, j, none⟩ = some (.bool xs[j])) (fun i _ => xs.length - (intOf i).toNat)
  case atStart => exact ⟨0, Nat.zero_le _, rfl, (Ext.refl _ _).alloc _, by simpa using RowIn.made w _ xs.length _, fun j h h0 => absurd h0 (by omega)⟩
  case round =>
    obtain ⟨k, hk, rfl, hg, hrow, hc⟩ := hrel
    by_cases hlt : k < xs.length
    · obtain ⟨_, _, ha4⟩ := (Ha.out).ext hg (fun _ _ h => h)
      rcases ha4 with rfl | ⟨ba, oa, rfl, _, hca⟩
      · simp at hlt
      have hx := hca k hlt
      obtain ⟨u, hu⟩ := hrow.2.1 k hlt
      have hfk := hrow.2.2 k
      have Hrow := Lib.hid hrow
      have Hc := Lib.hid hc
      have Hu := Lib.hid hu
      clear hca hrow hc
      obtain ⟨z, hz⟩ : ∃ z, z = xs[k] := ⟨_, rfl⟩
      rw [← hz] at hx
      have Hz := Lib.hid hz
      clear hz
      go_wp2
      go_roundw
      case rel =>
        refine ⟨k + 1, by omega, by go_num, hg.setNew (by simp) _, Hrow.out.setCell _ _, fun j h hj => ?_⟩
        rw [cell_set Hu.out]
        by_cases e : j = k
        · subst e; rw [if_pos rfl, Hz.out]
        · rw [if_neg (by intro h'; cases h'; exact e rfl)]; exact Hc.out j h (by omega)
      case measure => simp [intOf]; omega
    · have Ha' := (Ha.out).ext hg (fun _ _ h => h)
      have Hrow := Lib.hid hrow
      have Hc := Lib.hid hc
      clear hrow hc
      go_wp2
      go_ret
      by_cases hne : xs = []
      · subst hne
        exact ⟨_, _, [], rfl, hg, ⟨Nat.le_refl _, by simp, .inl ⟨rfl, rfl⟩⟩, Free.nil _ _⟩
      · exact ⟨_, _, [w.heap.size], rfl, hg, ⟨Nat.le_refl _, Ha'.2.1, .inr ⟨_, 0, hne, rfl, rfl, fun j h => by rw [Nat.zero_add]; exact Hc.out j h (by omega)⟩⟩, Free.one Hrow.out (Nat.le_refl _)⟩

def ToPOk (n : Shp) : Prop := ∀ (v : Value) (w : World), costP n ≤ 1048576 → ShapeR w any n v →
    Calls Try.prog 27 #[v] w fun e w' => ∃ v' fp, e = .returned v' ∧ Grow w w' ∧ ShapeO w' n v' fp ∧ Free w.heap.size w' fp

set_option maxHeartbeats 2000000 in
theorem toShape_of (n : Shp) (hk : ∀ (a : Option Addr) (c : Nat) (w : World), ShpLR w any a c n.kids →
      Calls Try.prog 77 #[.slice a n.kids.length c] w fun e w' => ∃ a' c' fp, e = .returned (.slice a' n.kids.length c') ∧ Grow w w' ∧ ShpLF w' a' c' n.kids fp ∧ Free w.heap.size w' fp) : ToPOk n := by
  intro v w hcost hn
  rw [costP_eq] at hcost
  have Hk := Lib.hid hk
  clear hk
  obtain ⟨na, nc, ba, bc, ka, kc, rfl, hc⟩ := hn
  obtain ⟨hns, hbs, hks⟩ := hc.parts'
  have Hns := Lib.hid hns
  have Hks := Lib.hid hks
  have Hbs := Lib.hid hbs
  clear hns hks hc hbs
  unfold shapeV at *
  go_enter Try.func27, Try.ntmps27
  go_wp2_with fail
  refine (toStringS_ok _ _ n.names _ (Hns.out.grow (by repeat (first | with_reducible exact Ext.refl _ _ | with_reducible refine Ext.trans ?_ (by assumption) | with_reducible refine Ext.drew ?_ | with_reducible refine Ext.drewN ?_ _ | with_reducible refine Ext.alloc ?_ _ | with_reducible refine Ext.setNew ?_ (by simp; done) _ | with_reducible refine Ext.setNew ?_ (by simp; omega) _))) ?_).mono ?_
  · have : n.names.length ≤ costS n.names := by simp [costS]
    omega
  rintro e w1 ⟨a1, c1, f1, rfl, hg1, hF1, hf1⟩
  have B0 := (((BoxN.new w (shapeL' n na nc ba bc ka kc) 56).grow ((Ext.refl nil _).alloc _)).grow ((Ext.refl nil _).alloc _)).grow hg1
  have B1 := ((BoxN.new1 w _ [.int .i64 0, .slice none 0 0, .slice none 0 0, .slice none 0 0] 27).grow ((Ext.refl nil _).alloc _)).grow hg1
  have B2 := (BoxN.new2 w _ _ [.int .i64 n.kind, .slice none 0 0, .slice none 0 0, .slice none 0 0] 27).grow hg1
  have hg1' : Grow w w1 := (by repeat (first | with_reducible exact Ext.refl _ _ | with_reducible refine Ext.trans ?_ (by assumption) | with_reducible refine Ext.drew ?_ | with_reducible refine Ext.drewN ?_ _ | with_reducible refine Ext.alloc ?_ _ | with_reducible refine Ext.setNew ?_ (by simp; done) _ | with_reducible refine Ext.setNew ?_ (by simp; omega) _))
  simp only [World.size_alloc] at hf1
  have HB0 := Lib.hid B0
  have HB1 := Lib.hid B1
  have HB2 := Lib.hid B2
  have p2 := B0.cell 2 _ rfl
  have p3 := B0.cell 3 _ rfl
  have q1 := B2.cell 1 _ rfl
  have qf := B2.fr
  have z1 : w.heap.size + 1 + 1 < w1.heap.size := B2.lt
  have HF1 := Lib.hid hF1
  have Hf1 := Lib.hid hf1
  clear hg1 hF1 hf1 B0 B1 B2
  go_wp2_with fail
  refine (toBoolS_ok _ _ n.needs _ (Hbs.out.grow (hg1'.setNew (by simp; omega) _)) (by omega)).mono ?_
  rintro e w2 ⟨a2, c2, f2, rfl, hg2, hF2, hf2⟩
  have B0 := (HB0.out.other (p := ⟨w.heap.size + 1 + 1, 1, none⟩) (by simp; omega) (.slice a1 n.names.length c1)).grow hg2
  have B1 := (HB1.out.other (p := ⟨w.heap.size + 1 + 1, 1, none⟩) (by simp) (.slice a1 n.names.length c1)).grow hg2
  have B2 := (HB2.out.set 1 (by simp) (.slice a1 n.names.length c1)).grow hg2
  have e12 : Ext (fun k => k = w.heap.size + 1 ∨ k = w.heap.size + 1 + 1) w1 w2 := Ext.trans (Ext.setIn (X := fun k => k = w.heap.size + 1 ∨ k = w.heap.size + 1 + 1) (Ext.refl _ w1) (p := ⟨w.heap.size + 1 + 1, 1, none⟩) (.inr rfl) (.slice a1 n.names.length c1)) (hg2.mono (fun _ h => False.elim h))
  have hg2' : Grow w w2 := hg1'.inner e12 (by intro i hi; omega)
  rw [size_setCell] at hf2
  clear p2 p3 q1 qf HB0 HB1 HB2
  have HB0 := Lib.hid B0
  have HB1 := Lib.hid B1
  have HB2 := Lib.hid B2
  have p3 := B0.cell 3 _ rfl
  have q2 := B2.cell 2 _ rfl
  have qf := B2.fr
  have z2 : w.heap.size + 1 + 1 < w2.heap.size := B2.lt
  have HF2 := Lib.hid hF2
  have Hf2 := Lib.hid hf2
  have E12 := Lib.hid e12
  clear hF2 hf2 B0 B1 B2 hg2 e12
  go_wp2_with fail
  refine (Hk.out _ _ _ (Hks.out.grow (hg2'.setNew (by simp; omega) _))).mono ?_
  rintro e w3 ⟨a3, c3, f3, rfl, hg3, hF3, hf3⟩
  have B1 := (HB1.out.other (p := ⟨w.heap.size + 1 + 1, 2, none⟩) (by simp) (.slice a2 n.needs.length c2)).grow hg3
  have B2 := (HB2.out.set 2 (by simp) (.slice a2 n.needs.length c2)).grow hg3
  have e23 : Ext (fun k => k = w.heap.size + 1 ∨ k = w.heap.size + 1 + 1) w2 w3 := Ext.trans (Ext.setIn (X := fun k => k = w.heap.size + 1 ∨ k = w.heap.size + 1 + 1) (Ext.refl _ w2) (p := ⟨w.heap.size + 1 + 1, 2, none⟩) (.inr rfl) (.slice a2 n.needs.length c2)) (hg3.mono (fun _ h => False.elim h))
  have hg3' : Grow w w3 := hg2'.inner e23 (by intro i hi; omega)
  rw [size_setCell] at hf3
  clear p3 q2 qf HB0 HB1 HB2
  have HB1 := Lib.hid B1
  have HB2 := Lib.hid B2
  have q0 := B2.cell 0 _ rfl
  have q1 := B2.cell 1 _ rfl
  have q2 := B2.cell 2 _ rfl
  have q3 := B2.cell 3 _ rfl
  have qf := B2.fr
  have p0 := B1.cell 0 _ rfl
  have p1 := B1.cell 1 _ rfl
  have p2 := B1.cell 2 _ rfl
  have p3 := B1.cell 3 _ rfl
  have pf := B1.fr
  have HF3 := Lib.hid hF3
  have Hf3 := Lib.hid hf3
  have E23 := Lib.hid e23
  clear hF3 hf3 B1 B2 hg3 e23
  go_wp2_with fail
  have BF := ((((HB1.out.other (p := ⟨w.heap.size + 1 + 1, 3, none⟩) (by simp) (.slice a3 n.kids.length c3)).set 0 (by simp) (.int .i64 n.kind)).set 1 (by simp) (.slice a1 n.names.length c1)).set 2 (by simp) (.slice a2 n.needs.length c2)).set 3 (by simp) (.slice a3 n.kids.length c3)
  have x1 : ∀ b ∈ f1, ¬ (b = w.heap.size + 1 ∨ b = w.heap.size + 1 + 1) := fun b hb => by have := (Hf1.out.2 b hb).1; omega
  have x2 : ∀ b ∈ f2, ¬ (b = w.heap.size + 1 ∨ b = w.heap.size + 1 + 1) := fun b hb => by have := (Hf2.out.2 b hb).1; omega
  have x3 : ∀ b ∈ f3, ¬ (b = w.heap.size + 1 ∨ b = w.heap.size + 1 + 1) := fun b hb => by have := (Hf3.out.2 b hb).1; omega
  have fin : ∀ W, Ext (fun k => k = w.heap.size + 1 ∨ k = w.heap.size + 1 + 1) w3 W → ∃ v' fp, Ending.returned (shapeV n a1 c1 a2 c2 a3 c3) = Ending.returned v' ∧ Grow w W ∧ ShapeO W n v' fp ∧ Free w.heap.size W fp := by
    intro W hW
    have e13 := E12.out.trans (E23.out.trans hW)
    have e2W := E23.out.trans hW
    have F1 := Hf1.out.ext e13 x1
    have F2 := Hf2.out.ext e2W x2
    have F3 := Hf3.out.ext hW x3
    refine ⟨_, f1 ++ f2 ++ f3, rfl, hg3'.inner hW (by intro i hi; omega), ⟨_, _, _, _, _, _, rfl, ShapeF.mk (HF1.out.keep (e13.keeps Hf1.out x1)) (HF2.out.keep (e2W.keeps Hf2.out x2)) (?_)⟩, ?_⟩
    · obtain ⟨g1, g2, g3⟩ := HF3.out
      refine ⟨g1, g2, g3.imp id ?_⟩
      rintro ⟨b, o, f, hne, he, hfe, hs⟩
      have kk := hW.keeps Hf3.out x3
      exact ⟨b, o, f, hne, he, hfe, hs.keep (fun x hx => kk x (by rw [hfe]; simp [hx])) (fun o' _ _ => kk b (by rw [hfe]; simp) o')⟩
    · refine ⟨?_, fun b hb => ?_⟩
      · refine List.nodup_append.2 ⟨List.nodup_append.2 ⟨F1.1, F2.1, fun a ha b hb e => ?_⟩, F3.1, fun a ha b hb e => ?_⟩
        · subst e
          have := (Hf1.out.2 a ha).2.1
          have := (Hf2.out.2 a hb).1
          omega
        · subst e
          have h3 := (Hf3.out.2 a hb).1
          rcases List.mem_append.1 ha with h | h
          · have := (Hf1.out.2 a h).2.1; have := E12.out.size; omega
          · have := (Hf2.out.2 a h).2.1; omega
      · rcases List.mem_append.1 hb with h | h
        · rcases List.mem_append.1 h with h | h
          · exact ⟨by have := (Hf1.out.2 b h).1; omega, (F1.2 b h).2⟩
          · exact ⟨by have := (Hf2.out.2 b h).1; omega, (F2.2 b h).2⟩
        · exact ⟨by have := (Hf3.out.2 b h).1; omega, (F3.2 b h).2⟩
  have r0 := BF.cell 0 _ rfl
  have r1 := BF.cell 1 _ rfl
  have r2 := BF.cell 2 _ rfl
  have r3 := BF.cell 3 _ rfl
  refine bodyPost_ret (v := shapeV n a1 c1 a2 c2 a3 c3) ?_ rfl ?_
  · simp [results, Try.results27, go_sem, shapeV, r0, r1, r2, r3]
  · refine fin _ ?_
    exact (by repeat (first | with_reducible exact Ext.refl _ _ | with_reducible refine Ext.setIn ?_ (by simp) _ | with_reducible refine Ext.trans ?_ (Ext.mono (by assumption) (fun _ h => False.elim h))))

theorem store4_eq (w : World) (b o : Nat) (v0 v1 v2 v3 : Value) : (((w.setCell ⟨b, o, none⟩ v0).setCell ⟨b, o + 1, none⟩ v1).setCell ⟨b, o + 2, none⟩ v2).setCell ⟨b, o + 3, none⟩ v3 = storeL w b o [v0, v1, v2, v3] := rfl

set_option maxHeartbeats 1000000 in
theorem toShapeS_of (l : List Shp) (ih : ∀ k ∈ l, ToPOk k) (a : Option Addr) (c : Nat) (w : World) (hcost : costPL l ≤ 1048576) (hn : ShpLR w any a c l) :
    Calls Try.prog 77 #[.slice a l.length c] w fun e w' => ∃ a' c' fp, e = .returned (.slice a' l.length c') ∧ Grow w w' ∧ ShpLF w' a' c' l fp ∧ Free w.heap.size w' fp := by
  have hb : l.length ≤ 1048576 := Nat.le_trans (costPL_len l) hcost
  have Ih := Lib.hid ih
  have Hn := Lib.hid hn
  clear ih hn
  have hmk := run_mk (P := Try.prog) 25 27 _ 4 80 Try.underlying25 info_Shape .i64 .i64 l.length (by omega) (by omega)
  go_enter Try.func77, Try.ntmps77
  go_wp2
  clear hmk
  go_loopw [4] (fun i wr => ∃ (k : Nat) (fp : List Nat), k ≤ l.length ∧ i = .int .i64 k ∧ Grow w wr ∧ RowIn wr w.heap.size (l.length * 4) ∧ ShpsF wr w.heap.size 0 (l.take k) fp ∧ Free (w.heap.size + 1) wr fp) (fun i _ => l.length - (intOf i).toNat)
  case atStart => exact ⟨0, [], Nat.zero_le _, rfl, (Ext.refl _ _).alloc _, RowIn.made _ _ _ _, by simp [ShpsF], Free.nil _ _⟩
  case round =>
    obtain ⟨k, fp, hk, rfl, hg, hrow, hkf, hfr⟩ := hrel
    have Hrow := Lib.hid hrow
    have Hkf := Lib.hid hkf
    have Hfr := Lib.hid hfr
    clear hrow hkf hfr
    by_cases hlt : k < l.length
    · obtain ⟨_, _, hks⟩ := (Hn.out).grow hg
      rcases hks with hks | ⟨bk, ok, rfl, _, hkr⟩
      · simp [hks] at hlt
      obtain ⟨na', nc', ba', bc', ka', kc', c0, c1, c2, c3, hkc⟩ := hkr.get k hlt
      have Hkc : Hid (ShapeR wr any l[k] (shapeV l[k] na' nc' ba' bc' ka' kc')) := Lib.hid ⟨_, _, _, _, _, _, rfl, hkc⟩
      have hck := costPL_get l k hlt
      clear hkr hkc
      go_wp2_with fail
      refine (Ih.out _ (List.getElem_mem hlt) _ _ (by omega) Hkc.out).mono ?_
      rintro e w2 ⟨v', f', rfl, hg2, hN, hf'⟩
      clear c0 c1 c2 c3
      obtain ⟨na2, nc2, ba2, bc2, ka2, kc2, rfl, hN⟩ := hN
      have hrow2 := Hrow.out.ext hg2 (fun h => h)
      have hfz := hrow2.2.2
      obtain ⟨u0, d0⟩ := hrow2.2.1 (k * 4) (by omega)
      obtain ⟨u1, d1⟩ := hrow2.2.1 (k * 4 + 1) (by omega)
      obtain ⟨u2, d2⟩ := hrow2.2.1 (k * 4 + 2) (by omega)
      obtain ⟨u3, d3⟩ := hrow2.2.1 (k * 4 + 3) (by omega)
      have Hrow2 := Lib.hid hrow2
      clear hrow2
      unfold shapeV
      go_wp2_with fail
      clear d0 d1 d2 d3 hfz
      have hl : (l.take k).length = k := by simp; omega
      have hbf : w.heap.size ∉ fp := fun h => by have := (Hfr.out.2 _ h).1; omega
      have hbf' : w.heap.size ∉ f' := fun h => by have := (hf'.2 _ h).1; have := Hrow.out.1; omega
      have hfr2 := Hfr.out.ext hg2 (fun _ _ h => h)
      have hkf2 := Hkf.out.keep (hg2.keeps Hfr.out (fun _ _ h => h)) (fun o' _ ho => hg2.cell (p := ⟨w.heap.size, o', none⟩) Hrow.out.1 (fun h => h))
      have hlay := ShpsF.lay Hrow2.out hkf2 hN (by rw [hl]; omega) hbf hbf'
      rw [hl] at hlay
      have hfr3 := Free.append Hfr.out hf' hg2 (Nat.le_refl _) (by have := Hrow.out.1; omega)
      go_roundw
      case rel =>
        rw [store4_eq]
        exact ⟨k + 1, fp ++ f', by omega, by go_num, Grow.inner (hg.trans hg2) (storeL_ext w.heap.size (shapeL' l[k] na2 nc2 ba2 bc2 ka2 kc2) w2 (k * 4)) (by intro i hi; omega), storeL_row _ _ _ Hrow2.out, by rw [take_snoc' _ _ hlt]; exact hlay, storeL_free _ _ _ hfr3⟩
      case measure => simp [intOf]; omega
    · have hke : k = l.length := by omega
      subst hke
      go_wp2
      go_ret
      rw [List.take_length] at Hkf
      by_cases hne : l = []
      · subst hne
        exact ⟨_, _, [], rfl, hg, ⟨Nat.le_refl _, by simp, .inl ⟨rfl, rfl⟩⟩, Free.nil _ _⟩
      · exact ⟨_, _, w.heap.size :: fp, rfl, hg, ⟨Nat.le_refl _, Hn.out.2.1, .inr ⟨_, 0, fp, hne, rfl, rfl, Hkf.out⟩⟩, Free.cons Hrow.out (Nat.le_refl _) Hfr.out⟩

theorem toShape_ok : ∀ n, ToPOk n := by
  refine Shp.ind' ToPOk ?_
  intro n ih
  intro v w hcost hn
  have hk : costPL n.kids ≤ 1048576 := by rw [costP_eq] at hcost; omega
  exact toShape_of n (fun a c w h => toShapeS_of n.kids ih a c w hk h) v w hcost hn

end Go.Proofs.Ytchiakeceiefdaa

/-
  The walks of the laws' comparisons of a shape with itself.
-/
namespace Go.Proofs.Ytchiakeceiefdaa
open Go.RowKit

set_option maxHeartbeats 400000 in
theorem eqBoolS_same (a b : Option Addr) (c d : Nat) (xs : List Bool) (w : World) (ha : BoolsR w any a c xs) (hb : BoolsR w any b d xs) :
    Calls Try.prog 79 #[.slice a xs.length c, .slice b xs.length d] w fun e w' => e = .returned (.bool true) ∧ Grow w w' := by
  have hbig : xs.length ≤ 9223372036854775807 := ha.2.1
  have Ha := Lib.hid ha
  have Hb := Lib.hid hb
  clear ha hb
  have hlb : ((xs.length : Int) != (xs.length : Int)) = false := by simp
  go_enter Try.func79, Try.ntmps79
  go_wp2
  go_loopw [4, 5] (fun n i wr => n = .bool false ∧ Grow w wr ∧ ∃ k : Nat, k ≤ xs.length ∧ i = .int .i64 k) (fun _ i _ => xs.length - (intOf i).toNat)
  case atStart => exact ⟨rfl, Ext.refl _ _, 0, Nat.zero_le _, rfl⟩
  case round =>
    obtain ⟨rfl, hg, k, hk, rfl⟩ := hrel
    by_cases hlt : k < xs.length
    · obtain ⟨_, _, ha4⟩ := (Ha.out).grow hg
      obtain ⟨_, _, hb4⟩ := (Hb.out).grow hg
      rcases ha4 with rfl | ⟨ba, oa, rfl, _, hca⟩
      · simp at hlt
      rcases hb4 with rfl | ⟨bb, ob, rfl, _, hcb⟩
      · simp at hlt
      have hx := hca k hlt
      have hy := hcb k hlt
      clear hca hcb Ha Hb
      cases hz : xs[k]
      · rw [hz] at hx hy
        clear hz
        go_wp2
        go_quiet (fail)
        go_wp2
        go_roundw
        case rel => exact ⟨rfl, hg.drewN _, k + 1, by omega, by go_num⟩
        case measure => simp [intOf]; omega
      · rw [hz] at hx hy
        clear hz
        go_wp2
        go_quiet (fail)
        go_wp2
        go_roundw
        case rel => exact ⟨rfl, hg.drewN _, k + 1, by omega, by go_num⟩
        case measure => simp [intOf]; omega
    · go_wp2
      go_ret
      exact ⟨by simp, hg⟩

def EqPOk (n : Shp) : Prop := ∀ (v u : Value) (w : World), ShapeR w any n v → ShapeR w any n u →
    Calls Try.prog 29 #[v, u] w fun e w' => e = .returned (.bool true) ∧ Grow w w'

set_option maxRecDepth 100000 in
set_option maxHeartbeats 1000000 in
theorem eqShapeS_of (l : List Shp) (ih : ∀ k ∈ l, EqPOk k) (a b : Option Addr) (c d : Nat) (w : World) (ha : ShpLR w any a c l) (hb : ShpLR w any b d l) :
    Calls Try.prog 80 #[.slice a l.length c, .slice b l.length d] w fun e w' => e = .returned (.bool true) ∧ Grow w w' := by
  have hbig : l.length ≤ 9223372036854775807 := ha.2.1
  have Ha := Lib.hid ha
  have Hb := Lib.hid hb
  have Ih := Lib.hid ih
  clear ha hb ih
  have hlb : ((l.length : Int) != (l.length : Int)) = false := by simp
  go_enter Try.func80, Try.ntmps80
  go_wp2
  go_loopw [4, 5] (fun n i wr => n = .bool false ∧ Grow w wr ∧ ∃ k : Nat, k ≤ l.length ∧ i = .int .i64 k) (fun _ i _ => l.length - (intOf i).toNat)
  case atStart => exact ⟨rfl, Ext.refl _ _, 0, Nat.zero_le _, rfl⟩
  case round =>
    obtain ⟨rfl, hg, k, hk, rfl⟩ := hrel
    by_cases hlt : k < l.length
    · obtain ⟨_, _, ha4⟩ := (Ha.out).grow hg
      obtain ⟨_, _, hb4⟩ := (Hb.out).grow hg
      rcases ha4 with hh | ⟨ba, oa, rfl, _, hca⟩
      · rw [hh] at hlt; simp at hlt
      rcases hb4 with hh | ⟨bb, ob, rfl, _, hcb⟩
      · rw [hh] at hlt; simp at hlt
      obtain ⟨na, nc, b1, c1, ka, kc, x0, x1, x2, x3, hx⟩ := hca.get k hlt
      obtain ⟨na', nc', b1', c1', ka', kc', y0, y1, y2, y3, hy⟩ := hcb.get k hlt
      have Hx : Hid (ShapeR wr any l[k] (shapeV l[k] na nc b1 c1 ka kc)) := Lib.hid ⟨_, _, _, _, _, _, rfl, hx⟩
      have Hy : Hid (ShapeR wr any l[k] (shapeV l[k] na' nc' b1' c1' ka' kc')) := Lib.hid ⟨_, _, _, _, _, _, rfl, hy⟩
      clear hca hcb Ha Hb hx hy
      go_wp2_with fail
      (refine wp_region_later (by kernel_rfl) (by kernel_rfl) ?_; (repeat (first | go_big_quiet_step ((go_at_call 29; exact later_call (Ih.out _ (List.getElem_mem hlt) _ _ _ (Hx.out.grow (later_grow _ _)) (Hy.out.grow (later_grow _ _))))) | quiet_step ((go_at_call 29; exact later_call (Ih.out _ (List.getElem_mem hlt) _ _ _ (Hx.out.grow (later_grow _ _)) (Hy.out.grow (later_grow _ _))))))); refine wpQuiet_nil ?_; rintro _ ⟨x_w2, rfl⟩; have hg_w2 := later_grow wr x_w2; generalize later wr x_w2 = w2 at hg_w2 ⊢)
      go_wp2_with fail
      go_roundw
      case rel => exact ⟨rfl, hg.trans hg_w2, k + 1, by omega, by go_num⟩
      case measure => simp [intOf]; omega
    · go_wp2_with fail
      go_ret
      exact ⟨by simp, hg⟩

set_option maxHeartbeats 1000000 in
theorem eqShape_of (n : Shp) (hk : ∀ (a b : Option Addr) (c d : Nat) (w : World), ShpLR w any a c n.kids → ShpLR w any b d n.kids →
      Calls Try.prog 80 #[.slice a n.kids.length c, .slice b n.kids.length d] w fun e w' => e = .returned (.bool true) ∧ Grow w w') : EqPOk n := by
  intro v u w hv hu
  obtain ⟨na, nc, ba, bc, ka, kc, rfl, hc⟩ := hv
  obtain ⟨na', nc', ba', bc', ka', kc', rfl, hc'⟩ := hu
  obtain ⟨hns, hbs, hks⟩ := hc.parts'
  obtain ⟨hns', hbs', hks'⟩ := hc'.parts'
  have Hns := Lib.hid hns
  have Hks := Lib.hid hks
  have Hbs := Lib.hid hbs
  have Hns' := Lib.hid hns'
  have Hks' := Lib.hid hks'
  have Hbs' := Lib.hid hbs'
  have Hk := Lib.hid hk
  have he : Hid (eqS n.names n.names = true) := Lib.hid (by simp [eqS])
  have hkk : (n.kind != n.kind) = false := by simp
  clear hc hc' hns hbs hks hns' hbs' hks' hk
  unfold shapeV
  go_enter Try.func29, Try.ntmps29
  go_wp2_with fail
  refine (eqStringS_ok _ _ _ _ n.names n.names _ (Hns.out.grow (by repeat (first | with_reducible exact Ext.refl _ _ | with_reducible refine Ext.trans ?_ (by assumption) | with_reducible refine Ext.drew ?_ | with_reducible refine Ext.drewN ?_ _ | with_reducible refine Ext.alloc ?_ _ | with_reducible refine Ext.setNew ?_ (by simp; done) _ | with_reducible refine Ext.setNew ?_ (by simp; omega) _))) (Hns'.out.grow (by repeat (first | with_reducible exact Ext.refl _ _ | with_reducible refine Ext.trans ?_ (by assumption) | with_reducible refine Ext.drew ?_ | with_reducible refine Ext.drewN ?_ _ | with_reducible refine Ext.alloc ?_ _ | with_reducible refine Ext.setNew ?_ (by simp; done) _ | with_reducible refine Ext.setNew ?_ (by simp; omega) _)))).mono ?_
  rintro e w2 ⟨rfl, hg2⟩
  simp only [he.out]
  have hcc2 := bcell hg2
  have hg2' : Grow w w2 := (by repeat (first | with_reducible exact Ext.refl _ _ | with_reducible refine Ext.trans ?_ (by assumption) | with_reducible refine Ext.drew ?_ | with_reducible refine Ext.drewN ?_ _ | with_reducible refine Ext.alloc ?_ _ | with_reducible refine Ext.setNew ?_ (by simp; done) _ | with_reducible refine Ext.setNew ?_ (by simp; omega) _))
  go_wp2_with fail
  refine (eqBoolS_same _ _ _ _ n.needs _ (Hbs.out.grow hg2') (Hbs'.out.grow hg2')).mono ?_
  rintro e w3 ⟨rfl, hg3⟩
  have hcc3 := bcell (hg2.trans hg3)
  have hg3' : Grow w w3 := hg2'.trans hg3
  clear hcc2
  go_wp2_with fail
  refine (Hk.out _ _ _ _ _ (Hks.out.grow hg3') (Hks'.out.grow hg3')).mono ?_
  rintro e w4 ⟨rfl, hg4⟩
  go_wp2_with fail
  go_ret
  exact ⟨by simp, hg3'.trans hg4⟩

theorem eqShape_ok : ∀ n, EqPOk n := by
  refine Shp.ind' EqPOk ?_
  intro n ih
  exact eqShape_of n (fun a b c d w h1 h2 => eqShapeS_of n.kids ih a b c d w h1 h2)

end Go.Proofs.Ytchiakeceiefdaa

/-
  The walk of the law FnExactFitsShape.
-/
namespace Go.Proofs.Ytchiakeceiefdaa
open Go.RowKit

theorem toShape_r (n : Shp) (v : Value) (w : World) (hc : costP n ≤ 1048576) (hn : ShapeR w any n v) :
    Calls Try.prog 27 #[v] w fun e w' => ∃ v', e = .returned v' ∧ Grow w w' ∧ ShapeR w' any n v' :=
  (toShape_ok n v w hc hn).mono fun _ _ ⟨v', _, he, hg, ho, _⟩ => ⟨v', he, hg, ho.toR (fun _ _ => trivial)⟩
theorem toNode_r (n : Nd) (v : Value) (w : World) (hc : costN n ≤ 1048576) (hn : NodeR w any n v) :
    Calls Try.prog 28 #[v] w fun e w' => ∃ v', e = .returned v' ∧ Grow w w' ∧ NodeR w' any n v' :=
  (toNode_ok n v w hc hn).mono fun _ _ ⟨v', _, he, hg, ho, _⟩ => ⟨v', he, hg, ho.toR (fun _ _ => trivial)⟩

set_option maxRecDepth 100000 in
set_option maxHeartbeats 4000000 in
theorem lawFits_ok (x : Shp) (n : Nd) (v u : Value) (w : World) (hx : ShapeR w any x v) (hn : NodeR w any n u) :
    Calls Try.prog 5 #[v, u] w fun e w' => e = .returned (.bool true) ∧ Grow w w' := by
  have Hx := Lib.hid hx
  have Hn := Lib.hid hn
  obtain ⟨na, nc, ba, bc, ka, kc, rfl, hc⟩ := hx
  obtain ⟨na2, nc2, ka2, kc2, rfl, hc2⟩ := hn
  clear hc hc2
  unfold shapeV nodeV at *
  by_cases c1 : costP x ≤ 1048576
  rotate_left
  · have Hs := Lib.hid (szR_neg (c := costP x) (left := 1048576) (by omega))
    clear c1
    go_enter Try.func5, Try.ntmps5
    go_wp2_with fail
    refine (szShape_ok x _ _ _ (by omega) (by omega) (Hx.out.grow (by repeat (first | with_reducible exact Ext.refl _ _ | with_reducible refine Ext.trans ?_ (by assumption) | with_reducible refine Ext.drew ?_ | with_reducible refine Ext.drewN ?_ _ | with_reducible refine Ext.alloc ?_ _ | with_reducible refine Ext.setNew ?_ (by simp; done) _ | with_reducible refine Ext.setNew ?_ (by simp; omega) _)))).mono ?_
    rintro e w2 ⟨rfl, hg2⟩
    simp only [Hs.out]
    go_wp2_with fail
    go_ret
    exact ⟨by simp, (by repeat (first | with_reducible exact Ext.refl _ _ | with_reducible refine Ext.trans ?_ (by assumption) | with_reducible refine Ext.drew ?_ | with_reducible refine Ext.drewN ?_ _ | with_reducible refine Ext.alloc ?_ _ | with_reducible refine Ext.setNew ?_ (by simp; done) _ | with_reducible refine Ext.setNew ?_ (by simp; omega) _))⟩
  have Hs := Lib.hid (szR_pos (c := costP x) (left := 1048576) (by omega))
  by_cases c2 : (costN n : Int) ≤ 1048576 - costP x
  rotate_left
  · have Hs2 := Lib.hid (szR_neg (c := costN n) (left := 1048576 - costP x) (by omega))
    clear c2
    go_enter Try.func5, Try.ntmps5
    go_wp2_with fail
    refine (szShape_ok x _ _ _ (by omega) (by omega) (Hx.out.grow (by repeat (first | with_reducible exact Ext.refl _ _ | with_reducible refine Ext.trans ?_ (by assumption) | with_reducible refine Ext.drew ?_ | with_reducible refine Ext.drewN ?_ _ | with_reducible refine Ext.alloc ?_ _ | with_reducible refine Ext.setNew ?_ (by simp; done) _ | with_reducible refine Ext.setNew ?_ (by simp; omega) _)))).mono ?_
    rintro e w2 ⟨rfl, hg2⟩
    simp only [Hs.out]
    have hcc2 := bcell hg2
    go_wp2_with fail
    refine (szNode_ok n _ _ _ (by omega) (by omega) (Hn.out.grow (by repeat (first | with_reducible exact Ext.refl _ _ | with_reducible refine Ext.trans ?_ (by assumption) | with_reducible refine Ext.drew ?_ | with_reducible refine Ext.drewN ?_ _ | with_reducible refine Ext.alloc ?_ _ | with_reducible refine Ext.setNew ?_ (by simp; done) _ | with_reducible refine Ext.setNew ?_ (by simp; omega) _)))).mono ?_
    rintro e w3 ⟨rfl, hg3⟩
    simp only [Hs2.out]
    go_wp2_with fail
    go_ret
    exact ⟨by simp, (by repeat (first | with_reducible exact Ext.refl _ _ | with_reducible refine Ext.trans ?_ (by assumption) | with_reducible refine Ext.drew ?_ | with_reducible refine Ext.drewN ?_ _ | with_reducible refine Ext.alloc ?_ _ | with_reducible refine Ext.setNew ?_ (by simp; done) _ | with_reducible refine Ext.setNew ?_ (by simp; omega) _))⟩
  have Hs2 := Lib.hid (szR_pos (c := costN n) (left := 1048576 - costP x) (by omega))
  have C1 := Lib.hid c1
  have C2 : Hid (costN n ≤ 1048576) := Lib.hid (by omega)
  go_enter Try.func5, Try.ntmps5
  go_wp2_with fail
  refine (szShape_ok x _ _ _ (by omega) (by omega) (Hx.out.grow (by repeat (first | with_reducible exact Ext.refl _ _ | with_reducible refine Ext.trans ?_ (by assumption) | with_reducible refine Ext.drew ?_ | with_reducible refine Ext.drewN ?_ _ | with_reducible refine Ext.alloc ?_ _ | with_reducible refine Ext.setNew ?_ (by simp; done) _ | with_reducible refine Ext.setNew ?_ (by simp; omega) _)))).mono ?_
  rintro e w2 ⟨rfl, hg2⟩
  simp only [Hs.out]
  have hcc2 := bcell hg2
  go_wp2_with fail
  refine (szNode_ok n _ _ _ (by omega) (by omega) (Hn.out.grow (by repeat (first | with_reducible exact Ext.refl _ _ | with_reducible refine Ext.trans ?_ (by assumption) | with_reducible refine Ext.drew ?_ | with_reducible refine Ext.drewN ?_ _ | with_reducible refine Ext.alloc ?_ _ | with_reducible refine Ext.setNew ?_ (by simp; done) _ | with_reducible refine Ext.setNew ?_ (by simp; omega) _)))).mono ?_
  rintro e w3 ⟨rfl, hg3⟩
  simp only [Hs2.out]
  have B0 := (((BoxN.new w (shapeL' x na nc ba bc ka kc) 56).grow ((Ext.refl nil _).alloc _)).grow hg2).grow hg3
  have B1 := ((BoxN.new1 w _ (nodeL n na2 nc2 ka2 kc2) 59).grow hg2).grow hg3
  have hgA : Grow w w3 := (by repeat (first | with_reducible exact Ext.refl _ _ | with_reducible refine Ext.trans ?_ (by assumption) | with_reducible refine Ext.drew ?_ | with_reducible refine Ext.drewN ?_ _ | with_reducible refine Ext.alloc ?_ _ | with_reducible refine Ext.setNew ?_ (by simp; done) _ | with_reducible refine Ext.setNew ?_ (by simp; omega) _))
  have HB0 := Lib.hid B0
  have HB1 := Lib.hid B1
  clear hcc2 hg2 hg3 B0 B1
  go_wp2_with fail
  (have p0 := HB0.out.cell 0 _ rfl; have p1 := HB0.out.cell 1 _ rfl; have p2 := HB0.out.cell 2 _ rfl; have p3 := HB0.out.cell 3 _ rfl)
  (have q0 := HB1.out.cell 0 _ rfl; have q1 := HB1.out.cell 1 _ rfl; have q2 := HB1.out.cell 2 _ rfl; have q3 := HB1.out.cell 3 _ rfl; have q4 := HB1.out.cell 4 _ rfl)
  refine wp_region_stab Grow (fun i => if i = 1 then some (fun v w' => ShapeR w' any x v) else if i = 3 then some (fun v w' => NodeR w' any n v) else if i = 4 then some (fun v _ => v = .bool (fitsV x n)) else none) (by kernel_rfl) (by kernel_rfl) ⟨Ext.refl nil, fun _ _ h1 h2 => h2.trans h1, ?_⟩ ?_
  · intro i V hV v w1 w2 hr hv
    by_cases h1 : i = 1
    · simp only [h1, if_true, Option.some.injEq] at hV; subst hV; exact ShapeR.grow hv hr
    · by_cases h3 : i = 3
      · simp [h3] at hV; subst hV; exact NodeR.grow hv hr
      · by_cases h4 : i = 4
        · simp [h4] at hV; subst hV; exact hv
        · simp [h1, h3, h4] at hV
  (refine wpStab_quiet (by kernel_rfl) (by kernel_rfl) (by simp) ?_; intro K hK; go_big_quiet_op; go_big_quiet_on)
  refine wpStab_made (fun v w' => ShapeR w' any x v) ?_ ?_ ?_ ?_
  · go_simp
  · simp
  · intro y _
    refine stabAt_call (f := 27) (args := #[shapeV x na nc ba bc ka kc]) ?_ ?_
    · unfold shapeV; go_simp
    · exact toShape_r x _ _ C1.out (Hx.out.grow (hgA.trans (later_grow _ _)))
  intro v1
  go_frame
  (refine wpStab_quiet (by kernel_rfl) (by kernel_rfl) (by simp) ?_; intro K hK; go_big_quiet_op; go_big_quiet_on)
  refine wpStab_made (fun v w' => NodeR w' any n v) ?_ ?_ ?_ ?_
  · go_simp
  · simp
  · intro y _
    refine stabAt_call (f := 28) (args := #[nodeV n na2 nc2 ka2 kc2]) ?_ ?_
    · unfold nodeV; go_simp
    · exact toNode_r n _ _ C2.out (Hn.out.grow (hgA.trans (later_grow _ _)))
  intro v2
  go_frame
  refine wpStab_const (.bool (fitsV x n)) ?_ ?_ ?_ ?_
  · go_simp
  · simp
  · intro y hE
    have Hr1 : Hid (ShapeR (later w3 y) any x v1) := Lib.hid (((hE ⟨1, .data⟩ (by simp) (by decide)).1).2 rfl)
    have Hr2 : Hid (NodeR (later w3 y) any n v2) := Lib.hid ((hE ⟨3, .data⟩ (by simp) (by decide)).2 rfl)
    clear hE
    refine stabAt_call (f := 12) (args := #[v1, v2]) ?_ ?_
    · go_simp
    · refine (specFitsShape_ok x n _ _ _ Hr1.out Hr2.out).mono ?_
      rintro e w' ⟨rfl, hg⟩
      exact ⟨_, rfl, hg, rfl⟩
  go_frame
  (refine wpStab_quiet (by kernel_rfl) (by kernel_rfl) (by simp) ?_; intro K hK; go_big_quiet_op; go_big_quiet_on)
  refine wpStab_end ?_
  intro w4 hg4
  clear p0 p1 p2 p3
  clear q0 q1 q2 q3 q4
  have HB0 := Lib.hid (HB0.out.grow hg4)
  have HB1 := Lib.hid (HB1.out.grow hg4)
  replace hgA := hgA.trans hg4
  clear hg4
  (have p0 := HB0.out.cell 0 _ rfl; have p1 := HB0.out.cell 1 _ rfl; have p2 := HB0.out.cell 2 _ rfl; have p3 := HB0.out.cell 3 _ rfl)
  go_wp2_with fail
  refine (toShape_r x (shapeV x na nc ba bc ka kc) _ C1.out (Hx.out.grow hgA)).mono ?_
  rintro e w5 ⟨v3, rfl, hg5, hr3⟩
  have Hr3 := Lib.hid hr3
  obtain ⟨na3, nc3, ba3, bc3, ka3, kc3, rfl, hr3⟩ := hr3
  clear p0 p1 p2 p3
  clear hr3
  have HB0 := Lib.hid (HB0.out.grow hg5)
  have HB1 := Lib.hid (HB1.out.grow hg5)
  replace hgA := hgA.trans hg5
  clear hg5
  (have q0 := HB1.out.cell 0 _ rfl; have q1 := HB1.out.cell 1 _ rfl; have q2 := HB1.out.cell 2 _ rfl; have q3 := HB1.out.cell 3 _ rfl; have q4 := HB1.out.cell 4 _ rfl)
  have z1 := HB1.out.lt
  unfold shapeV
  go_wp2_with fail
  obtain ⟨w6, hw6, hg6, B3⟩ : ∃ w6, w5.alloc (.cells #[.int .i64 x.kind, .slice na3 x.names.length nc3, .slice ba3 x.needs.length bc3, .slice ka3 x.kids.length kc3] 27) = w6 ∧ Grow w5 w6 ∧ BoxN w6 w5.heap.size (shapeL' x na3 nc3 ba3 bc3 ka3 kc3) := ⟨_, rfl, (Ext.refl nil w5).alloc _, BoxN.new w5 (shapeL' x na3 nc3 ba3 bc3 ka3 kc3) _⟩
  rw [hw6]
  clear hw6
  refine (toNode_r n (nodeV n na2 nc2 ka2 kc2) _ C2.out (Hn.out.grow (hgA.trans hg6))).mono ?_
  rintro e w7 ⟨v4, rfl, hg7, hr4⟩
  have Hr4 := Lib.hid hr4
  obtain ⟨na4, nc4, ka4, kc4, rfl, hr4⟩ := hr4
  clear q0 q1 q2 q3 q4
  clear hr4
  have HB0 := Lib.hid (HB0.out.grow (hg6.trans hg7))
  have HB1 := Lib.hid (HB1.out.grow (hg6.trans hg7))
  have HB3 := Lib.hid (B3.grow hg7)
  have Hr3 := Lib.hid (Hr3.out.grow (hg6.trans hg7))
  replace hgA := hgA.trans (hg6.trans hg7)
  clear hg6 hg7 B3
  (have r0 := HB3.out.cell 0 _ rfl; have r1 := HB3.out.cell 1 _ rfl; have r2 := HB3.out.cell 2 _ rfl; have r3 := HB3.out.cell 3 _ rfl)
  have z3 := HB3.out.lt
  unfold nodeV
  go_wp2_with fail
  obtain ⟨w8, hw8, hg8, B4⟩ : ∃ w8, w7.alloc (.cells #[.int .i64 n.kind, .int .i64 n.num, .string n.text, .slice na4 n.names.length nc4, .slice ka4 n.kids.length kc4] 30) = w8 ∧ Grow w7 w8 ∧ BoxN w8 w7.heap.size (nodeL n na4 nc4 ka4 kc4) := ⟨_, rfl, (Ext.refl nil w7).alloc _, BoxN.new w7 (nodeL n na4 nc4 ka4 kc4) _⟩
  rw [hw8]
  clear hw8
  clear r0 r1 r2 r3
  refine (implFitsShape_ok x n (shapeV x na3 nc3 ba3 bc3 ka3 kc3) (nodeV n na4 nc4 ka4 kc4) _ (Hr3.out.grow hg8) (Hr4.out.grow hg8)).mono ?_
  rintro e w9 ⟨rfl, hg9⟩
  have HB0 := Lib.hid (HB0.out.grow (hg8.trans hg9))
  have HB1 := Lib.hid (HB1.out.grow (hg8.trans hg9))
  have HB3 := Lib.hid (HB3.out.grow (hg8.trans hg9))
  have HB4 := Lib.hid (B4.grow hg9)
  have Hr3 := Lib.hid (Hr3.out.grow (hg8.trans hg9))
  have Hr4 := Lib.hid (Hr4.out.grow (hg8.trans hg9))
  replace hgA := hgA.trans (hg8.trans hg9)
  have hb : (fitsV x n != fitsV x n) = false := by simp
  clear hg8 hg9 B4
  go_wp2_with fail
  (have p0 := HB0.out.cell 0 _ rfl; have p1 := HB0.out.cell 1 _ rfl; have p2 := HB0.out.cell 2 _ rfl; have p3 := HB0.out.cell 3 _ rfl)
  (have r0 := HB3.out.cell 0 _ rfl; have r1 := HB3.out.cell 1 _ rfl; have r2 := HB3.out.cell 2 _ rfl; have r3 := HB3.out.cell 3 _ rfl)
  refine wp_region_stab Grow (fun i => if i = 2 then some (fun v w' => ShapeR w' any x v) else if i = 3 then some (fun v _ => v = .bool true) else none) (by kernel_rfl) (by kernel_rfl) ⟨Ext.refl nil, fun _ _ h1 h2 => h2.trans h1, ?_⟩ ?_
  · intro i V hV v w1 w2 hr hv
    by_cases h1 : i = 2
    · simp only [h1, if_true, Option.some.injEq] at hV; subst hV; exact ShapeR.grow hv hr
    · by_cases h3 : i = 3
      · simp [h3] at hV; subst hV; exact hv
      · simp [h1, h3] at hV
  (refine wpStab_quiet (by kernel_rfl) (by kernel_rfl) (by simp) ?_; intro K hK; go_big_quiet_op; go_big_quiet_on)
  (refine wpStab_quiet (by kernel_rfl) (by kernel_rfl) (by simp) ?_; intro K hK; go_big_quiet_op; go_big_quiet_on)
  refine wpStab_made (fun v w' => ShapeR w' any x v) ?_ ?_ ?_ ?_
  · go_simp
  · simp
  · intro y _
    refine stabAt_call (f := 27) (args := #[shapeV x na nc ba bc ka kc]) ?_ ?_
    · unfold shapeV; go_simp
    · exact toShape_r x _ _ C1.out (Hx.out.grow (hgA.trans (later_grow _ _)))
  intro v5
  go_frame
  refine wpStab_const (.bool true) ?_ ?_ ?_ ?_
  · go_simp
  · simp
  · intro y hE
    have Hr5 : Hid (ShapeR (later w9 y) any x v5) := Lib.hid ((hE ⟨2, .data⟩ (by simp) (by decide)).2 rfl)
    clear hE
    refine stabAt_call (f := 29) (args := #[shapeV x na3 nc3 ba3 bc3 ka3 kc3, v5]) ?_ ?_
    · unfold shapeV; go_simp
    · refine (eqShape_ok x _ _ _ (Hr3.out.grow (later_grow _ _)) Hr5.out).mono ?_
      rintro e w' ⟨rfl, hg⟩
      exact ⟨_, rfl, hg, rfl⟩
  go_frame
  (refine wpStab_quiet (by kernel_rfl) (by kernel_rfl) (by simp) ?_; intro K hK; go_big_quiet_op; go_big_quiet_on)
  refine wpStab_end ?_
  intro w10 hg10
  clear p0 p1 p2 p3
  clear r0 r1 r2 r3
  have HB1 := Lib.hid (HB1.out.grow hg10)
  have HB4 := Lib.hid (HB4.out.grow hg10)
  have Hr4 := Lib.hid (Hr4.out.grow hg10)
  replace hgA := hgA.trans hg10
  clear hg10
  go_wp2_with fail
  (have q0 := HB1.out.cell 0 _ rfl; have q1 := HB1.out.cell 1 _ rfl; have q2 := HB1.out.cell 2 _ rfl; have q3 := HB1.out.cell 3 _ rfl; have q4 := HB1.out.cell 4 _ rfl)
  (have s0 := HB4.out.cell 0 _ rfl; have s1 := HB4.out.cell 1 _ rfl; have s2 := HB4.out.cell 2 _ rfl; have s3 := HB4.out.cell 3 _ rfl; have s4 := HB4.out.cell 4 _ rfl)
  refine wp_region_stab Grow (fun i => if i = 2 then some (fun v w' => NodeR w' any n v) else if i = 3 then some (fun v _ => v = .bool true) else none) (by kernel_rfl) (by kernel_rfl) ⟨Ext.refl nil, fun _ _ h1 h2 => h2.trans h1, ?_⟩ ?_
  · intro i V hV v w1 w2 hr hv
    by_cases h1 : i = 2
    · simp only [h1, if_true, Option.some.injEq] at hV; subst hV; exact NodeR.grow hv hr
    · by_cases h3 : i = 3
      · simp [h3] at hV; subst hV; exact hv
      · simp [h1, h3] at hV
  (refine wpStab_quiet (by kernel_rfl) (by kernel_rfl) (by simp) ?_; intro K hK; go_big_quiet_op; go_big_quiet_on)
  (refine wpStab_quiet (by kernel_rfl) (by kernel_rfl) (by simp) ?_; intro K hK; go_big_quiet_op; go_big_quiet_on)
  refine wpStab_made (fun v w' => NodeR w' any n v) ?_ ?_ ?_ ?_
  · go_simp
  · simp
  · intro y _
    refine stabAt_call (f := 28) (args := #[nodeV n na2 nc2 ka2 kc2]) ?_ ?_
    · unfold nodeV; go_simp
    · exact toNode_r n _ _ C2.out (Hn.out.grow (hgA.trans (later_grow _ _)))
  intro v6
  go_frame
  refine wpStab_const (.bool true) ?_ ?_ ?_ ?_
  · go_simp
  · simp
  · intro y hE
    have Hr6 : Hid (NodeR (later w10 y) any n v6) := Lib.hid ((hE ⟨2, .data⟩ (by simp) (by decide)).2 rfl)
    clear hE
    refine stabAt_call (f := 30) (args := #[nodeV n na4 nc4 ka4 kc4, v6]) ?_ ?_
    · unfold nodeV; go_simp
    · refine (eqNode_ok n n _ _ _ (Hr4.out.grow (later_grow _ _)) Hr6.out).mono ?_
      rintro e w' ⟨rfl, hg⟩
      exact ⟨_, rfl, hg, by rw [eqN_refl]⟩
  go_frame
  (refine wpStab_quiet (by kernel_rfl) (by kernel_rfl) (by simp) ?_; intro K hK; go_big_quiet_op; go_big_quiet_on)
  refine wpStab_end ?_
  intro w11 hg11
  go_wp2_with fail
  go_ret
  exact ⟨by simp, hgA.trans hg11⟩

end Go.Proofs.Ytchiakeceiefdaa
