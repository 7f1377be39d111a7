/-
  The walk of the law FnExactFitsShape.
-/
import Derived.Test.YtchiakeceiefdaaFitsShape
import Derived.Test.YtchiakeceiefdaaShapeTo
import Derived.Test.YtchiakeceiefdaaShapeEq
namespace Go.Proofs.Ytchiakeceiefdaa
open Go.RowKit

theorem toShape_r (n : Shp) (v : Value) (w : World) (hc : costP n ≤ 1048576) (hn : ShapeR w any n v) :
    Calls Try.prog 27 #[v] w fun e w' => ∃ v', e = .returned v' ∧ Grow w w' ∧ ShapeR w' any n v' :=
  (toShape_ok n v w hc hn).mono fun _ _ ⟨v', _, he, hg, ho, _⟩ => ⟨v', he, hg, ho.toR (fun _ _ => trivial)⟩
theorem toNode_r (n : Nd) (v : Value) (w : World) (hc : costN n ≤ 1048576) (hn : NodeR w any n v) :
    Calls Try.prog 28 #[v] w fun e w' => ∃ v', e = .returned v' ∧ Grow w w' ∧ NodeR w' any n v' :=
  (toNode_ok n v w hc hn).mono fun _ _ ⟨v', _, he, hg, ho, _⟩ => ⟨v', he, hg, ho.toR (fun _ _ => trivial)⟩

set_option maxRecDepth 100000 in
set_option maxHeartbeats 4000000 in
theorem lawFits_ok (x : Shp) (n : Nd) (v u : Value) (w : World) (hx : ShapeR w any x v) (hn : NodeR w any n u) :
    Calls Try.prog 5 #[v, u] w fun e w' => e = .returned (.bool true) ∧ Grow w w' := by
  have Hx := Lib.hid hx
  have Hn := Lib.hid hn
  obtain ⟨na, nc, ba, bc, ka, kc, rfl, hc⟩ := hx
  obtain ⟨na2, nc2, ka2, kc2, rfl, hc2⟩ := hn
  clear hc hc2
  unfold shapeV nodeV at *
  by_cases c1 : costP x ≤ 1048576
  rotate_left
  · have Hs := Lib.hid (szR_neg (c := costP x) (left := 1048576) (by omega))
    clear c1
    go_enter Try.func5, Try.ntmps5
    go_wp2_with fail
    refine (szShape_ok x _ _ _ (by omega) (by omega) (Hx.out.grow (by repeat (first | with_reducible exact Ext.refl _ _ | with_reducible refine Ext.trans ?_ (by assumption) | with_reducible refine Ext.drew ?_ | with_reducible refine Ext.drewN ?_ _ | with_reducible refine Ext.alloc ?_ _ | with_reducible refine Ext.setNew ?_ (by simp; done) _ | with_reducible refine Ext.setNew ?_ (by simp; omega) _)))).mono ?_
    rintro e w2 ⟨rfl, hg2⟩
    simp only [Hs.out]
    go_wp2_with fail
    go_ret
    exact ⟨by simp, (by repeat (first | with_reducible exact Ext.refl _ _ | with_reducible refine Ext.trans ?_ (by assumption) | with_reducible refine Ext.drew ?_ | with_reducible refine Ext.drewN ?_ _ | with_reducible refine Ext.alloc ?_ _ | with_reducible refine Ext.setNew ?_ (by simp; done) _ | with_reducible refine Ext.setNew ?_ (by simp; omega) _))⟩
  have Hs := Lib.hid (szR_pos (c := costP x) (left := 1048576) (by omega))
  by_cases c2 : (costN n : Int) ≤ 1048576 - costP x
  rotate_left
  · have Hs2 := Lib.hid (szR_neg (c := costN n) (left := 1048576 - costP x) (by omega))
    clear c2
    go_enter Try.func5, Try.ntmps5
    go_wp2_with fail
    refine (szShape_ok x _ _ _ (by omega) (by omega) (Hx.out.grow (by repeat (first | with_reducible exact Ext.refl _ _ | with_reducible refine Ext.trans ?_ (by assumption) | with_reducible refine Ext.drew ?_ | with_reducible refine Ext.drewN ?_ _ | with_reducible refine Ext.alloc ?_ _ | with_reducible refine Ext.setNew ?_ (by simp; done) _ | with_reducible refine Ext.setNew ?_ (by simp; omega) _)))).mono ?_
    rintro e w2 ⟨rfl, hg2⟩
    simp only [Hs.out]
    have hcc2 := bcell hg2
    go_wp2_with fail
    refine (szNode_ok n _ _ _ (by omega) (by omega) (Hn.out.grow (by repeat (first | with_reducible exact Ext.refl _ _ | with_reducible refine Ext.trans ?_ (by assumption) | with_reducible refine Ext.drew ?_ | with_reducible refine Ext.drewN ?_ _ | with_reducible refine Ext.alloc ?_ _ | with_reducible refine Ext.setNew ?_ (by simp; done) _ | with_reducible refine Ext.setNew ?_ (by simp; omega) _)))).mono ?_
    rintro e w3 ⟨rfl, hg3⟩
    simp only [Hs2.out]
    go_wp2_with fail
    go_ret
    exact ⟨by simp, (by repeat (first | with_reducible exact Ext.refl _ _ | with_reducible refine Ext.trans ?_ (by assumption) | with_reducible refine Ext.drew ?_ | with_reducible refine Ext.drewN ?_ _ | with_reducible refine Ext.alloc ?_ _ | with_reducible refine Ext.setNew ?_ (by simp; done) _ | with_reducible refine Ext.setNew ?_ (by simp; omega) _))⟩
  have Hs2 := Lib.hid (szR_pos (c := costN n) (left := 1048576 - costP x) (by omega))
  have C1 := Lib.hid c1
  have C2 : Hid (costN n ≤ 1048576) := Lib.hid (by omega)
  go_enter Try.func5, Try.ntmps5
  go_wp2_with fail
  refine (szShape_ok x _ _ _ (by omega) (by omega) (Hx.out.grow (by repeat (first | with_reducible exact Ext.refl _ _ | with_reducible refine Ext.trans ?_ (by assumption) | with_reducible refine Ext.drew ?_ | with_reducible refine Ext.drewN ?_ _ | with_reducible refine Ext.alloc ?_ _ | with_reducible refine Ext.setNew ?_ (by simp; done) _ | with_reducible refine Ext.setNew ?_ (by simp; omega) _)))).mono ?_
  rintro e w2 ⟨rfl, hg2⟩
  simp only [Hs.out]
  have hcc2 := bcell hg2
  go_wp2_with fail
  refine (szNode_ok n _ _ _ (by omega) (by omega) (Hn.out.grow (by repeat (first | with_reducible exact Ext.refl _ _ | with_reducible refine Ext.trans ?_ (by assumption) | with_reducible refine Ext.drew ?_ | with_reducible refine Ext.drewN ?_ _ | with_reducible refine Ext.alloc ?_ _ | with_reducible refine Ext.setNew ?_ (by simp; done) _ | with_reducible refine Ext.setNew ?_ (by simp; omega) _)))).mono ?_
  rintro e w3 ⟨rfl, hg3⟩
  simp only [Hs2.out]
  have B0 := (((BoxN.new w (shapeL' x na nc ba bc ka kc) 56).grow ((Ext.refl nil _).alloc _)).grow hg2).grow hg3
  have B1 := ((BoxN.new1 w _ (nodeL n na2 nc2 ka2 kc2) 59).grow hg2).grow hg3
  have hgA : Grow w w3 := (by repeat (first | with_reducible exact Ext.refl _ _ | with_reducible refine Ext.trans ?_ (by assumption) | with_reducible refine Ext.drew ?_ | with_reducible refine Ext.drewN ?_ _ | with_reducible refine Ext.alloc ?_ _ | with_reducible refine Ext.setNew ?_ (by simp; done) _ | with_reducible refine Ext.setNew ?_ (by simp; omega) _))
  have HB0 := Lib.hid B0
  have HB1 := Lib.hid B1
  clear hcc2 hg2 hg3 B0 B1
  go_wp2_with fail
  (have p0 := HB0.out.cell 0 _ rfl; have p1 := HB0.out.cell 1 _ rfl; have p2 := HB0.out.cell 2 _ rfl; have p3 := HB0.out.cell 3 _ rfl)
  (have q0 := HB1.out.cell 0 _ rfl; have q1 := HB1.out.cell 1 _ rfl; have q2 := HB1.out.cell 2 _ rfl; have q3 := HB1.out.cell 3 _ rfl; have q4 := HB1.out.cell 4 _ rfl)
  refine wp_region_stab Grow (fun i => if i = 1 then some (fun v w' => ShapeR w' any x v) else if i = 3 then some (fun v w' => NodeR w' any n v) else if i = 4 then some (fun v _ => v = .bool (fitsV x n)) else none) (by kernel_rfl) (by kernel_rfl) ⟨Ext.refl nil, fun _ _ h1 h2 => h2.trans h1, ?_⟩ ?_
  · intro i V hV v w1 w2 hr hv
    by_cases h1 : i = 1
    · simp only [h1, if_true, Option.some.injEq] at hV; subst hV; exact ShapeR.grow hv hr
    · by_cases h3 : i = 3
      · simp [h3] at hV; subst hV; exact NodeR.grow hv hr
      · by_cases h4 : i = 4
        · simp [h4] at hV; subst hV; exact hv
        · simp [h1, h3, h4] at hV
  (refine wpStab_quiet (by kernel_rfl) (by kernel_rfl) (by simp) ?_; intro K hK; go_big_quiet_op; go_big_quiet_on)
  refine wpStab_made (fun v w' => ShapeR w' any x v) ?_ ?_ ?_ ?_
  · go_simp
  · simp
  · intro y _
    refine stabAt_call (f := 27) (args := #[shapeV x na nc ba bc ka kc]) ?_ ?_
    · unfold shapeV; go_simp
    · exact toShape_r x _ _ C1.out (Hx.out.grow (hgA.trans (later_grow _ _)))
  intro v1
  go_frame
  (refine wpStab_quiet (by kernel_rfl) (by kernel_rfl) (by simp) ?_; intro K hK; go_big_quiet_op; go_big_quiet_on)
  refine wpStab_made (fun v w' => NodeR w' any n v) ?_ ?_ ?_ ?_
  · go_simp
  · simp
  · intro y _
    refine stabAt_call (f := 28) (args := #[nodeV n na2 nc2 ka2 kc2]) ?_ ?_
    · unfold nodeV; go_simp
    · exact toNode_r n _ _ C2.out (Hn.out.grow (hgA.trans (later_grow _ _)))
  intro v2
  go_frame
  refine wpStab_const (.bool (fitsV x n)) ?_ ?_ ?_ ?_
  · go_simp
  · simp
  · intro y hE
    have Hr1 : Hid (ShapeR (later w3 y) any x v1) := Lib.hid (((hE ⟨1, .data⟩ (by simp) (by decide)).1).2 rfl)
    have Hr2 : Hid (NodeR (later w3 y) any n v2) := Lib.hid ((hE ⟨3, .data⟩ (by simp) (by decide)).2 rfl)
    clear hE
    refine stabAt_call (f := 12) (args := #[v1, v2]) ?_ ?_
    · go_simp
    · refine (specFitsShape_ok x n _ _ _ Hr1.out Hr2.out).mono ?_
      rintro e w' ⟨rfl, hg⟩
      exact ⟨_, rfl, hg, rfl⟩
  go_frame
  (refine wpStab_quiet (by kernel_rfl) (by kernel_rfl) (by simp) ?_; intro K hK; go_big_quiet_op; go_big_quiet_on)
  refine wpStab_end ?_
  intro w4 hg4
  clear p0 p1 p2 p3
  clear q0 q1 q2 q3 q4
  have HB0 := Lib.hid (HB0.out.grow hg4)
  have HB1 := Lib.hid (HB1.out.grow hg4)
  replace hgA := hgA.trans hg4
  clear hg4
  (have p0 := HB0.out.cell 0 _ rfl; have p1 := HB0.out.cell 1 _ rfl; have p2 := HB0.out.cell 2 _ rfl; have p3 := HB0.out.cell 3 _ rfl)
  go_wp2_with fail
  refine (toShape_r x (shapeV x na nc ba bc ka kc) _ C1.out (Hx.out.grow hgA)).mono ?_
  rintro e w5 ⟨v3, rfl, hg5, hr3⟩
  have Hr3 := Lib.hid hr3
  obtain ⟨na3, nc3, ba3, bc3, ka3, kc3, rfl, hr3⟩ := hr3
  clear p0 p1 p2 p3
  clear hr3
  have HB0 := Lib.hid (HB0.out.grow hg5)
  have HB1 := Lib.hid (HB1.out.grow hg5)
  replace hgA := hgA.trans hg5
  clear hg5
  (have q0 := HB1.out.cell 0 _ rfl; have q1 := HB1.out.cell 1 _ rfl; have q2 := HB1.out.cell 2 _ rfl; have q3 := HB1.out.cell 3 _ rfl; have q4 := HB1.out.cell 4 _ rfl)
  have z1 := HB1.out.lt
  unfold shapeV
  go_wp2_with fail
  obtain ⟨w6, hw6, hg6, B3⟩ : ∃ w6, w5.alloc (.cells #[.int .i64 x.kind, .slice na3 x.names.length nc3, .slice ba3 x.needs.length bc3, .slice ka3 x.kids.length kc3] 27) = w6 ∧ Grow w5 w6 ∧ BoxN w6 w5.heap.size (shapeL' x na3 nc3 ba3 bc3 ka3 kc3) := ⟨_, rfl, (Ext.refl nil w5).alloc _, BoxN.new w5 (shapeL' x na3 nc3 ba3 bc3 ka3 kc3) _⟩
  rw [hw6]
  clear hw6
  refine (toNode_r n (nodeV n na2 nc2 ka2 kc2) _ C2.out (Hn.out.grow (hgA.trans hg6))).mono ?_
  rintro e w7 ⟨v4, rfl, hg7, hr4⟩
  have Hr4 := Lib.hid hr4
  obtain ⟨na4, nc4, ka4, kc4, rfl, hr4⟩ := hr4
  clear q0 q1 q2 q3 q4
  clear hr4
  have HB0 := Lib.hid (HB0.out.grow (hg6.trans hg7))
  have HB1 := Lib.hid (HB1.out.grow (hg6.trans hg7))
  have HB3 := Lib.hid (B3.grow hg7)
  have Hr3 := Lib.hid (Hr3.out.grow (hg6.trans hg7))
  replace hgA := hgA.trans (hg6.trans hg7)
  clear hg6 hg7 B3
  (have r0 := HB3.out.cell 0 _ rfl; have r1 := HB3.out.cell 1 _ rfl; have r2 := HB3.out.cell 2 _ rfl; have r3 := HB3.out.cell 3 _ rfl)
  have z3 := HB3.out.lt
  unfold nodeV
  go_wp2_with fail
  obtain ⟨w8, hw8, hg8, B4⟩ : ∃ w8, w7.alloc (.cells #[.int .i64 n.kind, .int .i64 n.num, .string n.text, .slice na4 n.names.length nc4, .slice ka4 n.kids.length kc4] 30) = w8 ∧ Grow w7 w8 ∧ BoxN w8 w7.heap.size (nodeL n na4 nc4 ka4 kc4) := ⟨_, rfl, (Ext.refl nil w7).alloc _, BoxN.new w7 (nodeL n na4 nc4 ka4 kc4) _⟩
  rw [hw8]
  clear hw8
  clear r0 r1 r2 r3
  refine (implFitsShape_ok x n (shapeV x na3 nc3 ba3 bc3 ka3 kc3) (nodeV n na4 nc4 ka4 kc4) _ (Hr3.out.grow hg8) (Hr4.out.grow hg8)).mono ?_
  rintro e w9 ⟨rfl, hg9⟩
  have HB0 := Lib.hid (HB0.out.grow (hg8.trans hg9))
  have HB1 := Lib.hid (HB1.out.grow (hg8.trans hg9))
  have HB3 := Lib.hid (HB3.out.grow (hg8.trans hg9))
  have HB4 := Lib.hid (B4.grow hg9)
  have Hr3 := Lib.hid (Hr3.out.grow (hg8.trans hg9))
  have Hr4 := Lib.hid (Hr4.out.grow (hg8.trans hg9))
  replace hgA := hgA.trans (hg8.trans hg9)
  have hb : (fitsV x n != fitsV x n) = false := by simp
  clear hg8 hg9 B4
  go_wp2_with fail
  (have p0 := HB0.out.cell 0 _ rfl; have p1 := HB0.out.cell 1 _ rfl; have p2 := HB0.out.cell 2 _ rfl; have p3 := HB0.out.cell 3 _ rfl)
  (have r0 := HB3.out.cell 0 _ rfl; have r1 := HB3.out.cell 1 _ rfl; have r2 := HB3.out.cell 2 _ rfl; have r3 := HB3.out.cell 3 _ rfl)
  refine wp_region_stab Grow (fun i => if i = 2 then some (fun v w' => ShapeR w' any x v) else if i = 3 then some (fun v _ => v = .bool true) else none) (by kernel_rfl) (by kernel_rfl) ⟨Ext.refl nil, fun _ _ h1 h2 => h2.trans h1, ?_⟩ ?_
  · intro i V hV v w1 w2 hr hv
    by_cases h1 : i = 2
    · simp only [h1, if_true, Option.some.injEq] at hV; subst hV; exact ShapeR.grow hv hr
    · by_cases h3 : i = 3
      · simp [h3] at hV; subst hV; exact hv
      · simp [h1, h3] at hV
  (refine wpStab_quiet (by kernel_rfl) (by kernel_rfl) (by simp) ?_; intro K hK; go_big_quiet_op; go_big_quiet_on)
  (refine wpStab_quiet (by kernel_rfl) (by kernel_rfl) (by simp) ?_; intro K hK; go_big_quiet_op; go_big_quiet_on)
  refine wpStab_made (fun v w' => ShapeR w' any x v) ?_ ?_ ?_ ?_
  · go_simp
  · simp
  · intro y _
    refine stabAt_call (f := 27) (args := #[shapeV x na nc ba bc ka kc]) ?_ ?_
    · unfold shapeV; go_simp
    · exact toShape_r x _ _ C1.out (Hx.out.grow (hgA.trans (later_grow _ _)))
  intro v5
  go_frame
  refine wpStab_const (.bool true) ?_ ?_ ?_ ?_
  · go_simp
  · simp
  · intro y hE
    have Hr5 : Hid (ShapeR (later w9 y) any x v5) := Lib.hid ((hE ⟨2, .data⟩ (by simp) (by decide)).2 rfl)
    clear hE
    refine stabAt_call (f := 29) (args := #[shapeV x na3 nc3 ba3 bc3 ka3 kc3, v5]) ?_ ?_
    · unfold shapeV; go_simp
    · refine (eqShape_ok x _ _ _ (Hr3.out.grow (later_grow _ _)) Hr5.out).mono ?_
      rintro e w' ⟨rfl, hg⟩
      exact ⟨_, rfl, hg, rfl⟩
  go_frame
  (refine wpStab_quiet (by kernel_rfl) (by kernel_rfl) (by simp) ?_; intro K hK; go_big_quiet_op; go_big_quiet_on)
  refine wpStab_end ?_
  intro w10 hg10
  clear p0 p1 p2 p3
  clear r0 r1 r2 r3
  have HB1 := Lib.hid (HB1.out.grow hg10)
  have HB4 := Lib.hid (HB4.out.grow hg10)
  have Hr4 := Lib.hid (Hr4.out.grow hg10)
  replace hgA := hgA.trans hg10
  clear hg10
  go_wp2_with fail
  (have q0 := HB1.out.cell 0 _ rfl; have q1 := HB1.out.cell 1 _ rfl; have q2 := HB1.out.cell 2 _ rfl; have q3 := HB1.out.cell 3 _ rfl; have q4 := HB1.out.cell 4 _ rfl)
  (have s0 := HB4.out.cell 0 _ rfl; have s1 := HB4.out.cell 1 _ rfl; have s2 := HB4.out.cell 2 _ rfl; have s3 := HB4.out.cell 3 _ rfl; have s4 := HB4.out.cell 4 _ rfl)
  refine wp_region_stab Grow (fun i => if i = 2 then some (fun v w' => NodeR w' any n v) else if i = 3 then some (fun v _ => v = .bool true) else none) (by kernel_rfl) (by kernel_rfl) ⟨Ext.refl nil, fun _ _ h1 h2 => h2.trans h1, ?_⟩ ?_
  · intro i V hV v w1 w2 hr hv
    by_cases h1 : i = 2
    · simp only [h1, if_true, Option.some.injEq] at hV; subst hV; exact NodeR.grow hv hr
    · by_cases h3 : i = 3
      · simp [h3] at hV; subst hV; exact hv
      · simp [h1, h3] at hV
  (refine wpStab_quiet (by kernel_rfl) (by kernel_rfl) (by simp) ?_; intro K hK; go_big_quiet_op; go_big_quiet_on)
  (refine wpStab_quiet (by kernel_rfl) (by kernel_rfl) (by simp) ?_; intro K hK; go_big_quiet_op; go_big_quiet_on)
  refine wpStab_made (fun v w' => NodeR w' any n v) ?_ ?_ ?_ ?_
  · go_simp
  · simp
  · intro y _
    refine stabAt_call (f := 28) (args := #[nodeV n na2 nc2 ka2 kc2]) ?_ ?_
    · unfold nodeV; go_simp
    · exact toNode_r n _ _ C2.out (Hn.out.grow (hgA.trans (later_grow _ _)))
  intro v6
  go_frame
  refine wpStab_const (.bool true) ?_ ?_ ?_ ?_
  · go_simp
  · simp
  · intro y hE
    have Hr6 : Hid (NodeR (later w10 y) any n v6) := Lib.hid ((hE ⟨2, .data⟩ (by simp) (by decide)).2 rfl)
    clear hE
    refine stabAt_call (f := 30) (args := #[nodeV n na4 nc4 ka4 kc4, v6]) ?_ ?_
    · unfold nodeV; go_simp
    · refine (eqNode_ok n n _ _ _ (Hr4.out.grow (later_grow _ _)) Hr6.out).mono ?_
      rintro e w' ⟨rfl, hg⟩
      exact ⟨_, rfl, hg, by rw [eqN_refl]⟩
  go_frame
  (refine wpStab_quiet (by kernel_rfl) (by kernel_rfl) (by simp) ?_; intro K hK; go_big_quiet_op; go_big_quiet_on)
  refine wpStab_end ?_
  intro w11 hg11
  go_wp2_with fail
  go_ret
  exact ⟨by simp, hgA.trans hg11⟩

end Go.Proofs.Ytchiakeceiefdaa
