/-
  FnExactFindRange returns true whatever the entries and the bounds, and they read behind the call as they read before. No condition.
-/
import Derived.ProofKit
import Derived.Deep.Slices
import Derived.Deep.Fields
import Derived.Lib.Bytealg
import Derived.Test.YtchiakeceiefdaaFRgD

/-
  The walk of the law FnExactFindRange.
-/
namespace Go.Proofs.Ytchiakeceiefdaa
open Go.RowKit

theorem toEntryS_r (l : List Ent) (a : Option Addr) (c : Nat) (w : World) (hcost : costEntL l ≤ 1048576) (hn : SlR entRep w any a c l) :
    Calls Try.prog 38 #[.slice a l.length c] w fun e w' => ∃ v', e = .returned v' ∧ Grow w w' ∧ ∃ a' c', v' = .slice a' l.length c' ∧ SlR entRep w' any a' c' l :=
  (toEntryS_ok l a c w hcost hn).mono fun _ _ ⟨a', c', _, he, hg, ho, _⟩ => ⟨_, he, hg, a', c', rfl, ho.toR (fun _ _ => trivial)⟩
theorem frS_len (lo hi : Nd) (l : List Ent) : (frS lo hi l).length ≤ l.length := by
  unfold frS; split
  · unfold frL; rw [List.length_map]; exact List.length_filter_le _ _
  · simp
def RowS (w : World) (xs : List ByteArray) (v : Value) : Prop := ∃ a c, v = .slice a xs.length c ∧ StrsR w any a c xs
theorem NodeF.nodeR {w : World} {n : Nd} {na : Option Addr} {nc : Nat} {ka : Option Addr} {kc : Nat} {fp : List Nat} (h : NodeF w n na nc ka kc fp) : NodeR w any n (nodeV n na nc ka kc) := NodeO.toR ⟨na, nc, ka, kc, rfl, h⟩ (fun _ _ => trivial)
def RowE (w : World) (l : List Ent) (v : Value) : Prop := ∃ a c, v = .slice a l.length c ∧ SlR entRep w any a c l
theorem RowS.grow {w w' : World} {xs : List ByteArray} {v : Value} (h : RowS w xs v) (hg : Grow w w') : RowS w' xs v := by
  obtain ⟨a, c, hv, h⟩ := h; exact ⟨a, c, hv, h.ext hg (fun _ _ h => h)⟩
theorem RowE.grow {w w' : World} {l : List Ent} {v : Value} (h : RowE w l v) (hg : Grow w w') : RowE w' l v := by
  obtain ⟨a, c, hv, h⟩ := h; exact ⟨a, c, hv, h.grow hg⟩
theorem OwnS.rowS {w w' : World} {xs : List ByteArray} {v : Value} (h : OwnS w w' xs v) : RowS w' xs v := by
  obtain ⟨a, c, fp, hv, h, _⟩ := h; exact ⟨a, c, hv, h.toR (fun _ _ => trivial)⟩

set_option maxRecDepth 100000 in
set_option maxHeartbeats 4000000 in
theorem lawFRange_big (l : List Ent) (lo hi : Nd) (a : Option Addr) (c : Nat) (v u : Value) (w : World) (hn : SlR entRep w any a c l) (hv : NodeR w any lo v) (hu : NodeR w any hi u) (hbig : ¬ costEntL l + costN lo + costN hi ≤ 1048576) :
    Calls Try.prog 7 #[.slice a l.length c, v, u] w fun e w' => e = .returned (.bool true) ∧ Grow w w' := by
  have Hn := Lib.hid hn
  have Hv := Lib.hid hv
  have Hu := Lib.hid hu
  obtain ⟨na, nc, ka, kc, rfl, hc⟩ := hv
  obtain ⟨na2, nc2, ka2, kc2, rfl, hc2⟩ := hu
  clear hc hc2 hn
  unfold nodeV at *
  by_cases c1 : costEntL l ≤ 1048576
  rotate_left
  · have Hs := Lib.hid (szR_neg (c := costEntL l) (left := 1048576) (by omega))
    clear c1 hbig
    go_enter Try.func7, Try.ntmps7
    go_wp2_with fail
    refine (szEntryS_ok l _ _ _ _ (Hn.out.grow (by repeat (first | with_reducible exact Ext.refl _ _ | with_reducible refine Ext.trans ?_ (by assumption) | with_reducible refine Ext.drew ?_ | with_reducible refine Ext.drewN ?_ _ | with_reducible refine Ext.alloc ?_ _ | with_reducible refine Ext.setNew ?_ (by simp; done) _ | with_reducible refine Ext.setNew ?_ (by simp; omega) _))) (by omega) (by omega)).mono ?_
    rintro e w2 ⟨rfl, hg2⟩
    simp only [Hs.out]
    go_wp2_with fail
    go_ret
    exact ⟨by simp, (by repeat (first | with_reducible exact Ext.refl _ _ | with_reducible refine Ext.trans ?_ (by assumption) | with_reducible refine Ext.drew ?_ | with_reducible refine Ext.drewN ?_ _ | with_reducible refine Ext.alloc ?_ _ | with_reducible refine Ext.setNew ?_ (by simp; done) _ | with_reducible refine Ext.setNew ?_ (by simp; omega) _))⟩
  have Hs := Lib.hid (szR_pos (c := costEntL l) (left := 1048576) (by omega))
  by_cases c2 : (costN lo : Int) ≤ 1048576 - costEntL l
  rotate_left
  · have Hs2 := Lib.hid (szR_neg (c := costN lo) (left := 1048576 - costEntL l) (by omega))
    clear c2 hbig
    go_enter Try.func7, Try.ntmps7
    go_wp2_with fail
    refine (szEntryS_ok l _ _ _ _ (Hn.out.grow (by repeat (first | with_reducible exact Ext.refl _ _ | with_reducible refine Ext.trans ?_ (by assumption) | with_reducible refine Ext.drew ?_ | with_reducible refine Ext.drewN ?_ _ | with_reducible refine Ext.alloc ?_ _ | with_reducible refine Ext.setNew ?_ (by simp; done) _ | with_reducible refine Ext.setNew ?_ (by simp; omega) _))) (by omega) (by omega)).mono ?_
    rintro e w2 ⟨rfl, hg2⟩
    simp only [Hs.out]
    have hcc2 := bcell hg2
    go_wp2_with fail
    refine (szNode_ok lo _ _ _ (by omega) (by omega) (Hv.out.grow (by repeat (first | with_reducible exact Ext.refl _ _ | with_reducible refine Ext.trans ?_ (by assumption) | with_reducible refine Ext.drew ?_ | with_reducible refine Ext.drewN ?_ _ | with_reducible refine Ext.alloc ?_ _ | with_reducible refine Ext.setNew ?_ (by simp; done) _ | with_reducible refine Ext.setNew ?_ (by simp; omega) _)))).mono ?_
    rintro e w3 ⟨rfl, hg3⟩
    simp only [Hs2.out]
    go_wp2_with fail
    go_ret
    exact ⟨by simp, (by repeat (first | with_reducible exact Ext.refl _ _ | with_reducible refine Ext.trans ?_ (by assumption) | with_reducible refine Ext.drew ?_ | with_reducible refine Ext.drewN ?_ _ | with_reducible refine Ext.alloc ?_ _ | with_reducible refine Ext.setNew ?_ (by simp; done) _ | with_reducible refine Ext.setNew ?_ (by simp; omega) _))⟩
  have Hs2 := Lib.hid (szR_pos (c := costN lo) (left := 1048576 - costEntL l) (by omega))
  have Hs3 := Lib.hid (szR_neg (c := costN hi) (left := 1048576 - costEntL l - costN lo) (by omega))
  clear hbig
  go_enter Try.func7, Try.ntmps7
  go_wp2_with fail
  refine (szEntryS_ok l _ _ _ _ (Hn.out.grow (by repeat (first | with_reducible exact Ext.refl _ _ | with_reducible refine Ext.trans ?_ (by assumption) | with_reducible refine Ext.drew ?_ | with_reducible refine Ext.drewN ?_ _ | with_reducible refine Ext.alloc ?_ _ | with_reducible refine Ext.setNew ?_ (by simp; done) _ | with_reducible refine Ext.setNew ?_ (by simp; omega) _))) (by omega) (by omega)).mono ?_
  rintro e w2 ⟨rfl, hg2⟩
  simp only [Hs.out]
  have hcc2 := bcell hg2
  go_wp2_with fail
  refine (szNode_ok lo _ _ _ (by omega) (by omega) (Hv.out.grow (by repeat (first | with_reducible exact Ext.refl _ _ | with_reducible refine Ext.trans ?_ (by assumption) | with_reducible refine Ext.drew ?_ | with_reducible refine Ext.drewN ?_ _ | with_reducible refine Ext.alloc ?_ _ | with_reducible refine Ext.setNew ?_ (by simp; done) _ | with_reducible refine Ext.setNew ?_ (by simp; omega) _)))).mono ?_
  rintro e w3 ⟨rfl, hg3⟩
  simp only [Hs2.out]
  have HB1 := Lib.hid (((BoxN.new1 w _ (nodeL hi na2 nc2 ka2 kc2) 59).grow hg2).grow hg3)
  clear hcc2
  (have q0 := HB1.out.cell 0 _ rfl; have q1 := HB1.out.cell 1 _ rfl; have q2 := HB1.out.cell 2 _ rfl; have q3 := HB1.out.cell 3 _ rfl; have q4 := HB1.out.cell 4 _ rfl)
  go_wp2_with fail
  refine (szNode_ok hi _ _ _ (by omega) (by omega) (Hu.out.grow (by repeat (first | with_reducible exact Ext.refl _ _ | with_reducible refine Ext.trans ?_ (by assumption) | with_reducible refine Ext.drew ?_ | with_reducible refine Ext.drewN ?_ _ | with_reducible refine Ext.alloc ?_ _ | with_reducible refine Ext.setNew ?_ (by simp; done) _ | with_reducible refine Ext.setNew ?_ (by simp; omega) _)))).mono ?_
  rintro e w4 ⟨rfl, hg4⟩
  simp only [Hs3.out]
  go_wp2_with fail
  go_ret
  exact ⟨by simp, (by repeat (first | with_reducible exact Ext.refl _ _ | with_reducible refine Ext.trans ?_ (by assumption) | with_reducible refine Ext.drew ?_ | with_reducible refine Ext.drewN ?_ _ | with_reducible refine Ext.alloc ?_ _ | with_reducible refine Ext.setNew ?_ (by simp; done) _ | with_reducible refine Ext.setNew ?_ (by simp; omega) _))⟩

set_option maxRecDepth 100000 in
set_option maxHeartbeats 8000000 in
theorem lawFRange_main (l : List Ent) (lo hi : Nd) (a : Option Addr) (c : Nat) (v u : Value) (w : World) (hn : SlR entRep w any a c l) (hv : NodeR w any lo v) (hu : NodeR w any hi u) (hcost : costEntL l + costN lo + costN hi ≤ 1048576) :
    Calls Try.prog 7 #[.slice a l.length c, v, u] w fun e w' => e = .returned (.bool true) ∧ Grow w w' := by
  have Hn := Lib.hid hn
  have Hv := Lib.hid hv
  have Hu := Lib.hid hu
  obtain ⟨na, nc, ka, kc, rfl, hc⟩ := hv
  obtain ⟨na2, nc2, ka2, kc2, rfl, hc2⟩ := hu
  clear hc hc2 hn
  unfold nodeV at *
  have Hs := Lib.hid (szR_pos (c := costEntL l) (left := 1048576) (by omega))
  have Hs2 := Lib.hid (szR_pos (c := costN lo) (left := 1048576 - costEntL l) (by omega))
  have Hs3 := Lib.hid (szR_pos (c := costN hi) (left := 1048576 - costEntL l - costN lo) (by omega))
  have C0 : Hid (costEntL l ≤ 1048576) := Lib.hid (by omega)
  have C1 : Hid (costN lo ≤ 1048576) := Lib.hid (by omega)
  have C2 : Hid (costN hi ≤ 1048576) := Lib.hid (by omega)
  have Hcost := Lib.hid hcost
  go_enter Try.func7, Try.ntmps7
  go_wp2_with fail
  refine (szEntryS_ok l _ _ _ _ (Hn.out.grow (by repeat (first | with_reducible exact Ext.refl _ _ | with_reducible refine Ext.trans ?_ (by assumption) | with_reducible refine Ext.drew ?_ | with_reducible refine Ext.drewN ?_ _ | with_reducible refine Ext.alloc ?_ _ | with_reducible refine Ext.setNew ?_ (by simp; done) _ | with_reducible refine Ext.setNew ?_ (by simp; omega) _))) (by omega) (by omega)).mono ?_
  rintro e w2 ⟨rfl, hg2⟩
  simp only [Hs.out]
  have hcc2 := bcell hg2
  go_wp2_with fail
  refine (szNode_ok lo _ _ _ (by omega) (by omega) (Hv.out.grow (by repeat (first | with_reducible exact Ext.refl _ _ | with_reducible refine Ext.trans ?_ (by assumption) | with_reducible refine Ext.drew ?_ | with_reducible refine Ext.drewN ?_ _ | with_reducible refine Ext.alloc ?_ _ | with_reducible refine Ext.setNew ?_ (by simp; done) _ | with_reducible refine Ext.setNew ?_ (by simp; omega) _)))).mono ?_
  rintro e w3 ⟨rfl, hg3⟩
  simp only [Hs2.out]
  have HB0 := Lib.hid ((((BoxN.new w (nodeL lo na nc ka kc) 59).grow ((Ext.refl nil _).alloc _)).grow hg2).grow hg3)
  have HB1 := Lib.hid (((BoxN.new1 w _ (nodeL hi na2 nc2 ka2 kc2) 59).grow hg2).grow hg3)
  have hgA : Grow w w3 := (by repeat (first | with_reducible exact Ext.refl _ _ | with_reducible refine Ext.trans ?_ (by assumption) | with_reducible refine Ext.drew ?_ | with_reducible refine Ext.drewN ?_ _ | with_reducible refine Ext.alloc ?_ _ | with_reducible refine Ext.setNew ?_ (by simp; done) _ | with_reducible refine Ext.setNew ?_ (by simp; omega) _))
  clear hcc2 hg2 hg3
  (have q0 := HB1.out.cell 0 _ rfl; have q1 := HB1.out.cell 1 _ rfl; have q2 := HB1.out.cell 2 _ rfl; have q3 := HB1.out.cell 3 _ rfl; have q4 := HB1.out.cell 4 _ rfl)
  go_wp2_with fail
  refine (szNode_ok hi _ _ _ (by omega) (by omega) (Hu.out.grow (by repeat (first | with_reducible exact Ext.refl _ _ | with_reducible refine Ext.trans ?_ (by assumption) | with_reducible refine Ext.drew ?_ | with_reducible refine Ext.drewN ?_ _ | with_reducible refine Ext.alloc ?_ _ | with_reducible refine Ext.setNew ?_ (by simp; done) _ | with_reducible refine Ext.setNew ?_ (by simp; omega) _)))).mono ?_
  rintro e w4 ⟨rfl, hg4⟩
  simp only [Hs3.out]
  clear q0 q1 q2 q3 q4
  replace HB0 := Lib.hid (HB0.out.grow hg4)
  replace HB1 := Lib.hid (HB1.out.grow hg4)
  replace hgA := hgA.trans hg4
  clear hg4
  go_wp2_with fail
  (have p0 := HB0.out.cell 0 _ rfl; have p1 := HB0.out.cell 1 _ rfl; have p2 := HB0.out.cell 2 _ rfl; have p3 := HB0.out.cell 3 _ rfl; have p4 := HB0.out.cell 4 _ rfl)
  (have q0 := HB1.out.cell 0 _ rfl; have q1 := HB1.out.cell 1 _ rfl; have q2 := HB1.out.cell 2 _ rfl; have q3 := HB1.out.cell 3 _ rfl; have q4 := HB1.out.cell 4 _ rfl)
  refine wp_region_stab Grow (fun i => if i = 1 then some (fun v w' => RowE w' l v) else if i = 3 then some (fun v w' => NodeR w' any lo v) else if i = 5 then some (fun v w' => NodeR w' any hi v) else if i = 6 then some (fun v w' => RowS w' (frS lo hi l) v) else none) (by kernel_rfl) (by kernel_rfl) ⟨Ext.refl nil, fun _ _ h1 h2 => h2.trans h1, ?_⟩ ?_
  · intro i V hV v w1 w2 hr hv
    by_cases h1 : i = 1
    · simp only [h1, if_true, Option.some.injEq] at hV; subst hV; exact RowE.grow hv hr
    · by_cases h3 : i = 3
      · simp [h3] at hV; subst hV; exact NodeR.grow hv hr
      · by_cases h5 : i = 5
        · simp [h5] at hV; subst hV; exact NodeR.grow hv hr
        · by_cases h6 : i = 6
          · simp [h6] at hV; subst hV; exact RowS.grow hv hr
          · simp [h1, h3, h5, h6] at hV
  (refine wpStab_quiet (by kernel_rfl) (by kernel_rfl) (by simp) ?_; intro K hK; go_big_quiet_op; go_big_quiet_on)
  refine wpStab_made (fun v w' => RowE w' l v) ?_ ?_ ?_ ?_
  · go_simp
  · simp
  · intro y _
    refine stabAt_call (f := 38) (args := #[.slice a l.length c]) ?_ ?_
    · go_simp
    · exact toEntryS_r l _ _ _ C0.out (Hn.out.grow (hgA.trans (later_grow _ _)))
  intro v1
  go_frame
  (refine wpStab_quiet (by kernel_rfl) (by kernel_rfl) (by simp) ?_; intro K hK; go_big_quiet_op; go_big_quiet_on)
  refine wpStab_made (fun v w' => NodeR w' any lo v) ?_ ?_ ?_ ?_
  · go_simp
  · simp
  · intro y _
    refine stabAt_call (f := 28) (args := #[nodeV lo na nc ka kc]) ?_ ?_
    · unfold nodeV; go_simp
    · exact toNode_r lo _ _ C1.out (Hv.out.grow (hgA.trans (later_grow _ _)))
  intro v2
  go_frame
  (refine wpStab_quiet (by kernel_rfl) (by kernel_rfl) (by simp) ?_; intro K hK; go_big_quiet_op; go_big_quiet_on)
  refine wpStab_made (fun v w' => NodeR w' any hi v) ?_ ?_ ?_ ?_
  · go_simp
  · simp
  · intro y _
    refine stabAt_call (f := 28) (args := #[nodeV hi na2 nc2 ka2 kc2]) ?_ ?_
    · unfold nodeV; go_simp
    · exact toNode_r hi _ _ C2.out (Hu.out.grow (hgA.trans (later_grow _ _)))
  intro v3
  go_frame
  refine wpStab_made (fun v w' => RowS w' (frS lo hi l) v) ?_ ?_ ?_ ?_
  · go_simp
  · simp
  · intro y hE
    have Hr1 : RowE (later w4 y) l v1 := (((hE ⟨1, .data⟩ (by simp) (by decide)).1).1).2 rfl
    have Hr2 : NodeR (later w4 y) any lo v2 := ((hE ⟨3, .data⟩ (by simp) (by decide)).1).2 rfl
    have Hr3 : NodeR (later w4 y) any hi v3 := (hE ⟨5, .data⟩ (by simp) (by decide)).2 rfl
    obtain ⟨a1, c1, rfl, hr1⟩ := Hr1
    refine stabAt_call (f := 37) (args := #[.slice a1 l.length c1, v2, v3]) ?_ ?_
    · go_simp
    · refine (specFindRange_ok l lo hi _ _ _ _ _ hr1 Hr2 Hr3).mono ?_
      rintro e w' ⟨r, rfl, hg, ho⟩
      exact ⟨r, rfl, hg, ho.rowS⟩
  intro v4
  go_frame
  (refine wpStab_quiet (by kernel_rfl) (by kernel_rfl) (by simp) ?_; intro K hK; go_big_quiet_op; go_big_quiet_on)
  refine wpStab_end' ?_
  intro w5 hg5 hE
  obtain ⟨a8, c8, rfl, hr8⟩ : RowS w5 (frS lo hi l) v4 := (hE 6).2 rfl
  have H8 := Lib.hid hr8.under
  clear hE hr8
  clear p0 p1 p2 p3 p4
  clear q0 q1 q2 q3 q4
  replace HB0 := Lib.hid (HB0.out.grow hg5)
  replace HB1 := Lib.hid (HB1.out.grow hg5)
  have zA := HB1.out.lt
  replace hgA := hgA.trans hg5
  clear hg5
  go_wp2_with fail
  refine (toEntryS_ok l _ _ _ C0.out (Hn.out.grow hgA)).mono ?_
  rintro e w6 ⟨a9, c9, f0, rfl, hg6, hF0, hfr0⟩
  have S0 := Lib.hid (Seg.of hfr0)
  have F0 := Lib.hid hF0
  replace HB0 := Lib.hid (HB0.out.grow hg6)
  replace HB1 := Lib.hid (HB1.out.grow hg6)
  have K8 := Lib.hid (H8.out.ext hg6 (fun _ _ h => h))
  have z6 := hg6.size
  replace hgA := hgA.trans hg6
  clear hg6 hF0 hfr0
  (have p0 := HB0.out.cell 0 _ rfl; have p1 := HB0.out.cell 1 _ rfl; have p2 := HB0.out.cell 2 _ rfl; have p3 := HB0.out.cell 3 _ rfl; have p4 := HB0.out.cell 4 _ rfl)
  go_wp2_with fail
  refine (toNode_ok lo (nodeV lo na nc ka kc) _ C1.out (Hv.out.grow hgA)).mono ?_
  rintro e w7 ⟨v10, f1, rfl, hg7, hF1, hfr1⟩
  obtain ⟨na3, nc3, ka3, kc3, rfl, hF1⟩ := hF1
  clear p0 p1 p2 p3 p4
  have S1 := Lib.hid (Seg.of hfr1)
  have F1 := Lib.hid hF1
  replace F0 := Lib.hid (F0.out.keep (hg7.keeps S0.out.1 (fun _ _ h => h)))
  replace S0 := Lib.hid (S0.out.grow hg7)
  replace HB0 := Lib.hid (HB0.out.grow hg7)
  replace HB1 := Lib.hid (HB1.out.grow hg7)
  replace K8 := Lib.hid (K8.out.ext hg7 (fun _ _ h => h))
  have z7 := hg7.size
  replace hgA := hgA.trans hg7
  clear hg7 hF1 hfr1
  (have q0 := HB1.out.cell 0 _ rfl; have q1 := HB1.out.cell 1 _ rfl; have q2 := HB1.out.cell 2 _ rfl; have q3 := HB1.out.cell 3 _ rfl; have q4 := HB1.out.cell 4 _ rfl)
  have zz := HB1.out.lt
  unfold nodeV
  go_wp2_with fail
  obtain ⟨w8, hw8, hg8, B10, z8⟩ : ∃ w8, w7.alloc (.cells #[.int .i64 lo.kind, .int .i64 lo.num, .string lo.text, .slice na3 lo.names.length nc3, .slice ka3 lo.kids.length kc3] 30) = w8 ∧ Grow w7 w8 ∧ BoxN w8 w7.heap.size (nodeL lo na3 nc3 ka3 kc3) ∧ w8.heap.size = w7.heap.size + 1 := ⟨_, rfl, (Ext.refl nil w7).alloc _, BoxN.new w7 (nodeL lo na3 nc3 ka3 kc3) _, by simp⟩
  rw [hw8]
  clear hw8 zz
  refine (toNode_ok hi (nodeV hi na2 nc2 ka2 kc2) _ C2.out (Hu.out.grow (hgA.trans hg8))).mono ?_
  rintro e w9 ⟨v11, f2, rfl, hg9, hF2, hfr2⟩
  obtain ⟨na4, nc4, ka4, kc4, rfl, hF2⟩ := hF2
  clear q0 q1 q2 q3 q4
  have S2 := Lib.hid (Seg.of hfr2)
  have F2 := Lib.hid hF2
  have hg89 := hg8.trans hg9
  replace F0 := Lib.hid (F0.out.keep (hg89.keeps S0.out.1 (fun _ _ h => h)))
  replace S0 := Lib.hid (S0.out.grow hg89)
  replace F1 := Lib.hid (F1.out.keep (hg89.keeps S1.out.1 (fun _ _ h => h)))
  replace S1 := Lib.hid (S1.out.grow hg89)
  replace HB0 := Lib.hid (HB0.out.grow hg89)
  replace HB1 := Lib.hid (HB1.out.grow hg89)
  replace K8 := Lib.hid (K8.out.ext hg89 (fun _ _ h => h))
  have HB10 := Lib.hid (B10.grow hg9)
  have z9 := hg9.size
  replace hgA := hgA.trans hg89
  clear hg8 hg9 hg89 hF2 hfr2 B10
  (have r0 := HB10.out.cell 0 _ rfl; have r1 := HB10.out.cell 1 _ rfl; have r2 := HB10.out.cell 2 _ rfl; have r3 := HB10.out.cell 3 _ rfl; have r4 := HB10.out.cell 4 _ rfl)
  have zz := HB10.out.lt
  unfold nodeV
  go_wp2_with fail
  obtain ⟨w10, hw10, hg10, B11, z10⟩ : ∃ w10, w9.alloc (.cells #[.int .i64 hi.kind, .int .i64 hi.num, .string hi.text, .slice na4 hi.names.length nc4, .slice ka4 hi.kids.length kc4] 30) = w10 ∧ Grow w9 w10 ∧ BoxN w10 w9.heap.size (nodeL hi na4 nc4 ka4 kc4) ∧ w10.heap.size = w9.heap.size + 1 := ⟨_, rfl, (Ext.refl nil w9).alloc _, BoxN.new w9 (nodeL hi na4 nc4 ka4 kc4) _, by simp⟩
  rw [hw10]
  clear hw10 zz
  clear r0 r1 r2 r3 r4
  have hR0 : SlR entRep w9 any a9 c9 l := F0.out.toR (fun _ _ => trivial)
  have hR1 : NodeR w9 any lo (nodeV lo na3 nc3 ka3 kc3) := F1.out.nodeR
  have hR2 : NodeR w9 any hi (nodeV hi na4 nc4 ka4 kc4) := F2.out.nodeR
  refine (implFindRange_ok l lo hi _ _ (nodeV lo na3 nc3 ka3 kc3) (nodeV hi na4 nc4 ka4 kc4) _ (hR0.grow hg10) (hR1.grow hg10) (hR2.grow hg10)).mono ?_
  rintro e w11 ⟨r, rfl, hg11, a12, c12, fg, rfl, hFg, hfrg⟩
  have hga := hg10.trans hg11
  have HB11 := Lib.hid (B11.grow hg11)
  have FG := Lib.hid hFg
  have SG := Lib.hid (Seg.of hfrg)
  have z11 := hg11.size
  replace F0 := Lib.hid (F0.out.keep (hga.keeps S0.out.1 (fun _ _ h => h)))
  replace S0 := Lib.hid (S0.out.grow hga)
  replace F1 := Lib.hid (F1.out.keep (hga.keeps S1.out.1 (fun _ _ h => h)))
  replace S1 := Lib.hid (S1.out.grow hga)
  replace F2 := Lib.hid (F2.out.keep (hga.keeps S2.out.1 (fun _ _ h => h)))
  replace S2 := Lib.hid (S2.out.grow hga)
  replace HB0 := Lib.hid (HB0.out.grow hga)
  replace HB1 := Lib.hid (HB1.out.grow hga)
  replace HB10 := Lib.hid (HB10.out.grow hga)
  replace K8 := Lib.hid (K8.out.ext hga (fun _ _ h => h))
  replace hgA := hgA.trans hga
  clear hg10 hg11 hga B11 hFg hfrg hR0 hR1 hR2
  have heq : eqS (frS lo hi l) (frS lo hi l) = true := by simp [eqS]
  have Heq := Lib.hid heq
  clear heq
  go_wp2_with fail
  refine (eqStringS_ok _ _ _ _ (frS lo hi l) (frS lo hi l) _ (FG.out.toR (fun _ _ => trivial)) (K8.out.mono (fun _ _ => trivial))).mono ?_
  rintro e w12 ⟨rfl, hg12⟩
  simp only [Heq.out]
  replace F0 := Lib.hid (F0.out.keep (hg12.keeps S0.out.1 (fun _ _ h => h)))
  replace S0 := Lib.hid (S0.out.grow hg12)
  replace F1 := Lib.hid (F1.out.keep (hg12.keeps S1.out.1 (fun _ _ h => h)))
  replace S1 := Lib.hid (S1.out.grow hg12)
  replace F2 := Lib.hid (F2.out.keep (hg12.keeps S2.out.1 (fun _ _ h => h)))
  replace S2 := Lib.hid (S2.out.grow hg12)
  replace FG := Lib.hid (FG.out.keep (hg12.keeps SG.out.1 (fun _ _ h => h)))
  replace SG := Lib.hid (SG.out.grow hg12)
  replace HB0 := Lib.hid (HB0.out.grow hg12)
  replace HB1 := Lib.hid (HB1.out.grow hg12)
  replace HB10 := Lib.hid (HB10.out.grow hg12)
  replace HB11 := Lib.hid (HB11.out.grow hg12)
  replace K8 := Lib.hid (K8.out.ext hg12 (fun _ _ h => h))
  replace hgA := hgA.trans hg12
  clear hg12
  go_wp2_with fail
  refine (toEntryS_r l _ _ _ C0.out (Hn.out.grow hgA)).mono ?_
  rintro e w13 ⟨v13, rfl, hg13, a13, c13, rfl, hr13⟩
  have Hr13 := Lib.hid hr13
  clear hr13
  replace F0 := Lib.hid (F0.out.keep (hg13.keeps S0.out.1 (fun _ _ h => h)))
  replace S0 := Lib.hid (S0.out.grow hg13)
  replace F1 := Lib.hid (F1.out.keep (hg13.keeps S1.out.1 (fun _ _ h => h)))
  replace S1 := Lib.hid (S1.out.grow hg13)
  replace F2 := Lib.hid (F2.out.keep (hg13.keeps S2.out.1 (fun _ _ h => h)))
  replace S2 := Lib.hid (S2.out.grow hg13)
  replace FG := Lib.hid (FG.out.keep (hg13.keeps SG.out.1 (fun _ _ h => h)))
  replace SG := Lib.hid (SG.out.grow hg13)
  replace HB0 := Lib.hid (HB0.out.grow hg13)
  replace HB1 := Lib.hid (HB1.out.grow hg13)
  replace HB10 := Lib.hid (HB10.out.grow hg13)
  replace HB11 := Lib.hid (HB11.out.grow hg13)
  replace K8 := Lib.hid (K8.out.ext hg13 (fun _ _ h => h))
  replace hgA := hgA.trans hg13
  clear hg13
  go_wp2_with fail
  refine (eqEntryS_same l _ _ _ _ _ (F0.out.toR (fun _ _ => trivial)) Hr13.out).mono ?_
  rintro e w14 ⟨rfl, hg14⟩
  replace F0 := Lib.hid (F0.out.keep (hg14.keeps S0.out.1 (fun _ _ h => h)))
  replace S0 := Lib.hid (S0.out.grow hg14)
  replace F1 := Lib.hid (F1.out.keep (hg14.keeps S1.out.1 (fun _ _ h => h)))
  replace S1 := Lib.hid (S1.out.grow hg14)
  replace F2 := Lib.hid (F2.out.keep (hg14.keeps S2.out.1 (fun _ _ h => h)))
  replace S2 := Lib.hid (S2.out.grow hg14)
  replace FG := Lib.hid (FG.out.keep (hg14.keeps SG.out.1 (fun _ _ h => h)))
  replace SG := Lib.hid (SG.out.grow hg14)
  replace HB0 := Lib.hid (HB0.out.grow hg14)
  replace HB1 := Lib.hid (HB1.out.grow hg14)
  replace HB10 := Lib.hid (HB10.out.grow hg14)
  replace HB11 := Lib.hid (HB11.out.grow hg14)
  replace K8 := Lib.hid (K8.out.ext hg14 (fun _ _ h => h))
  replace hgA := hgA.trans hg14
  clear hg14
  clear Hr13
  go_wp2_with fail
  (have p0 := HB10.out.cell 0 _ rfl; have p1 := HB10.out.cell 1 _ rfl; have p2 := HB10.out.cell 2 _ rfl; have p3 := HB10.out.cell 3 _ rfl; have p4 := HB10.out.cell 4 _ rfl)
  (have q0 := HB0.out.cell 0 _ rfl; have q1 := HB0.out.cell 1 _ rfl; have q2 := HB0.out.cell 2 _ rfl; have q3 := HB0.out.cell 3 _ rfl; have q4 := HB0.out.cell 4 _ rfl)
  refine wp_region_stab Grow (fun i => if i = 2 then some (fun v w' => NodeR w' any lo v) else if i = 3 then some (fun v _ => v = .bool true) else none) (by kernel_rfl) (by kernel_rfl) ⟨Ext.refl nil, fun _ _ h1 h2 => h2.trans h1, ?_⟩ ?_
  · intro i V hV v w1 w2 hr hv
    by_cases h1 : i = 2
    · simp only [h1, if_true, Option.some.injEq] at hV; subst hV; exact NodeR.grow hv hr
    · by_cases h3 : i = 3
      · simp [h3] at hV; subst hV; exact hv
      · simp [h1, h3] at hV
  (refine wpStab_quiet (by kernel_rfl) (by kernel_rfl) (by simp) ?_; intro K hK; go_big_quiet_op; go_big_quiet_on)
  (refine wpStab_quiet (by kernel_rfl) (by kernel_rfl) (by simp) ?_; intro K hK; go_big_quiet_op; go_big_quiet_on)
  refine wpStab_made (fun v w' => NodeR w' any lo v) ?_ ?_ ?_ ?_
  · go_simp
  · simp
  · intro y _
    refine stabAt_call (f := 28) (args := #[nodeV lo na nc ka kc]) ?_ ?_
    · unfold nodeV; go_simp
    · exact toNode_r lo _ _ C1.out (Hv.out.grow (hgA.trans (later_grow _ _)))
  intro v5
  go_frame
  refine wpStab_const (.bool true) ?_ ?_ ?_ ?_
  · go_simp
  · simp
  · intro y hE
    have Hr6 : Hid (NodeR (later w14 y) any lo v5) := Lib.hid ((hE ⟨2, .data⟩ (by simp) (by decide)).2 rfl)
    clear hE
    refine stabAt_call (f := 30) (args := #[nodeV lo na3 nc3 ka3 kc3, v5]) ?_ ?_
    · unfold nodeV; go_simp
    · refine (eqNode_ok lo lo _ _ _ (((NodeF.nodeR F1.out)).grow (later_grow _ _)) Hr6.out).mono ?_
      rintro e w' ⟨rfl, hg⟩
      exact ⟨_, rfl, hg, by rw [eqN_refl]⟩
  go_frame
  (refine wpStab_quiet (by kernel_rfl) (by kernel_rfl) (by simp) ?_; intro K hK; go_big_quiet_op; go_big_quiet_on)
  refine wpStab_end ?_
  intro w15 hgw15
  clear p0 p1 p2 p3 p4
  clear q0 q1 q2 q3 q4
  replace F0 := Lib.hid (F0.out.keep (hgw15.keeps S0.out.1 (fun _ _ h => h)))
  replace S0 := Lib.hid (S0.out.grow hgw15)
  replace F1 := Lib.hid (F1.out.keep (hgw15.keeps S1.out.1 (fun _ _ h => h)))
  replace S1 := Lib.hid (S1.out.grow hgw15)
  replace F2 := Lib.hid (F2.out.keep (hgw15.keeps S2.out.1 (fun _ _ h => h)))
  replace S2 := Lib.hid (S2.out.grow hgw15)
  replace FG := Lib.hid (FG.out.keep (hgw15.keeps SG.out.1 (fun _ _ h => h)))
  replace SG := Lib.hid (SG.out.grow hgw15)
  replace HB0 := Lib.hid (HB0.out.grow hgw15)
  replace HB1 := Lib.hid (HB1.out.grow hgw15)
  replace HB10 := Lib.hid (HB10.out.grow hgw15)
  replace HB11 := Lib.hid (HB11.out.grow hgw15)
  replace K8 := Lib.hid (K8.out.ext hgw15 (fun _ _ h => h))
  replace hgA := hgA.trans hgw15
  clear hgw15
  go_wp2_with fail
  (have p0 := HB11.out.cell 0 _ rfl; have p1 := HB11.out.cell 1 _ rfl; have p2 := HB11.out.cell 2 _ rfl; have p3 := HB11.out.cell 3 _ rfl; have p4 := HB11.out.cell 4 _ rfl)
  (have q0 := HB1.out.cell 0 _ rfl; have q1 := HB1.out.cell 1 _ rfl; have q2 := HB1.out.cell 2 _ rfl; have q3 := HB1.out.cell 3 _ rfl; have q4 := HB1.out.cell 4 _ rfl)
  refine wp_region_stab Grow (fun i => if i = 2 then some (fun v w' => NodeR w' any hi v) else if i = 3 then some (fun v _ => v = .bool true) else none) (by kernel_rfl) (by kernel_rfl) ⟨Ext.refl nil, fun _ _ h1 h2 => h2.trans h1, ?_⟩ ?_
  · intro i V hV v w1 w2 hr hv
    by_cases h1 : i = 2
    · simp only [h1, if_true, Option.some.injEq] at hV; subst hV; exact NodeR.grow hv hr
    · by_cases h3 : i = 3
      · simp [h3] at hV; subst hV; exact hv
      · simp [h1, h3] at hV
  (refine wpStab_quiet (by kernel_rfl) (by kernel_rfl) (by simp) ?_; intro K hK; go_big_quiet_op; go_big_quiet_on)
  (refine wpStab_quiet (by kernel_rfl) (by kernel_rfl) (by simp) ?_; intro K hK; go_big_quiet_op; go_big_quiet_on)
  refine wpStab_made (fun v w' => NodeR w' any hi v) ?_ ?_ ?_ ?_
  · go_simp
  · simp
  · intro y _
    refine stabAt_call (f := 28) (args := #[nodeV hi na2 nc2 ka2 kc2]) ?_ ?_
    · unfold nodeV; go_simp
    · exact toNode_r hi _ _ C2.out (Hu.out.grow (hgA.trans (later_grow _ _)))
  intro v5
  go_frame
  refine wpStab_const (.bool true) ?_ ?_ ?_ ?_
  · go_simp
  · simp
  · intro y hE
    have Hr6 : Hid (NodeR (later w15 y) any hi v5) := Lib.hid ((hE ⟨2, .data⟩ (by simp) (by decide)).2 rfl)
    clear hE
    refine stabAt_call (f := 30) (args := #[nodeV hi na4 nc4 ka4 kc4, v5]) ?_ ?_
    · unfold nodeV; go_simp
    · refine (eqNode_ok hi hi _ _ _ (((NodeF.nodeR F2.out)).grow (later_grow _ _)) Hr6.out).mono ?_
      rintro e w' ⟨rfl, hg⟩
      exact ⟨_, rfl, hg, by rw [eqN_refl]⟩
  go_frame
  (refine wpStab_quiet (by kernel_rfl) (by kernel_rfl) (by simp) ?_; intro K hK; go_big_quiet_op; go_big_quiet_on)
  refine wpStab_end ?_
  intro w16 hgw16
  clear p0 p1 p2 p3 p4
  clear q0 q1 q2 q3 q4
  replace F0 := Lib.hid (F0.out.keep (hgw16.keeps S0.out.1 (fun _ _ h => h)))
  replace S0 := Lib.hid (S0.out.grow hgw16)
  replace F1 := Lib.hid (F1.out.keep (hgw16.keeps S1.out.1 (fun _ _ h => h)))
  replace S1 := Lib.hid (S1.out.grow hgw16)
  replace F2 := Lib.hid (F2.out.keep (hgw16.keeps S2.out.1 (fun _ _ h => h)))
  replace S2 := Lib.hid (S2.out.grow hgw16)
  replace FG := Lib.hid (FG.out.keep (hgw16.keeps SG.out.1 (fun _ _ h => h)))
  replace SG := Lib.hid (SG.out.grow hgw16)
  replace HB0 := Lib.hid (HB0.out.grow hgw16)
  replace HB1 := Lib.hid (HB1.out.grow hgw16)
  replace HB10 := Lib.hid (HB10.out.grow hgw16)
  replace HB11 := Lib.hid (HB11.out.grow hgw16)
  replace K8 := Lib.hid (K8.out.ext hgw16 (fun _ _ h => h))
  replace hgA := hgA.trans hgw16
  clear hgw16
  go_wp2_with fail
  have Hcost := Hcost.out
  have b0 := cntEnt_le l
  have b1 := cntT_le lo
  have b2 := cntT_le hi
  have b3 : l.length ≤ costEntL l := by unfold costEntL; omega
  have b4 := frS_len lo hi l
  refine (markEntryS_ok l a9 c9 f0 w5.heap.size 1 _ _ (by rfl) F0.out S0.out.1 (by omega) (by omega) (by omega)).mono ?_
  rintro e w17 ⟨rfl, hx, _, _⟩
  replace F1 := Lib.hid (F1.out.keep (S1.out.keeps S0.out (by omega) hx))
  replace S1 := Lib.hid (S1.out.ext S0.out (by omega) hx)
  replace F2 := Lib.hid (F2.out.keep (S2.out.keeps S0.out (by omega) hx))
  replace S2 := Lib.hid (S2.out.ext S0.out (by omega) hx)
  replace FG := Lib.hid (FG.out.keep (SG.out.keeps S0.out (by omega) hx))
  replace SG := Lib.hid (SG.out.ext S0.out (by omega) hx)
  replace HB0 := Lib.hid (S0.out.box HB0.out hx (by omega))
  replace HB1 := Lib.hid (S0.out.box HB1.out hx (by omega))
  replace HB10 := Lib.hid (S0.out.box HB10.out hx (by omega))
  replace HB11 := Lib.hid (S0.out.box HB11.out hx (by omega))
  replace K8 := Lib.hid (S0.out.below K8.out hx (by omega))
  replace hgA := S0.out.inner hgA hx (by omega)
  clear hx F0 S0
  (have r0 := HB10.out.cell 0 _ rfl; have r1 := HB10.out.cell 1 _ rfl; have r2 := HB10.out.cell 2 _ rfl; have r3 := HB10.out.cell 3 _ rfl; have r4 := HB10.out.cell 4 _ rfl)
  go_wp2_with fail
  refine (markNode_ok lo na3 nc3 ka3 kc3 f1 w6.heap.size (1 + cntR cntEnt l) _ _ (by rfl) F1.out S1.out.1 (by omega) (by omega)).mono ?_
  rintro e w18 ⟨rfl, hx, _, _⟩
  clear r0 r1 r2 r3 r4
  replace F2 := Lib.hid (F2.out.keep (S2.out.keeps S1.out (by omega) hx))
  replace S2 := Lib.hid (S2.out.ext S1.out (by omega) hx)
  replace FG := Lib.hid (FG.out.keep (SG.out.keeps S1.out (by omega) hx))
  replace SG := Lib.hid (SG.out.ext S1.out (by omega) hx)
  replace HB0 := Lib.hid (S1.out.box HB0.out hx (by omega))
  replace HB1 := Lib.hid (S1.out.box HB1.out hx (by omega))
  replace HB10 := Lib.hid (S1.out.box HB10.out hx (by omega))
  replace HB11 := Lib.hid (S1.out.box HB11.out hx (by omega))
  replace K8 := Lib.hid (S1.out.below K8.out hx (by omega))
  replace hgA := S1.out.inner hgA hx (by omega)
  clear hx F1 S1
  (have r0 := HB11.out.cell 0 _ rfl; have r1 := HB11.out.cell 1 _ rfl; have r2 := HB11.out.cell 2 _ rfl; have r3 := HB11.out.cell 3 _ rfl; have r4 := HB11.out.cell 4 _ rfl)
  go_wp2_with fail
  refine (markNode_ok hi na4 nc4 ka4 kc4 f2 w8.heap.size (1 + cntR cntEnt l + cntT lo) _ _ (by rfl) F2.out S2.out.1 (by omega) (by omega)).mono ?_
  rintro e w19 ⟨rfl, hx, _, _⟩
  clear r0 r1 r2 r3 r4
  replace FG := Lib.hid (FG.out.keep (SG.out.keeps S2.out (by omega) hx))
  replace SG := Lib.hid (SG.out.ext S2.out (by omega) hx)
  replace HB0 := Lib.hid (S2.out.box HB0.out hx (by omega))
  replace HB1 := Lib.hid (S2.out.box HB1.out hx (by omega))
  replace HB10 := Lib.hid (S2.out.box HB10.out hx (by omega))
  replace HB11 := Lib.hid (S2.out.box HB11.out hx (by omega))
  replace K8 := Lib.hid (S2.out.below K8.out hx (by omega))
  replace hgA := S2.out.inner hgA hx (by omega)
  clear hx F2 S2
  go_wp2_with fail
  refine (eqStringS_ok _ _ _ _ (frS lo hi l) (frS lo hi l) _ (FG.out.toR (fun _ _ => trivial)) (K8.out.mono (fun _ _ => trivial))).mono ?_
  rintro e w20 ⟨rfl, hg20⟩
  simp only [Heq.out]
  replace FG := Lib.hid (FG.out.keep (hg20.keeps SG.out.1 (fun _ _ h => h)))
  replace SG := Lib.hid (SG.out.grow hg20)
  replace HB0 := Lib.hid (HB0.out.grow hg20)
  replace HB1 := Lib.hid (HB1.out.grow hg20)
  replace HB10 := Lib.hid (HB10.out.grow hg20)
  replace HB11 := Lib.hid (HB11.out.grow hg20)
  replace K8 := Lib.hid (K8.out.ext hg20 (fun _ _ h => h))
  replace hgA := hgA.trans hg20
  clear hg20
  go_wp2_with fail
  refine (markStringS_i a12 c12 (frS lo hi l) fg w10.heap.size 1 _ _ (by rfl) FG.out SG.out.1 (by omega) (by omega)).mono ?_
  rintro e w21 ⟨rfl, hx, hfr, hF⟩
  replace HB0 := Lib.hid (SG.out.box HB0.out hx (by omega))
  replace HB1 := Lib.hid (SG.out.box HB1.out hx (by omega))
  replace HB10 := Lib.hid (SG.out.box HB10.out hx (by omega))
  replace HB11 := Lib.hid (SG.out.box HB11.out hx (by omega))
  replace K8 := Lib.hid (SG.out.below K8.out hx (by omega))
  replace hgA := SG.out.inner hgA hx (by omega)
  replace FG := Lib.hid hF
  replace SG := Lib.hid (SG.out.marked hfr)
  clear hx hfr hF
  go_wp2_with fail
  refine (heldStringS_i a12 c12 (frS lo hi l).length 1 _ _ (by rfl) (FG.out.toR (fun _ _ => trivial)) (by omega) (by omega)).mono ?_
  rintro e w22 ⟨rfl, hg22⟩
  replace FG := Lib.hid (FG.out.keep (hg22.keeps SG.out.1 (fun _ _ h => h)))
  replace SG := Lib.hid (SG.out.grow hg22)
  replace HB0 := Lib.hid (HB0.out.grow hg22)
  replace HB1 := Lib.hid (HB1.out.grow hg22)
  replace HB10 := Lib.hid (HB10.out.grow hg22)
  replace HB11 := Lib.hid (HB11.out.grow hg22)
  replace K8 := Lib.hid (K8.out.ext hg22 (fun _ _ h => h))
  replace hgA := hgA.trans hg22
  clear hg22
  have hbb : ((1 + (frS lo hi l).length : Nat) != (1 + (frS lo hi l).length : Nat)) = false := by simp
  go_wp2_with fail
  (have p0 := HB0.out.cell 0 _ rfl; have p1 := HB0.out.cell 1 _ rfl; have p2 := HB0.out.cell 2 _ rfl; have p3 := HB0.out.cell 3 _ rfl; have p4 := HB0.out.cell 4 _ rfl)
  (have q0 := HB1.out.cell 0 _ rfl; have q1 := HB1.out.cell 1 _ rfl; have q2 := HB1.out.cell 2 _ rfl; have q3 := HB1.out.cell 3 _ rfl; have q4 := HB1.out.cell 4 _ rfl)
  refine wp_region_stab Grow (fun i => if i = 1 then some (fun v w' => RowE w' l v) else if i = 3 then some (fun v w' => NodeR w' any lo v) else if i = 5 then some (fun v w' => NodeR w' any hi v) else if i = 6 then some (fun v w' => RowS w' (frS lo hi l) v) else none) (by kernel_rfl) (by kernel_rfl) ⟨Ext.refl nil, fun _ _ h1 h2 => h2.trans h1, ?_⟩ ?_
  · intro i V hV v w1 w2 hr hv
    by_cases h1 : i = 1
    · simp only [h1, if_true, Option.some.injEq] at hV; subst hV; exact RowE.grow hv hr
    · by_cases h3 : i = 3
      · simp [h3] at hV; subst hV; exact NodeR.grow hv hr
      · by_cases h5 : i = 5
        · simp [h5] at hV; subst hV; exact NodeR.grow hv hr
        · by_cases h6 : i = 6
          · simp [h6] at hV; subst hV; exact RowS.grow hv hr
          · simp [h1, h3, h5, h6] at hV
  (refine wpStab_quiet (by kernel_rfl) (by kernel_rfl) (by simp) ?_; intro K hK; go_big_quiet_op; go_big_quiet_on)
  refine wpStab_made (fun v w' => RowE w' l v) ?_ ?_ ?_ ?_
  · go_simp
  · simp
  · intro y _
    refine stabAt_call (f := 38) (args := #[.slice a l.length c]) ?_ ?_
    · go_simp
    · exact toEntryS_r l _ _ _ C0.out (Hn.out.grow (hgA.trans (later_grow _ _)))
  intro v1
  go_frame
  (refine wpStab_quiet (by kernel_rfl) (by kernel_rfl) (by simp) ?_; intro K hK; go_big_quiet_op; go_big_quiet_on)
  refine wpStab_made (fun v w' => NodeR w' any lo v) ?_ ?_ ?_ ?_
  · go_simp
  · simp
  · intro y _
    refine stabAt_call (f := 28) (args := #[nodeV lo na nc ka kc]) ?_ ?_
    · unfold nodeV; go_simp
    · exact toNode_r lo _ _ C1.out (Hv.out.grow (hgA.trans (later_grow _ _)))
  intro v2
  go_frame
  (refine wpStab_quiet (by kernel_rfl) (by kernel_rfl) (by simp) ?_; intro K hK; go_big_quiet_op; go_big_quiet_on)
  refine wpStab_made (fun v w' => NodeR w' any hi v) ?_ ?_ ?_ ?_
  · go_simp
  · simp
  · intro y _
    refine stabAt_call (f := 28) (args := #[nodeV hi na2 nc2 ka2 kc2]) ?_ ?_
    · unfold nodeV; go_simp
    · exact toNode_r hi _ _ C2.out (Hu.out.grow (hgA.trans (later_grow _ _)))
  intro v3
  go_frame
  refine wpStab_made (fun v w' => RowS w' (frS lo hi l) v) ?_ ?_ ?_ ?_
  · go_simp
  · simp
  · intro y hE
    have Hr1 : RowE (later w22 y) l v1 := (((hE ⟨1, .data⟩ (by simp) (by decide)).1).1).2 rfl
    have Hr2 : NodeR (later w22 y) any lo v2 := ((hE ⟨3, .data⟩ (by simp) (by decide)).1).2 rfl
    have Hr3 : NodeR (later w22 y) any hi v3 := (hE ⟨5, .data⟩ (by simp) (by decide)).2 rfl
    obtain ⟨a1, c1, rfl, hr1⟩ := Hr1
    refine stabAt_call (f := 39) (args := #[.slice a1 l.length c1, v2, v3]) ?_ ?_
    · go_simp
    · refine (implFindRange_ok l lo hi _ _ _ _ _ hr1 Hr2 Hr3).mono ?_
      rintro e w' ⟨r, rfl, hg, ho⟩
      exact ⟨r, rfl, hg, ho.rowS⟩
  intro v4
  go_frame
  (refine wpStab_quiet (by kernel_rfl) (by kernel_rfl) (by simp) ?_; intro K hK; go_big_quiet_op; go_big_quiet_on)
  refine wpStab_end' ?_
  intro w23 hg23 hE
  obtain ⟨a16, c16, rfl, hr16⟩ : RowS w23 (frS lo hi l) v4 := (hE 6).2 rfl
  have H16 := Lib.hid hr16
  clear hE hr16
  clear p0 p1 p2 p3 p4
  clear q0 q1 q2 q3 q4
  replace FG := Lib.hid (FG.out.keep (hg23.keeps SG.out.1 (fun _ _ h => h)))
  replace SG := Lib.hid (SG.out.grow hg23)
  replace HB0 := Lib.hid (HB0.out.grow hg23)
  replace HB1 := Lib.hid (HB1.out.grow hg23)
  replace HB10 := Lib.hid (HB10.out.grow hg23)
  replace HB11 := Lib.hid (HB11.out.grow hg23)
  replace K8 := Lib.hid (K8.out.ext hg23 (fun _ _ h => h))
  replace hgA := hgA.trans hg23
  clear hg23
  go_wp2_with fail
  refine (eqStringS_ok _ _ _ _ (frS lo hi l) (frS lo hi l) _ H16.out (K8.out.mono (fun _ _ => trivial))).mono ?_
  rintro e w24 ⟨rfl, hg24⟩
  simp only [Heq.out]
  replace FG := Lib.hid (FG.out.keep (hg24.keeps SG.out.1 (fun _ _ h => h)))
  replace SG := Lib.hid (SG.out.grow hg24)
  replace HB0 := Lib.hid (HB0.out.grow hg24)
  replace HB1 := Lib.hid (HB1.out.grow hg24)
  replace HB10 := Lib.hid (HB10.out.grow hg24)
  replace HB11 := Lib.hid (HB11.out.grow hg24)
  replace K8 := Lib.hid (K8.out.ext hg24 (fun _ _ h => h))
  replace hgA := hgA.trans hg24
  clear hg24
  go_wp2_with fail
  refine (heldStringS_i a12 c12 (frS lo hi l).length 1 _ _ (by rfl) (FG.out.toR (fun _ _ => trivial)) (by omega) (by omega)).mono ?_
  rintro e w25 ⟨rfl, hg25⟩
  go_wp2_with fail
  go_ret
  exact ⟨by simp, hgA.trans hg25⟩

theorem lawFRange_ok (l : List Ent) (lo hi : Nd) (v0 v u : Value) (w : World) (hn : RowE w l v0) (hv : NodeR w any lo v) (hu : NodeR w any hi u) :
    Calls Try.prog 7 #[v0, v, u] w fun e w' => e = .returned (.bool true) ∧ Grow w w' := by
  obtain ⟨a, c, rfl, hn⟩ := hn
  by_cases h : costEntL l + costN lo + costN hi ≤ 1048576
  · exact lawFRange_main l lo hi a c v u w hn hv hu h
  · exact lawFRange_big l lo hi a c v u w hn hv hu h

end Go.Proofs.Ytchiakeceiefdaa

/-
  What an argument that is read as data tells of memory: texts, nodes.
-/
namespace Go.Proofs.Ytchiakeceiefdaa
open Go.RowKit Go.ChangeShapes Go.WideShapes Go.Deep

section
variable {H : Type} {enc : TypeId × Value → H} {W : World} {base : Nat} {sp : Nat → Bool} {held : Bool}

theorem addr_spot {w : World} {a : Addr} {v : Value} (h : w.cell? a = some v) : ∃ b o, a = ⟨b, o, none⟩ := by
  have := World.cell?_spot h
  exact ⟨a.block, a.off, by cases a; simp_all⟩

theorem add_mk (b o i : Nat) : (⟨b, o, none⟩ : Addr).add i = ⟨b, o + i, none⟩ := by
  unfold Addr.add; split
  · rename_i h; subst h; rfl
  · rfl

theorem open_strs' {fuel : Nat} {cs : List Value} {x : DataW H × List MemPlace} (h : DataW.trod enc Try.prog W base sp held fuel 23 cs = some x) :
    ∃ a c xs, cs = [.slice a xs.length c] ∧ StrsR W any a c xs := by
  rcases open_slice Try.underlying23 h with ⟨rfl, _⟩ | ⟨a, len, cap, m, n, D, Pl, rfl, _, hl, hm, hmm, _, hi⟩
  · exact ⟨none, 0, [], rfl, by simp, by simp, by simp, .inl rfl⟩
  · have hlm : len ≤ m := by rw [hmm]; split <;> omega
    have hel : ∀ i, i < len → ∃ s : ByteArray, W.cell? (a.add i) = some (.string s) ∧ s.size ≤ maxLen := fun i hi' => by
      obtain ⟨cs', h1, h2⟩ := hi i (by omega)
      have hc : Try.prog.cellsOf 9 = 1 := by kernel_rfl
      rw [hc] at h1
      obtain ⟨_, hlen, hat⟩ := World.cells?_some h1
      obtain ⟨s, rfl, _, hs⟩ := DataW.trod_string Try.underlying9 h2
      have := hat 0 (by omega)
      exact ⟨s, by simpa [Go.Deep.add_add] using this, hs⟩
    have : Inhabited ByteArray := ⟨ByteArray.empty⟩
    obtain ⟨f, hf⟩ := choose_lt hel
    refine ⟨some a, cap, (List.range len).map f, by simp, by simpa using hl, by simp; unfold maxLen at hm; unfold big; omega, ?_, ?_⟩
    · intro x hx
      obtain ⟨i, hi', rfl⟩ := List.mem_map.1 hx
      have := (hf i (List.mem_range.1 hi')).2
      unfold maxLen at this; unfold big; omega
    · by_cases h0 : len = 0
      · subst h0; exact .inl rfl
      · obtain ⟨b, o, ha⟩ := addr_spot (hf 0 (by omega)).1
        have ha' : a = ⟨b, o, none⟩ := by simpa [Addr.add] using ha
        subst ha'
        refine .inr ⟨b, o, rfl, trivial, fun i hi' => ?_⟩
        simp at hi'
        have := (hf i hi').1
        rw [add_mk] at this
        simpa using this

set_option maxRecDepth 100000 in
theorem open_node : ∀ (fuel : Nat) (cs : List Value) (x : DataW H × List MemPlace), DataW.trod enc Try.prog W base sp held fuel 59 cs = some x →
    ∃ n na nc ka kc, cs = [.int .i64 n.kind, .int .i64 n.num, .string n.text, .slice na n.names.length nc, .slice ka n.kids.length kc] ∧ NodeC W any n na nc ka kc := by
  intro fuel
  induction fuel using Nat.strongRecOn with
  | ind fuel ih =>
    intro cs x h
    obtain ⟨xs, n, rfl, _, hlen, hxs, hf⟩ := DataW.trod_struct Try.underlying59 h
    have hc : Try.prog.cellsOf 59 = 5 := by kernel_rfl
    have c3 : Try.prog.cellsOf 3 = 1 := by kernel_rfl
    have c9 : Try.prog.cellsOf 9 = 1 := by kernel_rfl
    have c23 : Try.prog.cellsOf 23 = 1 := by kernel_rfl
    have c57 : Try.prog.cellsOf 57 = 1 := by kernel_rfl
    rw [hc] at hlen
    match cs, hlen with
    | [v0, v1, v2, v3, v4], _ =>
      obtain ⟨y0, g0⟩ : ∃ y, DataW.trod enc Try.prog W base sp held n 3 [v0] = some y := ⟨xs[0]'(by simp at hxs; omega), by
        have h := hf 0 _ rfl
        rw [List.getElem?_eq_getElem (by simp at hxs; omega)] at h
        simpa [c3, c9, c23, c57] using h⟩
      obtain ⟨y1, g1⟩ : ∃ y, DataW.trod enc Try.prog W base sp held n 3 [v1] = some y := ⟨xs[1]'(by simp at hxs; omega), by
        have h := hf 1 _ rfl
        rw [List.getElem?_eq_getElem (by simp at hxs; omega)] at h
        simpa [c3, c9, c23, c57] using h⟩
      obtain ⟨y2, g2⟩ : ∃ y, DataW.trod enc Try.prog W base sp held n 9 [v2] = some y := ⟨xs[2]'(by simp at hxs; omega), by
        have h := hf 2 _ rfl
        rw [List.getElem?_eq_getElem (by simp at hxs; omega)] at h
        simpa [c3, c9, c23, c57] using h⟩
      obtain ⟨y3, g3⟩ : ∃ y, DataW.trod enc Try.prog W base sp held n 23 [v3] = some y := ⟨xs[3]'(by simp at hxs; omega), by
        have h := hf 3 _ rfl
        rw [List.getElem?_eq_getElem (by simp at hxs; omega)] at h
        simpa [c3, c9, c23, c57] using h⟩
      obtain ⟨y4, g4⟩ : ∃ y, DataW.trod enc Try.prog W base sp held n 57 [v4] = some y := ⟨xs[4]'(by simp at hxs; omega), by
        have h := hf 4 _ rfl
        rw [List.getElem?_eq_getElem (by simp at hxs; omega)] at h
        simpa [c3, c9, c23, c57] using h⟩
      clear hf
      obtain ⟨kind, e0, _, _⟩ := DataW.trod_int Try.underlying3 g0
      obtain ⟨num, e1, _, _⟩ := DataW.trod_int Try.underlying3 g1
      obtain ⟨text, e2, _, hts⟩ := DataW.trod_string Try.underlying9 g2
      obtain ⟨na, nc, names, e3, hns⟩ := open_strs' g3
      simp only [List.cons.injEq, and_true] at e0 e1 e2 e3
      subst e0 e1 e2 e3
      have htx : text.size ≤ big := by unfold maxLen at hts; unfold big; omega
      rcases DataW.trod_slice Try.underlying57 g4 with ⟨e4, _⟩ | ⟨a, len, cap, elems, rest, n', rfl, e4, _, _, hl, hm, hel, hi, _, _⟩
      · simp only [List.cons.injEq, and_true] at e4
        subst e4
        exact ⟨⟨kind, num, text, names, []⟩, na, nc, none, 0, rfl, NodeC.mk htx hns ⟨by simp, by simp, .inl rfl⟩⟩
      · simp only [List.cons.injEq, and_true] at e4
        subst e4
        rw [hc] at hi
        have key : ∀ i, i < len → ∃ (k : Nd × (Option Addr × Nat × Option Addr × Nat)), W.cell? (a.add (i * 5)) = some (.int .i64 k.1.kind) ∧ W.cell? (a.add (i * 5 + 1)) = some (.int .i64 k.1.num) ∧ W.cell? (a.add (i * 5 + 2)) = some (.string k.1.text) ∧
            W.cell? (a.add (i * 5 + 3)) = some (.slice k.2.1 k.1.names.length k.2.2.1) ∧ W.cell? (a.add (i * 5 + 4)) = some (.slice k.2.2.2.1 k.1.kids.length k.2.2.2.2) ∧ NodeC W any k.1 k.2.1 k.2.2.1 k.2.2.2.1 k.2.2.2.2 := fun i hi' => by
          have h := hi i hi'
          rw [List.getElem?_eq_getElem (by omega)] at h
          obtain ⟨cs', h1, h2⟩ := Option.bind_eq_some_iff.1 h
          obtain ⟨_, hl5, hat⟩ := World.cells?_some h1
          obtain ⟨m, na', nc', ka', kc', rfl, hn'⟩ := ih n' (by omega) cs' _ h2
          refine ⟨⟨m, na', nc', ka', kc'⟩, ?_, ?_, ?_, ?_, ?_, hn'⟩
          · simpa [Go.Deep.add_add] using hat 0 (by omega)
          · simpa [Go.Deep.add_add] using hat 1 (by omega)
          · simpa [Go.Deep.add_add] using hat 2 (by omega)
          · simpa [Go.Deep.add_add] using hat 3 (by omega)
          · simpa [Go.Deep.add_add] using hat 4 (by omega)
        have : Inhabited (Nd × (Option Addr × Nat × Option Addr × Nat)) := ⟨⟨⟨0, 0, ByteArray.empty, [], []⟩, none, 0, none, 0⟩⟩
        obtain ⟨f, hf⟩ := choose_lt key
        have hkl : ((List.range len).map fun i => (f i).1).length = len := by simp
        have hbig : len ≤ big := by unfold maxLen at hm; unfold big; omega
        refine ⟨⟨kind, num, text, names, (List.range len).map fun i => (f i).1⟩, na, nc, some a, cap, by simp, NodeC.mk htx hns ⟨by rw [hkl]; exact hl, by rw [hkl]; exact hbig, ?_⟩⟩
        by_cases h0 : len = 0
        · subst h0; exact .inl rfl
        · obtain ⟨b, o, ha⟩ := addr_spot (hf 0 (by omega)).1
          have ha' : a = ⟨b, o, none⟩ := by simpa [Addr.add] using ha
          subst ha'
          refine .inr ⟨b, o, rfl, trivial, KidsR.of_get (fun i hi' => ?_)⟩
          rw [hkl] at hi'
          obtain ⟨k0, k1, k2, k3, k4, kn⟩ := hf i hi'
          rw [add_mk] at k0 k1 k2 k3 k4
          simp only [List.getElem_map, List.getElem_range]
          exact ⟨_, _, _, _, k0, by rw [Nat.add_assoc]; exact k1, by rw [Nat.add_assoc]; exact k2, by rw [Nat.add_assoc]; exact k3, by rw [Nat.add_assoc]; exact k4, kn⟩

end
end Go.Proofs.Ytchiakeceiefdaa

/-
  The walks of what makes names, pointers and tags valid.
-/
namespace Go.Proofs.Ytchiakeceiefdaa
open Go.RowKit

/-- A letter or a digit of a name. -/
def nameC (c : UInt8) : Bool := inR c.toNat 97 122 || inR c.toNat 48 57
/-- A digit to the base 16. -/
def hexC (c : UInt8) : Bool := inR c.toNat 48 57 || inR c.toNat 97 102
def nameB (s : ByteArray) : Bool := decide (1 ≤ s.size) && decide (s.size ≤ 8) && s.data.toList.all nameC
def tagB (s : ByteArray) : Bool := decide (s.size = 4) && s.data.toList.all hexC

theorem inR_cases (c a b : Int) : (c < a ∧ inR c a b = false) ∨ (b < c ∧ inR c a b = false) ∨ (a ≤ c ∧ c ≤ b ∧ inR c a b = true) := by
  by_cases h1 : c < a
  · exact .inl ⟨h1, by simp [inR]; omega⟩
  · by_cases h2 : b < c
    · exact .inr (.inl ⟨h2, by simp [inR]; omega⟩)
    · exact .inr (.inr ⟨by omega, by omega, by simp [inR]; omega⟩)

theorem all_end {p : UInt8 → Bool} (s : ByteArray) (k : Nat) (h : ¬ k < s.size) (hk : k ≤ s.size) (h1 : (s.data.toList.take k).all p = true) : s.data.toList.all p = true := by
  have : k = s.data.toList.length := by simp; omega
  rwa [this, List.take_length] at h1

set_option maxHeartbeats 1000000 in
theorem isName_ok (s : ByteArray) (w : World) (hs : s.size ≤ big) :
    Calls Try.prog 120 #[.string s] w fun e w' => e = .returned (.bool (nameB s)) ∧ w = w' := by
  unfold big at hs
  by_cases h0 : s.size = 0
  · have he : s.toList.isEmpty = true := by rw [ByteArray.toList_eq]; simp; exact ByteArray.size_eq_zero_iff.1 h0 ▸ rfl
    have Hf : Hid (nameB s = false) := Lib.hid (by simp [nameB, h0])
    clear h0
    go_enter Try.func120, Try.ntmps120
    go_wp2
    go_ret
    exact ⟨by simp [Hf.out], rfl⟩
  have he : s.toList.isEmpty = false := by
    rw [ByteArray.toList_eq, List.isEmpty_eq_false_iff]
    intro h
    have : s.data.toList.length = 0 := by rw [h]; rfl
    exact h0 (by simpa using this)
  have h0 : 1 ≤ s.size := by omega
  by_cases h8 : 8 < s.size
  · have Hf : Hid (nameB s = false) := Lib.hid (by simp [nameB]; omega)
    go_enter Try.func120, Try.ntmps120
    go_wp2
    go_ret
    exact ⟨by simp [Hf.out], rfl⟩
  · have h8' : s.size ≤ 8 := by omega
    clear h8
    go_enter Try.func120, Try.ntmps120
    go_wp2
    go_loop [2, 3] (fun n i => n = .bool false ∧ ∃ k : Nat, k ≤ s.size ∧ i = .int .i64 k ∧ Hid ((s.data.toList.take k).all nameC = true)) (fun _ i => s.size - (intOf i).toNat)
    case atStart => exact ⟨rfl, 0, Nat.zero_le _, rfl, Lib.hid rfl⟩
    case round =>
      obtain ⟨rfl, k, hk, rfl, Hall⟩ := hrel
      by_cases hlt : k < s.size
      · have fin0 : inR (s[k].toNat : Int) 97 122 = false → inR (s[k].toNat : Int) 48 57 = false → nameB s = false := fun h1 h2 => by
          have := all_stop s k hlt (p := nameC) (by simp [nameC, h1, h2])
          simp [nameB, this]
        have fin1 : (inR (s[k].toNat : Int) 97 122 = true ∨ inR (s[k].toNat : Int) 48 57 = true) → (s.data.toList.take (k + 1)).all nameC = true := fun h => all_step s k hlt Hall.out (by rcases h with h | h <;> simp [nameC, h])
        have Fin0 := Lib.hid fin0
        have Fin1 := Lib.hid fin1
        clear fin0 fin1
        rcases inR_cases (s[k].toNat : Int) 97 122 with ⟨a1, a2⟩ | ⟨a1, a2⟩ | ⟨a1, a1', a2⟩
        · rcases inR_cases (s[k].toNat : Int) 48 57 with ⟨b1, b2⟩ | ⟨b1, b2⟩ | ⟨b1, b1', b2⟩
          · have Hf := Lib.hid (Fin0.out a2 b2)
            clear a2 b2
            go_wp2
            go_ret
            exact ⟨by simp [Hf.out], rfl⟩
          · have Hf := Lib.hid (Fin0.out a2 b2)
            clear a2 b2
            go_wp2
            go_ret
            exact ⟨by simp [Hf.out], rfl⟩
          · have Hf := Lib.hid (Fin1.out (.inr b2))
            clear a2 b2
            go_wp2
            go_round
            case rel => exact ⟨rfl, k + 1, by omega, by go_num, Hf⟩
            case measure => simp [intOf]; omega
        · have b1 : 57 < (s[k].toNat : Int) := by omega
          have Hf := Lib.hid (Fin0.out a2 (by simp [inR]; omega))
          clear a2
          go_wp2
          go_ret
          exact ⟨by simp [Hf.out], rfl⟩
        · have Hf := Lib.hid (Fin1.out (.inl a2))
          clear a2
          go_wp2
          go_round
          case rel => exact ⟨rfl, k + 1, by omega, by go_num, Hf⟩
          case measure => simp [intOf]; omega
      · have Hf : Hid (nameB s = true) := Lib.hid (by simp [nameB, all_end s k hlt hk Hall.out]; omega)
        go_wp2
        go_ret
        exact ⟨by simp [Hf.out], rfl⟩

set_option maxHeartbeats 1000000 in
theorem validName_ok (s : ByteArray) (w : World) (hs : s.size ≤ big) :
    Calls Try.prog 118 #[.string s] w fun e w' => e = .returned (.bool (nameB s)) ∧ w = w' := by
  unfold big at hs
  go_enter Try.func118, Try.ntmps118
  go_wp2
  go_loop [2, 3] (fun n i => n = .bool false ∧ ∃ k : Nat, k ≤ s.size ∧ i = .int .i64 k ∧ Hid ((s.data.toList.take k).all nameC = true)) (fun _ i => s.size - (intOf i).toNat)
  case atStart => exact ⟨rfl, 0, Nat.zero_le _, rfl, Lib.hid rfl⟩
  case round =>
    obtain ⟨rfl, k, hk, rfl, Hall⟩ := hrel
    by_cases hlt : k < s.size
    · have hby := byte_lt s[k]
      cases a2 : inR (s[k].toNat : Int) 97 122
      · cases b2 : inR (s[k].toNat : Int) 48 57
        · have Hf : Hid (nameB s = false) := Lib.hid (by
            have := all_stop s k hlt (p := nameC) (by simp [nameC, a2, b2])
            simp [nameB, this])
          go_wp2_with (go_at_call 64; refine (inRange_ok _ _ _ _).mono ?_; rintro e w' ⟨rfl, rfl⟩)
          go_ret
          exact ⟨by simp [Hf.out], rfl⟩
        · have Hf := Lib.hid (all_step s k hlt Hall.out (p := nameC) (by simp [nameC, b2]))
          go_wp2_with (go_at_call 64; refine (inRange_ok _ _ _ _).mono ?_; rintro e w' ⟨rfl, rfl⟩)
          go_round
          case rel => exact ⟨rfl, k + 1, by omega, by go_num, Hf⟩
          case measure => simp [intOf]; omega
      · have Hf := Lib.hid (all_step s k hlt Hall.out (p := nameC) (by simp [nameC, a2]))
        go_wp2_with (go_at_call 64; refine (inRange_ok _ _ _ _).mono ?_; rintro e w' ⟨rfl, rfl⟩)
        go_round
        case rel => exact ⟨rfl, k + 1, by omega, by go_num, Hf⟩
        case measure => simp [intOf]; omega
    · have Hf : Hid (nameB s = inR s.size 1 8) := Lib.hid (by rw [Bool.eq_iff_iff]; simp [nameB, all_end s k hlt hk Hall.out, inR]; omega)
      go_wp2_with (go_at_call 64; refine (inRange_ok _ _ _ _).mono ?_; rintro e w' ⟨rfl, rfl⟩)
      go_ret
      exact ⟨by simp [Hf.out], rfl⟩

set_option maxHeartbeats 1000000 in
theorem validTag_ok (s : ByteArray) (w : World) (hs : s.size ≤ big) :
    Calls Try.prog 145 #[.string s] w fun e w' => e = .returned (.bool (tagB s)) ∧ w = w' := by
  unfold big at hs
  go_enter Try.func145, Try.ntmps145
  go_wp2
  go_loop [2, 3] (fun n i => n = .bool false ∧ ∃ k : Nat, k ≤ s.size ∧ i = .int .i64 k ∧ Hid ((s.data.toList.take k).all hexC = true)) (fun _ i => s.size - (intOf i).toNat)
  case atStart => exact ⟨rfl, 0, Nat.zero_le _, rfl, Lib.hid rfl⟩
  case round =>
    obtain ⟨rfl, k, hk, rfl, Hall⟩ := hrel
    by_cases hlt : k < s.size
    · have hby := byte_lt s[k]
      cases a2 : inR (s[k].toNat : Int) 48 57
      · cases b2 : inR (s[k].toNat : Int) 97 102
        · have Hf : Hid (tagB s = false) := Lib.hid (by
            have := all_stop s k hlt (p := hexC) (by simp [hexC, a2, b2])
            simp [tagB, this])
          go_wp2_with (go_at_call 64; refine (inRange_ok _ _ _ _).mono ?_; rintro e w' ⟨rfl, rfl⟩)
          go_ret
          exact ⟨by simp [Hf.out], rfl⟩
        · have Hf := Lib.hid (all_step s k hlt Hall.out (p := hexC) (by simp [hexC, b2]))
          go_wp2_with (go_at_call 64; refine (inRange_ok _ _ _ _).mono ?_; rintro e w' ⟨rfl, rfl⟩)
          go_round
          case rel => exact ⟨rfl, k + 1, by omega, by go_num, Hf⟩
          case measure => simp [intOf]; omega
      · have Hf := Lib.hid (all_step s k hlt Hall.out (p := hexC) (by simp [hexC, a2]))
        go_wp2_with (go_at_call 64; refine (inRange_ok _ _ _ _).mono ?_; rintro e w' ⟨rfl, rfl⟩)
        go_round
        case rel => exact ⟨rfl, k + 1, by omega, by go_num, Hf⟩
        case measure => simp [intOf]; omega
    · have Hf : Hid (tagB s = ((s.size : Int) == 4)) := Lib.hid (by rw [ibeq]; simp [tagB, all_end s k hlt hk Hall.out]; omega)
      go_wp2
      go_ret
      exact ⟨by simp [Hf.out], rfl⟩

def pathB (p : List ByteArray) : Bool := decide (p.length ≤ 5) && p.all plainT

theorem allD_step {α : Type} {p : α → Bool} (xs : List α) (k : Nat) (h : k < xs.length) : (xs.drop k).all p = (p xs[k] && (xs.drop (k + 1)).all p) := by
  rw [drop_cons xs k h, List.all_cons]
theorem allD_end {α : Type} {p : α → Bool} (xs : List α) (k : Nat) (h : ¬ k < xs.length) : (xs.drop k).all p = true := by
  rw [List.drop_eq_nil_of_le (by omega)]; rfl

set_option maxHeartbeats 400000 in
theorem isPath_ok (a : Option Addr) (c : Nat) (xs : List ByteArray) (w : World) (ha : StrsR w any a c xs) :
    Calls Try.prog 135 #[.slice a xs.length c] w fun e w' => e = .returned (.bool (pathB xs)) ∧ w = w' := by
  have hbig : xs.length ≤ 9223372036854775807 := ha.2.1
  have Ha := Lib.hid ha
  clear ha
  by_cases hl : 5 < xs.length
  · go_enter Try.func135, Try.ntmps135
    go_wp2
    go_ret
    exact ⟨by simp [pathB]; omega, rfl⟩
  · go_enter Try.func135, Try.ntmps135
    go_wp2
    go_loop [2, 4, 10] (fun n _ i => n = .bool false ∧ ∃ k : Nat, k ≤ xs.length ∧ i = .int .i64 k ∧ Hid (xs.all plainT = (xs.drop k).all plainT)) (fun _ _ i => xs.length - (intOf i).toNat)
    case atStart => exact ⟨rfl, 0, Nat.zero_le _, rfl, Lib.hid rfl⟩
    case round =>
      obtain ⟨rfl, k, hk, rfl, Hr⟩ := hrel
      by_cases hlt : k < xs.length
      · obtain ⟨_, _, hxs, ha4⟩ := Ha.out
        rcases ha4 with rfl | ⟨ba, oa, rfl, _, hca⟩
        · simp at hlt
        have hx := hca k hlt
        have hsz := hxs _ (List.getElem_mem hlt)
        have Hs := Lib.hid (allD_step (p := plainT) xs k hlt)
        clear hca Ha hxs
        cases hp : plainT xs[k]
        all_goals
          go_wp2_with (go_at_call 144; refine (isPlainText_ok _ _ hsz).mono ?_; rintro e w' ⟨rfl, rfl⟩)
        · go_ret
          exact ⟨by simp [pathB, Hr.out, Hs.out, hp], rfl⟩
        · go_round
          case rel => exact ⟨rfl, k + 1, by omega, by go_num, Lib.hid (by rw [Hr.out, Hs.out, hp, Bool.true_and])⟩
          case measure => simp [intOf]; omega
      · have Hs := Lib.hid (allD_end (p := plainT) xs k hlt)
        go_wp2
        go_ret
        exact ⟨by simp [pathB, Hr.out, Hs.out]; omega, rfl⟩

set_option maxHeartbeats 400000 in
theorem validPath_ok (a : Option Addr) (c : Nat) (xs : List ByteArray) (w : World) (ha : StrsR w any a c xs) :
    Calls Try.prog 130 #[.slice a xs.length c] w fun e w' => e = .returned (.bool (pathB xs)) ∧ w = w' := by
  have hbig : xs.length ≤ 9223372036854775807 := ha.2.1
  have Ha := Lib.hid ha
  clear ha
  go_enter Try.func130, Try.ntmps130
  go_wp2
  go_loop [2, 3] (fun n i => n = .bool false ∧ ∃ k : Nat, k ≤ xs.length ∧ i = .int .i64 k ∧ Hid (xs.all plainT = (xs.drop k).all plainT)) (fun _ i => xs.length - (intOf i).toNat)
  case atStart => exact ⟨rfl, 0, Nat.zero_le _, rfl, Lib.hid rfl⟩
  case round =>
    obtain ⟨rfl, k, hk, rfl, Hr⟩ := hrel
    by_cases hlt : k < xs.length
    · obtain ⟨_, _, hxs, ha4⟩ := Ha.out
      rcases ha4 with rfl | ⟨ba, oa, rfl, _, hca⟩
      · simp at hlt
      have hx := hca k hlt
      have hsz := hxs _ (List.getElem_mem hlt)
      have Hs := Lib.hid (allD_step (p := plainT) xs k hlt)
      clear hca Ha hxs
      cases hp : plainT xs[k]
      all_goals
        go_wp2_with (go_at_call 141; refine (validText_ok _ _ hsz).mono ?_; rintro e w' ⟨rfl, rfl⟩)
      · go_ret
        exact ⟨by simp [pathB, Hr.out, Hs.out, hp], rfl⟩
      · go_round
        case rel => exact ⟨rfl, k + 1, by omega, by go_num, Lib.hid (by rw [Hr.out, Hs.out, hp, Bool.true_and])⟩
        case measure => simp [intOf]; omega
    · have Hs := Lib.hid (allD_end (p := plainT) xs k hlt)
      go_wp2
      go_ret
      exact ⟨by simp [pathB, Hr.out, Hs.out]; omega, rfl⟩

theorem run_IndexByteString (s : ByteArray) (c : Int) (w : World) :
    (callFunc 167 #[.string s, .int .u8 c]).run Try.prog w = .ok (.value (.int .i64 (Lib.indexByte s.data.toList c.toNat.toUInt8))) w := by
  rw [run_callFunc_extern (P := Try.prog) (f := 167) (fn := Try.f167) (e := Extern.BytealgIndexByte.indexByte) (by kernel_rfl) (by kernel_rfl) (by kernel_rfl) (by kernel_rfl) (by kernel_rfl)]
  rw [Lib.run_indexByteString]
  rfl

theorem IndexByte_ok (s : ByteArray) (c : Int) (w : World) :
    Calls Try.prog 160 #[.string s, .int .u8 c] w fun e w' => e = .returned (.int .i64 (Lib.indexByte s.data.toList c.toNat.toUInt8)) ∧ w = w' := by
  have hx := run_IndexByteString s c
  go_enter Try.func160, Try.ntmps160
  go_wp2
  go_ret
  exact ⟨by simp, rfl⟩

def hexL : List UInt8 := [48, 49, 50, 51, 52, 53, 54, 55, 56, 57, 97, 98, 99, 100, 101, 102]
theorem hexL_nat : ∀ n, n < 256 → decide (Lib.indexByte hexL (UInt8.ofNat n) < 0) = !hexC (UInt8.ofNat n) := by decide +kernel
theorem hexL_idx (c : UInt8) : decide (Lib.indexByte hexL c < 0) = !hexC c := by
  have h := hexL_nat c.toNat c.toNat_lt
  rwa [UInt8.ofNat_toNat] at h

theorem IndexHex_ok (c : UInt8) (w : World) :
    Calls Try.prog 160 #[.string ⟨#[48, 49, 50, 51, 52, 53, 54, 55, 56, 57, 97, 98, 99, 100, 101, 102]⟩, .int .u8 (c.toNat : Int)] w fun e w' => ∃ z, e = .returned (.int .i64 z) ∧ ((hexC c = true → 0 ≤ z) ∧ (hexC c = false → z < 0)) ∧ w = w' := by
  refine (IndexByte_ok _ _ w).mono ?_
  rintro e w' ⟨rfl, hw⟩
  have ec : ((c.toNat : Int)).toNat.toUInt8 = c := by simp
  rw [ec]
  have h := hexL_idx c
  refine ⟨_, rfl, ⟨fun h1 => ?_, fun h1 => ?_⟩, hw⟩
  · rw [h1] at h
    have := of_decide_eq_false h
    exact Int.not_lt.1 this
  · rw [h1] at h
    exact of_decide_eq_true h

set_option maxHeartbeats 1000000 in
theorem isSum_ok (s : ByteArray) (w : World) (hs : s.size ≤ big) :
    Calls Try.prog 146 #[.string s] w fun e w' => e = .returned (.bool (tagB s)) ∧ w = w' := by
  unfold big at hs
  by_cases h4 : s.size = 4
  rotate_left
  · have hb4 : ((s.size : Int) != 4) = true := by rw [ibne]; simp; omega
    have Hf : Hid (tagB s = false) := Lib.hid (by simp [tagB, h4])
    clear h4
    go_enter Try.func146, Try.ntmps146
    go_wp2
    go_ret
    exact ⟨by simp [Hf.out], rfl⟩
  have hb4 : ((s.size : Int) != 4) = false := by simp [h4]
  have H4 := Lib.hid h4
  clear h4
  go_enter Try.func146, Try.ntmps146
  go_wp2
  go_loop [2, 3] (fun n i => n = .bool false ∧ ∃ k : Nat, k ≤ s.size ∧ i = .int .i64 k ∧ Hid ((s.data.toList.take k).all hexC = true)) (fun _ i => s.size - (intOf i).toNat)
  case atStart => exact ⟨rfl, 0, Nat.zero_le _, rfl, Lib.hid rfl⟩
  case round =>
    obtain ⟨rfl, k, hk, rfl, Hall⟩ := hrel
    by_cases hlt : k < s.size
    · have Hk : Hid (0 ≤ (s[k].toNat : Int)) := Lib.hid (by omega)
      cases hc : hexC s[k]
      · have Hf : Hid (tagB s = false) := Lib.hid (by
          have := all_stop s k hlt hc
          simp [tagB, this])
        have Hc := Lib.hid hc
        clear hc
        go_wp2_with (go_at_call 160; refine (IndexHex_ok _ _).mono ?_; rintro e w' ⟨z, rfl, hz, rfl⟩; have hz' : z < 0 := hz.2 Hc.out; clear hz)
        go_ret
        exact ⟨by simp [Hf.out], rfl⟩
      · have Hf := Lib.hid (all_step s k hlt Hall.out hc)
        have Hc := Lib.hid hc
        clear hc
        go_wp2_with (go_at_call 160; refine (IndexHex_ok _ _).mono ?_; rintro e w' ⟨z, rfl, hz, rfl⟩; have hz' : 0 ≤ z := hz.1 Hc.out; clear hz)
        go_round
        case rel => exact ⟨rfl, k + 1, by omega, by go_num, Hf⟩
        case measure => simp [intOf]; omega
    · have Hf : Hid (tagB s = true) := Lib.hid (by simp [tagB, all_end s k hlt hk Hall.out, H4.out])
      go_wp2
      go_ret
      exact ⟨by simp [Hf.out], rfl⟩

end Go.Proofs.Ytchiakeceiefdaa

/-
  The walks of what makes lists of tags, operations and requests valid.
-/
namespace Go.Proofs.Ytchiakeceiefdaa
open Go.RowKit

def star : ByteArray := { data := #[42] }
def tagsB1 (s : ByteArray) : Bool := (s.toList == star.toList) || tagB s
def tagsB (l : List ByteArray) : Bool := decide (l.length ≤ 4) && l.all tagsB1

theorem star_cases (s : ByteArray) : (s.toList = [42] ∧ tagsB1 s = true) ∨ (¬ s.toList = [42] ∧ tagB s = true ∧ tagsB1 s = true) ∨
    (¬ s.toList = [42] ∧ tagB s = false ∧ tagsB1 s = false) := by
  have hs : star.toList = [42] := by rw [ByteArray.toList_eq]; rfl
  unfold tagsB1
  rw [hs]
  by_cases h : s.toList = [42] <;> cases h2 : tagB s <;> simp [h]

set_option maxHeartbeats 400000 in
theorem areTags_ok (a : Option Addr) (c : Nat) (xs : List ByteArray) (w : World) (ha : StrsR w any a c xs) :
    Calls Try.prog 124 #[.slice a xs.length c] w fun e w' => e = .returned (.bool (tagsB xs)) ∧ w = w' := by
  have hbig : xs.length ≤ 9223372036854775807 := ha.2.1
  have Ha := Lib.hid ha
  clear ha
  by_cases hl : 4 < xs.length
  · go_enter Try.func124, Try.ntmps124
    go_wp2
    go_ret
    exact ⟨by simp [tagsB]; omega, rfl⟩
  · go_enter Try.func124, Try.ntmps124
    go_wp2
    go_loop [2, 4, 10] (fun n _ i => n = .bool false ∧ ∃ k : Nat, k ≤ xs.length ∧ i = .int .i64 k ∧ Hid (xs.all tagsB1 = (xs.drop k).all tagsB1)) (fun _ _ i => xs.length - (intOf i).toNat)
    case atStart => exact ⟨rfl, 0, Nat.zero_le _, rfl, Lib.hid rfl⟩
    case round =>
      obtain ⟨rfl, k, hk, rfl, Hr⟩ := hrel
      by_cases hlt : k < xs.length
      · obtain ⟨_, _, hxs, ha4⟩ := Ha.out
        rcases ha4 with rfl | ⟨ba, oa, rfl, _, hca⟩
        · simp at hlt
        have hx := hca k hlt
        have hsz := hxs _ (List.getElem_mem hlt)
        have Hs := Lib.hid (allD_step (p := tagsB1) xs k hlt)
        clear hca Ha hxs
        rcases star_cases xs[k] with ⟨hb, hp⟩ | ⟨hb, ht, hp⟩ | ⟨hb, ht, hp⟩
        · have Hp := Lib.hid hp
          clear hp
          have hb2 : (!xs[k].toList == [42]) = false := by simp [hb]
          go_wp2
          go_round
          case rel => exact ⟨rfl, k + 1, by omega, by go_num, Lib.hid (by rw [Hr.out, Hs.out, Hp.out, Bool.true_and])⟩
          case measure => simp [intOf]; omega
        · have Hp := Lib.hid hp
          clear hp
          have hb2 : (!xs[k].toList == [42]) = true := by simp [hb]
          go_wp2_with (go_at_call 146; refine (isSum_ok _ _ hsz).mono ?_; rintro e w' ⟨rfl, rfl⟩)
          go_round
          case rel => exact ⟨rfl, k + 1, by omega, by go_num, Lib.hid (by rw [Hr.out, Hs.out, Hp.out, Bool.true_and])⟩
          case measure => simp [intOf]; omega
        · have Hp := Lib.hid hp
          clear hp
          have hb2 : (!xs[k].toList == [42]) = true := by simp [hb]
          go_wp2_with (go_at_call 146; refine (isSum_ok _ _ hsz).mono ?_; rintro e w' ⟨rfl, rfl⟩)
          go_ret
          exact ⟨by simp [tagsB, Hr.out, Hs.out, Hp.out], rfl⟩
      · have Hs := Lib.hid (allD_end (p := tagsB1) xs k hlt)
        go_wp2
        go_ret
        exact ⟨by simp [tagsB, Hr.out, Hs.out]; omega, rfl⟩

set_option maxHeartbeats 400000 in
theorem validTags_ok (a : Option Addr) (c : Nat) (xs : List ByteArray) (w : World) (ha : StrsR w any a c xs) :
    Calls Try.prog 122 #[.slice a xs.length c] w fun e w' => e = .returned (.bool (tagsB xs)) ∧ w = w' := by
  have hbig : xs.length ≤ 9223372036854775807 := ha.2.1
  have Ha := Lib.hid ha
  clear ha
  go_enter Try.func122, Try.ntmps122
  go_wp2
  go_loop [2, 3] (fun n i => n = .bool false ∧ ∃ k : Nat, k ≤ xs.length ∧ i = .int .i64 k ∧ Hid (xs.all tagsB1 = (xs.drop k).all tagsB1)) (fun _ i => xs.length - (intOf i).toNat)
  case atStart => exact ⟨rfl, 0, Nat.zero_le _, rfl, Lib.hid rfl⟩
  case round =>
    obtain ⟨rfl, k, hk, rfl, Hr⟩ := hrel
    by_cases hlt : k < xs.length
    · obtain ⟨_, _, hxs, ha4⟩ := Ha.out
      rcases ha4 with rfl | ⟨ba, oa, rfl, _, hca⟩
      · simp at hlt
      have hx := hca k hlt
      have hsz := hxs _ (List.getElem_mem hlt)
      have Hs := Lib.hid (allD_step (p := tagsB1) xs k hlt)
      clear hca Ha hxs
      rcases star_cases xs[k] with ⟨hb, hp⟩ | ⟨hb, ht, hp⟩ | ⟨hb, ht, hp⟩
      · have Hp := Lib.hid hp
        clear hp
        have hb2 : (!xs[k].toList == [42]) = false := by simp [hb]
        go_wp2
        go_round
        case rel => exact ⟨rfl, k + 1, by omega, by go_num, Lib.hid (by rw [Hr.out, Hs.out, Hp.out, Bool.true_and])⟩
        case measure => simp [intOf]; omega
      · have Hp := Lib.hid hp
        clear hp
        have hb2 : (!xs[k].toList == [42]) = true := by simp [hb]
        go_wp2_with (go_at_call 145; refine (validTag_ok _ _ hsz).mono ?_; rintro e w' ⟨rfl, rfl⟩)
        go_round
        case rel => exact ⟨rfl, k + 1, by omega, by go_num, Lib.hid (by rw [Hr.out, Hs.out, Hp.out, Bool.true_and])⟩
        case measure => simp [intOf]; omega
      · have Hp := Lib.hid hp
        clear hp
        have hb2 : (!xs[k].toList == [42]) = true := by simp [hb]
        go_wp2_with (go_at_call 145; refine (validTag_ok _ _ hsz).mono ?_; rintro e w' ⟨rfl, rfl⟩)
        go_ret
        exact ⟨by simp [tagsB, Hr.out, Hs.out, Hp.out], rfl⟩
    · have Hs := Lib.hid (allD_end (p := tagsB1) xs k hlt)
      go_wp2
      go_ret
      exact ⟨by simp [tagsB, Hr.out, Hs.out]; omega, rfl⟩

end Go.Proofs.Ytchiakeceiefdaa

/-
  Operations and requests, and the walks of what makes them valid.
-/
namespace Go.Proofs.Ytchiakeceiefdaa
open Go.RowKit

/-- An operation, told by itself. -/
structure Opn where
  kind : Int
  path : List ByteArray
  frm : List ByteArray
  val : Nd

def opV (o : Opn) (pa : Option Addr) (pc : Nat) (fa : Option Addr) (fc : Nat) (na : Option Addr) (nc : Nat) (ka : Option Addr) (kc : Nat) : Value :=
  .agg #[.int .i64 o.kind, .slice pa o.path.length pc, .slice fa o.frm.length fc, .int .i64 o.val.kind, .int .i64 o.val.num, .string o.val.text, .slice na o.val.names.length nc, .slice ka o.val.kids.length kc]
def OpC (w : World) (S : Nat → Prop) (o : Opn) (pa : Option Addr) (pc : Nat) (fa : Option Addr) (fc : Nat) (na : Option Addr) (nc : Nat) (ka : Option Addr) (kc : Nat) : Prop :=
  StrsR w S pa pc o.path ∧ StrsR w S fa fc o.frm ∧ NodeC w S o.val na nc ka kc
def OpR (w : World) (S : Nat → Prop) (o : Opn) (v : Value) : Prop := ∃ pa pc fa fc na nc ka kc, v = opV o pa pc fa fc na nc ka kc ∧ OpC w S o pa pc fa fc na nc ka kc

/-- A slice of operations. -/
def OpsR (w : World) (S : Nat → Prop) (a : Option Addr) (c : Nat) (l : List Opn) : Prop :=
  l.length ≤ c ∧ l.length ≤ big ∧ (l = [] ∨ ∃ b o, a = some ⟨b, o, none⟩ ∧ S b ∧ ∀ i (h : i < l.length), ∃ pa pc fa fc na nc ka kc,
    w.cell? ⟨b, o + i * 8, none⟩ = some (.int .i64 l[i].kind) ∧ w.cell? ⟨b, o + i * 8 + 1, none⟩ = some (.slice pa l[i].path.length pc) ∧ w.cell? ⟨b, o + i * 8 + 2, none⟩ = some (.slice fa l[i].frm.length fc) ∧
    w.cell? ⟨b, o + i * 8 + 3, none⟩ = some (.int .i64 l[i].val.kind) ∧ w.cell? ⟨b, o + i * 8 + 4, none⟩ = some (.int .i64 l[i].val.num) ∧ w.cell? ⟨b, o + i * 8 + 5, none⟩ = some (.string l[i].val.text) ∧
    w.cell? ⟨b, o + i * 8 + 6, none⟩ = some (.slice na l[i].val.names.length nc) ∧ w.cell? ⟨b, o + i * 8 + 7, none⟩ = some (.slice ka l[i].val.kids.length kc) ∧ OpC w S l[i] pa pc fa fc na nc ka kc)

theorem OpC.ext {X S : Nat → Prop} {w w' : World} (h : Ext X w w') (hS : ∀ k, S k → ¬ X k) {o : Opn} {pa : Option Addr} {pc : Nat} {fa : Option Addr} {fc : Nat} {na : Option Addr} {nc : Nat} {ka : Option Addr} {kc : Nat}
    (hs : OpC w S o pa pc fa fc na nc ka kc) : OpC w' S o pa pc fa fc na nc ka kc := ⟨hs.1.ext h hS, hs.2.1.ext h hS, hs.2.2.ext h hS⟩
theorem OpC.grow {S : Nat → Prop} {w w' : World} {o : Opn} {pa : Option Addr} {pc : Nat} {fa : Option Addr} {fc : Nat} {na : Option Addr} {nc : Nat} {ka : Option Addr} {kc : Nat}
    (hs : OpC w S o pa pc fa fc na nc ka kc) (h : Grow w w') : OpC w' S o pa pc fa fc na nc ka kc := hs.ext h (fun _ _ h => h)
theorem OpR.ext {X S : Nat → Prop} {w w' : World} (h : Ext X w w') (hS : ∀ k, S k → ¬ X k) {o : Opn} {v : Value} (hs : OpR w S o v) : OpR w' S o v := by
  obtain ⟨pa, pc, fa, fc, na, nc, ka, kc, hv, hc⟩ := hs
  exact ⟨pa, pc, fa, fc, na, nc, ka, kc, hv, hc.ext h hS⟩
theorem OpR.grow {S : Nat → Prop} {w w' : World} {o : Opn} {v : Value} (hs : OpR w S o v) (h : Grow w w') : OpR w' S o v := hs.ext h (fun _ _ h => h)
theorem OpsR.ext {X S : Nat → Prop} {w w' : World} (h : Ext X w w') (hS : ∀ k, S k → ¬ X k) {a : Option Addr} {c : Nat} {l : List Opn} (hs : OpsR w S a c l) : OpsR w' S a c l := by
  obtain ⟨h1, h2, h4⟩ := hs
  refine ⟨h1, h2, h4.imp id ?_⟩
  rintro ⟨b, o, rfl, hb, hc⟩
  refine ⟨b, o, rfl, hb, fun i hi => ?_⟩
  obtain ⟨pa, pc, fa, fc, na, nc, ka, kc, g0, g1, g2, g3, g4, g5, g6, g7, g⟩ := hc i hi
  exact ⟨pa, pc, fa, fc, na, nc, ka, kc, h.some g0 (hS b hb), h.some g1 (hS b hb), h.some g2 (hS b hb), h.some g3 (hS b hb), h.some g4 (hS b hb), h.some g5 (hS b hb), h.some g6 (hS b hb), h.some g7 (hS b hb), g.ext h hS⟩
theorem OpsR.grow {S : Nat → Prop} {w w' : World} {a : Option Addr} {c : Nat} {l : List Opn} (hs : OpsR w S a c l) (h : Grow w w') : OpsR w' S a c l := hs.ext h (fun _ _ h => h)

def opB (o : Opn) : Bool := inR o.kind 1 6 && pathB o.path && pathB o.frm && validB o.val
def opsB (l : List Opn) : Bool := decide (l.length ≤ 12) && l.all opB

set_option maxHeartbeats 1000000 in
theorem isOp_ok (o : Opn) (v : Value) (w : World) (hn : OpR w any o v) :
    Calls Try.prog 98 #[v] w fun e w' => e = .returned (.bool (opB o)) ∧ Grow w w' := by
  obtain ⟨pa, pc, fa, fc, na, nc, ka, kc, rfl, hp, hf, hc⟩ := hn
  have Hp := Lib.hid (hp.grow (w' := w.alloc (.cells #[.int .i64 o.kind, .slice pa o.path.length pc, .slice fa o.frm.length fc, .int .i64 o.val.kind, .int .i64 o.val.num, .string o.val.text, .slice na o.val.names.length nc, .slice ka o.val.kids.length kc] 93)) (by repeat (first | with_reducible exact Ext.refl _ _ | with_reducible refine Ext.trans ?_ (by assumption) | with_reducible refine Ext.drew ?_ | with_reducible refine Ext.drewN ?_ _ | with_reducible refine Ext.alloc ?_ _ | with_reducible refine Ext.setNew ?_ (by simp; done) _ | with_reducible refine Ext.setNew ?_ (by simp; omega) _)))
  have Hf := Lib.hid (hf.grow (w' := w.alloc (.cells #[.int .i64 o.kind, .slice pa o.path.length pc, .slice fa o.frm.length fc, .int .i64 o.val.kind, .int .i64 o.val.num, .string o.val.text, .slice na o.val.names.length nc, .slice ka o.val.kids.length kc] 93)) (by repeat (first | with_reducible exact Ext.refl _ _ | with_reducible refine Ext.trans ?_ (by assumption) | with_reducible refine Ext.drew ?_ | with_reducible refine Ext.drewN ?_ _ | with_reducible refine Ext.alloc ?_ _ | with_reducible refine Ext.setNew ?_ (by simp; done) _ | with_reducible refine Ext.setNew ?_ (by simp; omega) _)))
  have Hv := Lib.hid (NodeR.grow (S := any) (w := w) (n := o.val) (v := nodeV o.val na nc ka kc) ⟨na, nc, ka, kc, rfl, hc⟩ (w' := w.alloc (.cells #[.int .i64 o.kind, .slice pa o.path.length pc, .slice fa o.frm.length fc, .int .i64 o.val.kind, .int .i64 o.val.num, .string o.val.text, .slice na o.val.names.length nc, .slice ka o.val.kids.length kc] 93)) (by repeat (first | with_reducible exact Ext.refl _ _ | with_reducible refine Ext.trans ?_ (by assumption) | with_reducible refine Ext.drew ?_ | with_reducible refine Ext.drewN ?_ _ | with_reducible refine Ext.alloc ?_ _ | with_reducible refine Ext.setNew ?_ (by simp; done) _ | with_reducible refine Ext.setNew ?_ (by simp; omega) _)))
  clear hp hf hc
  unfold opV nodeV at *
  rcases inR_cases o.kind 1 6 with ⟨h1, hi⟩ | ⟨h1, hi⟩ | ⟨h1, h2, hi⟩
  · have Hi := Lib.hid hi
    clear hi
    go_enter Try.func98, Try.ntmps98
    go_wp2
    go_ret
    exact ⟨by simp [opB, Hi.out], (by repeat (first | with_reducible exact Ext.refl _ _ | with_reducible refine Ext.trans ?_ (by assumption) | with_reducible refine Ext.drew ?_ | with_reducible refine Ext.drewN ?_ _ | with_reducible refine Ext.alloc ?_ _ | with_reducible refine Ext.setNew ?_ (by simp; done) _ | with_reducible refine Ext.setNew ?_ (by simp; omega) _))⟩
  · have Hi := Lib.hid hi
    clear hi
    go_enter Try.func98, Try.ntmps98
    go_wp2
    go_ret
    exact ⟨by simp [opB, Hi.out], (by repeat (first | with_reducible exact Ext.refl _ _ | with_reducible refine Ext.trans ?_ (by assumption) | with_reducible refine Ext.drew ?_ | with_reducible refine Ext.drewN ?_ _ | with_reducible refine Ext.alloc ?_ _ | with_reducible refine Ext.setNew ?_ (by simp; done) _ | with_reducible refine Ext.setNew ?_ (by simp; omega) _))⟩
  have Hi := Lib.hid hi
  clear hi
  cases hp : pathB o.path
  · go_enter Try.func98, Try.ntmps98
    go_wp2_with (go_at_call 135; with_reducible refine (isPath_ok pa pc o.path _ Hp.out).mono ?_; rintro e w' ⟨rfl, rfl⟩; simp only [hp])
    go_ret
    exact ⟨by simp [opB, hp], (by repeat (first | with_reducible exact Ext.refl _ _ | with_reducible refine Ext.trans ?_ (by assumption) | with_reducible refine Ext.drew ?_ | with_reducible refine Ext.drewN ?_ _ | with_reducible refine Ext.alloc ?_ _ | with_reducible refine Ext.setNew ?_ (by simp; done) _ | with_reducible refine Ext.setNew ?_ (by simp; omega) _))⟩
  cases hf : pathB o.frm
  · go_enter Try.func98, Try.ntmps98
    go_wp2_with (go_at_call 135; first | (with_reducible refine (isPath_ok pa pc o.path _ Hp.out).mono ?_; rintro e w' ⟨rfl, rfl⟩; simp only [hp]) | (with_reducible refine (isPath_ok fa fc o.frm _ Hf.out).mono ?_; rintro e w' ⟨rfl, rfl⟩; simp only [hf]))
    go_ret
    exact ⟨by simp [opB, hf], (by repeat (first | with_reducible exact Ext.refl _ _ | with_reducible refine Ext.trans ?_ (by assumption) | with_reducible refine Ext.drew ?_ | with_reducible refine Ext.drewN ?_ _ | with_reducible refine Ext.alloc ?_ _ | with_reducible refine Ext.setNew ?_ (by simp; done) _ | with_reducible refine Ext.setNew ?_ (by simp; omega) _))⟩
  go_enter Try.func98, Try.ntmps98
  go_wp2_with (first | (go_at_call 135; first | (with_reducible refine (isPath_ok pa pc o.path _ Hp.out).mono ?_; rintro e w' ⟨rfl, rfl⟩; simp only [hp]) | (with_reducible refine (isPath_ok fa fc o.frm _ Hf.out).mono ?_; rintro e w' ⟨rfl, rfl⟩; simp only [hf])) | (go_at_call 14; refine (ValidNode_ok o.val _ _ Hv.out).mono ?_; rintro e w2 ⟨rfl, hg2⟩))
  go_ret
  exact ⟨by simp [opB, Hi.out, hp, hf], (by repeat (first | with_reducible exact Ext.refl _ _ | with_reducible refine Ext.trans ?_ (by assumption) | with_reducible refine Ext.drew ?_ | with_reducible refine Ext.drewN ?_ _ | with_reducible refine Ext.alloc ?_ _ | with_reducible refine Ext.setNew ?_ (by simp; done) _ | with_reducible refine Ext.setNew ?_ (by simp; omega) _))⟩

set_option maxHeartbeats 1000000 in
theorem validOp_ok (o : Opn) (v : Value) (w : World) (hn : OpR w any o v) :
    Calls Try.prog 95 #[v] w fun e w' => e = .returned (.bool (opB o)) ∧ Grow w w' := by
  obtain ⟨pa, pc, fa, fc, na, nc, ka, kc, rfl, hp, hf, hc⟩ := hn
  have Hp := Lib.hid (hp.grow (w' := w.alloc (.cells #[.int .i64 o.kind, .slice pa o.path.length pc, .slice fa o.frm.length fc, .int .i64 o.val.kind, .int .i64 o.val.num, .string o.val.text, .slice na o.val.names.length nc, .slice ka o.val.kids.length kc] 93)) (by repeat (first | with_reducible exact Ext.refl _ _ | with_reducible refine Ext.trans ?_ (by assumption) | with_reducible refine Ext.drew ?_ | with_reducible refine Ext.drewN ?_ _ | with_reducible refine Ext.alloc ?_ _ | with_reducible refine Ext.setNew ?_ (by simp; done) _ | with_reducible refine Ext.setNew ?_ (by simp; omega) _)))
  have Hf := Lib.hid (hf.grow (w' := w.alloc (.cells #[.int .i64 o.kind, .slice pa o.path.length pc, .slice fa o.frm.length fc, .int .i64 o.val.kind, .int .i64 o.val.num, .string o.val.text, .slice na o.val.names.length nc, .slice ka o.val.kids.length kc] 93)) (by repeat (first | with_reducible exact Ext.refl _ _ | with_reducible refine Ext.trans ?_ (by assumption) | with_reducible refine Ext.drew ?_ | with_reducible refine Ext.drewN ?_ _ | with_reducible refine Ext.alloc ?_ _ | with_reducible refine Ext.setNew ?_ (by simp; done) _ | with_reducible refine Ext.setNew ?_ (by simp; omega) _)))
  have Hv := Lib.hid (NodeR.grow (S := any) (w := w) (n := o.val) (v := nodeV o.val na nc ka kc) ⟨na, nc, ka, kc, rfl, hc⟩ (w' := w.alloc (.cells #[.int .i64 o.kind, .slice pa o.path.length pc, .slice fa o.frm.length fc, .int .i64 o.val.kind, .int .i64 o.val.num, .string o.val.text, .slice na o.val.names.length nc, .slice ka o.val.kids.length kc] 93)) (by repeat (first | with_reducible exact Ext.refl _ _ | with_reducible refine Ext.trans ?_ (by assumption) | with_reducible refine Ext.drew ?_ | with_reducible refine Ext.drewN ?_ _ | with_reducible refine Ext.alloc ?_ _ | with_reducible refine Ext.setNew ?_ (by simp; done) _ | with_reducible refine Ext.setNew ?_ (by simp; omega) _)))
  clear hp hf hc
  unfold opV nodeV at *
  cases hi : inR o.kind 1 6
  · go_enter Try.func95, Try.ntmps95
    go_wp2_with (go_at_call 64; refine (inRange_ok _ _ _ _).mono ?_; rintro e w' ⟨rfl, rfl⟩; simp only [hi])
    go_ret
    exact ⟨by simp [opB, hi], (by repeat (first | with_reducible exact Ext.refl _ _ | with_reducible refine Ext.trans ?_ (by assumption) | with_reducible refine Ext.drew ?_ | with_reducible refine Ext.drewN ?_ _ | with_reducible refine Ext.alloc ?_ _ | with_reducible refine Ext.setNew ?_ (by simp; done) _ | with_reducible refine Ext.setNew ?_ (by simp; omega) _))⟩
  cases hp : pathB o.path
  · go_enter Try.func95, Try.ntmps95
    go_wp2_with (first | (go_at_call 64; refine (inRange_ok _ _ _ _).mono ?_; rintro e w' ⟨rfl, rfl⟩; simp only [hi]) | (go_at_call 130; with_reducible refine (validPath_ok pa pc o.path _ Hp.out).mono ?_; rintro e w' ⟨rfl, rfl⟩; simp only [hp]))
    go_ret
    exact ⟨by simp [opB, hp], (by repeat (first | with_reducible exact Ext.refl _ _ | with_reducible refine Ext.trans ?_ (by assumption) | with_reducible refine Ext.drew ?_ | with_reducible refine Ext.drewN ?_ _ | with_reducible refine Ext.alloc ?_ _ | with_reducible refine Ext.setNew ?_ (by simp; done) _ | with_reducible refine Ext.setNew ?_ (by simp; omega) _))⟩
  cases hf : pathB o.frm
  · go_enter Try.func95, Try.ntmps95
    go_wp2_with (first | (go_at_call 64; refine (inRange_ok _ _ _ _).mono ?_; rintro e w' ⟨rfl, rfl⟩; simp only [hi]) | (go_at_call 130; first | (with_reducible refine (validPath_ok pa pc o.path _ Hp.out).mono ?_; rintro e w' ⟨rfl, rfl⟩; simp only [hp]) | (with_reducible refine (validPath_ok fa fc o.frm _ Hf.out).mono ?_; rintro e w' ⟨rfl, rfl⟩; simp only [hf])))
    go_ret
    exact ⟨by simp [opB, hf], (by repeat (first | with_reducible exact Ext.refl _ _ | with_reducible refine Ext.trans ?_ (by assumption) | with_reducible refine Ext.drew ?_ | with_reducible refine Ext.drewN ?_ _ | with_reducible refine Ext.alloc ?_ _ | with_reducible refine Ext.setNew ?_ (by simp; done) _ | with_reducible refine Ext.setNew ?_ (by simp; omega) _))⟩
  go_enter Try.func95, Try.ntmps95
  go_wp2_with (first | (go_at_call 64; refine (inRange_ok _ _ _ _).mono ?_; rintro e w' ⟨rfl, rfl⟩; simp only [hi]) | (go_at_call 130; first | (with_reducible refine (validPath_ok pa pc o.path _ Hp.out).mono ?_; rintro e w' ⟨rfl, rfl⟩; simp only [hp]) | (with_reducible refine (validPath_ok fa fc o.frm _ Hf.out).mono ?_; rintro e w' ⟨rfl, rfl⟩; simp only [hf])) | (go_at_call 58; refine (validNode_ok o.val _ _ Hv.out).mono ?_; rintro e w2 ⟨rfl, hg2⟩))
  go_ret
  exact ⟨by simp [opB, hi, hp, hf], (by repeat (first | with_reducible exact Ext.refl _ _ | with_reducible refine Ext.trans ?_ (by assumption) | with_reducible refine Ext.drew ?_ | with_reducible refine Ext.drewN ?_ _ | with_reducible refine Ext.alloc ?_ _ | with_reducible refine Ext.setNew ?_ (by simp; done) _ | with_reducible refine Ext.setNew ?_ (by simp; omega) _))⟩

end Go.Proofs.Ytchiakeceiefdaa

/-
  Requests, and the walks of what makes patches and requests valid.
-/
namespace Go.Proofs.Ytchiakeceiefdaa
open Go.RowKit

set_option maxHeartbeats 1000000 in
theorem arePatchOps_ok (a : Option Addr) (c : Nat) (l : List Opn) (w : World) (ha : OpsR w any a c l) :
    Calls Try.prog 125 #[.slice a l.length c] w fun e w' => e = .returned (.bool (opsB l)) ∧ Grow w w' := by
  have hbig : l.length ≤ 9223372036854775807 := ha.2.1
  have Hn := Lib.hid ha
  clear ha
  by_cases hl : 12 < l.length
  · go_enter Try.func125, Try.ntmps125
    go_wp2
    go_ret
    exact ⟨by simp [opsB]; omega, Ext.refl _ _⟩
  · go_enter Try.func125, Try.ntmps125
    go_wp2
    go_loopw [2, 4, 10] (fun n _ i wr => n = .bool false ∧ Grow w wr ∧ ∃ k : Nat, k ≤ l.length ∧ i = .int .i64 k ∧ Hid (l.all opB = (l.drop k).all opB)) (fun _ _ i _ => l.length - (intOf i).toNat)
    case atStart => exact ⟨rfl, Ext.refl _ _, 0, Nat.zero_le _, rfl, Lib.hid rfl⟩
    case round =>
      obtain ⟨rfl, hg, k, hk, rfl, Hr⟩ := hrel
      by_cases hlt : k < l.length
      · obtain ⟨_, _, hks⟩ := (Hn.out).ext hg (fun _ _ h => h)
        rcases hks with hks | ⟨bk, ok, rfl, _, hkr⟩
        · simp [hks] at hlt
        obtain ⟨pa, pc, fa, fc, na, nc, ka, kc, c0, c1, c2, c3, c4, c5, c6, c7, hkc⟩ := hkr k hlt
        have Hkc := Lib.hid (OpR.grow (S := any) (w := wr) (o := l[k]) (v := opV l[k] pa pc fa fc na nc ka kc) ⟨pa, pc, fa, fc, na, nc, ka, kc, rfl, hkc⟩
          (w' := wr.alloc (.cells #[.int .i64 l[k].kind, .slice pa l[k].path.length pc, .slice fa l[k].frm.length fc, .int .i64 l[k].val.kind, .int .i64 l[k].val.num, .string l[k].val.text, .slice na l[k].val.names.length nc, .slice ka l[k].val.kids.length kc] 93)) (by repeat (first | with_reducible exact Ext.refl _ _ | with_reducible refine Ext.trans ?_ (by assumption) | with_reducible refine Ext.drew ?_ | with_reducible refine Ext.drewN ?_ _ | with_reducible refine Ext.alloc ?_ _ | with_reducible refine Ext.setNew ?_ (by simp; done) _ | with_reducible refine Ext.setNew ?_ (by simp; omega) _)))
        have Hs := Lib.hid (allD_step (p := opB) l k hlt)
        clear hkr hkc
        cases hp : opB l[k]
        · have Hp := Lib.hid hp
          clear hp
          go_wp2_with (go_at_call 98; refine (isOp_ok l[k] _ _ Hkc.out).mono ?_; rintro e w2 ⟨rfl, hg2⟩; simp only [Hp.out])
          go_ret
          exact ⟨by simp [opsB, Hr.out, Hs.out, Hp.out], hg.trans (by repeat (first | with_reducible exact Ext.refl _ _ | with_reducible refine Ext.trans ?_ (by assumption) | with_reducible refine Ext.drew ?_ | with_reducible refine Ext.drewN ?_ _ | with_reducible refine Ext.alloc ?_ _ | with_reducible refine Ext.setNew ?_ (by simp; done) _ | with_reducible refine Ext.setNew ?_ (by simp; omega) _))⟩
        · have Hp := Lib.hid hp
          clear hp
          go_wp2_with (go_at_call 98; refine (isOp_ok l[k] _ _ Hkc.out).mono ?_; rintro e w2 ⟨rfl, hg2⟩; simp only [Hp.out])
          go_roundw
          case rel => exact ⟨rfl, hg.trans (by repeat (first | with_reducible exact Ext.refl _ _ | with_reducible refine Ext.trans ?_ (by assumption) | with_reducible refine Ext.drew ?_ | with_reducible refine Ext.drewN ?_ _ | with_reducible refine Ext.alloc ?_ _ | with_reducible refine Ext.setNew ?_ (by simp; done) _ | with_reducible refine Ext.setNew ?_ (by simp; omega) _)), k + 1, by omega, by go_num, Lib.hid (by rw [Hr.out, Hs.out, Hp.out, Bool.true_and])⟩
          case measure => simp [intOf]; omega
      · have Hs := Lib.hid (allD_end (p := opB) l k hlt)
        go_wp2
        go_ret
        exact ⟨by simp [opsB, Hr.out, Hs.out]; omega, hg⟩

set_option maxHeartbeats 1000000 in
theorem validPatch_ok (a : Option Addr) (c : Nat) (l : List Opn) (w : World) (ha : OpsR w any a c l) :
    Calls Try.prog 123 #[.slice a l.length c] w fun e w' => e = .returned (.bool (opsB l)) ∧ Grow w w' := by
  have hbig : l.length ≤ 9223372036854775807 := ha.2.1
  have Hn := Lib.hid ha
  clear ha
  go_enter Try.func123, Try.ntmps123
  go_wp2
  go_loopw [2, 3] (fun n i wr => n = .bool false ∧ Grow w wr ∧ ∃ k : Nat, k ≤ l.length ∧ i = .int .i64 k ∧ Hid (l.all opB = (l.drop k).all opB)) (fun _ i _ => l.length - (intOf i).toNat)
  case atStart => exact ⟨rfl, Ext.refl _ _, 0, Nat.zero_le _, rfl, Lib.hid rfl⟩
  case round =>
    obtain ⟨rfl, hg, k, hk, rfl, Hr⟩ := hrel
    by_cases hlt : k < l.length
    · obtain ⟨_, _, hks⟩ := (Hn.out).ext hg (fun _ _ h => h)
      rcases hks with hks | ⟨bk, ok, rfl, _, hkr⟩
      · simp [hks] at hlt
      obtain ⟨pa, pc, fa, fc, na, nc, ka, kc, c0, c1, c2, c3, c4, c5, c6, c7, hkc⟩ := hkr k hlt
      have Hkc : Hid (OpR wr any l[k] (opV l[k] pa pc fa fc na nc ka kc)) := Lib.hid ⟨pa, pc, fa, fc, na, nc, ka, kc, rfl, hkc⟩
      have Hs := Lib.hid (allD_step (p := opB) l k hlt)
      clear hkr hkc
      cases hp : opB l[k]
      · have Hp := Lib.hid hp
        clear hp
        go_wp2_with (go_at_call 95; refine (validOp_ok l[k] _ _ Hkc.out).mono ?_; rintro e w2 ⟨rfl, hg2⟩; simp only [Hp.out])
        go_ret
        exact ⟨by simp [opsB, Hr.out, Hs.out, Hp.out], hg.trans (by repeat (first | with_reducible exact Ext.refl _ _ | with_reducible refine Ext.trans ?_ (by assumption) | with_reducible refine Ext.drew ?_ | with_reducible refine Ext.drewN ?_ _ | with_reducible refine Ext.alloc ?_ _ | with_reducible refine Ext.setNew ?_ (by simp; done) _ | with_reducible refine Ext.setNew ?_ (by simp; omega) _))⟩
      · have Hp := Lib.hid hp
        clear hp
        go_wp2_with (go_at_call 95; refine (validOp_ok l[k] _ _ Hkc.out).mono ?_; rintro e w2 ⟨rfl, hg2⟩; simp only [Hp.out])
        go_roundw
        case rel => exact ⟨rfl, hg.trans (by repeat (first | with_reducible exact Ext.refl _ _ | with_reducible refine Ext.trans ?_ (by assumption) | with_reducible refine Ext.drew ?_ | with_reducible refine Ext.drewN ?_ _ | with_reducible refine Ext.alloc ?_ _ | with_reducible refine Ext.setNew ?_ (by simp; done) _ | with_reducible refine Ext.setNew ?_ (by simp; omega) _)), k + 1, by omega, by go_num, Lib.hid (by rw [Hr.out, Hs.out, Hp.out, Bool.true_and])⟩
        case measure => simp [intOf]; omega
    · have Hs := Lib.hid (allD_end (p := opB) l k hlt)
      go_wp2
      go_ret
      exact ⟨by simp [opsB, Hr.out, Hs.out]; omega, hg⟩

/-- A request, told by itself. -/
structure Reqn where
  method : Int
  name : ByteArray
  want : List ByteArray
  avoid : List ByteArray
  body : Nd
  ops : List Opn

def reqCells (q : Reqn) (wa : Option Addr) (wc : Nat) (va : Option Addr) (vc : Nat) (na : Option Addr) (nc : Nat) (ka : Option Addr) (kc : Nat) (oa : Option Addr) (oc : Nat) : Array Value :=
  #[.int .i64 q.method, .string q.name, .slice wa q.want.length wc, .slice va q.avoid.length vc, .int .i64 q.body.kind, .int .i64 q.body.num, .string q.body.text, .slice na q.body.names.length nc, .slice ka q.body.kids.length kc, .slice oa q.ops.length oc]
def ReqC (w : World) (S : Nat → Prop) (q : Reqn) (wa : Option Addr) (wc : Nat) (va : Option Addr) (vc : Nat) (na : Option Addr) (nc : Nat) (ka : Option Addr) (kc : Nat) (oa : Option Addr) (oc : Nat) : Prop :=
  q.name.size ≤ big ∧ StrsR w S wa wc q.want ∧ StrsR w S va vc q.avoid ∧ NodeC w S q.body na nc ka kc ∧ OpsR w S oa oc q.ops
def ReqR (w : World) (S : Nat → Prop) (q : Reqn) (v : Value) : Prop := ∃ wa wc va vc na nc ka kc oa oc, v = .agg (reqCells q wa wc va vc na nc ka kc oa oc) ∧ ReqC w S q wa wc va vc na nc ka kc oa oc

theorem ReqR.ext {X S : Nat → Prop} {w w' : World} (h : Ext X w w') (hS : ∀ k, S k → ¬ X k) {q : Reqn} {v : Value} (hs : ReqR w S q v) : ReqR w' S q v := by
  obtain ⟨wa, wc, va, vc, na, nc, ka, kc, oa, oc, hv, h1, h2, h3, h4, h5⟩ := hs
  exact ⟨wa, wc, va, vc, na, nc, ka, kc, oa, oc, hv, h1, h2.ext h hS, h3.ext h hS, h4.ext h hS, h5.ext h hS⟩
theorem ReqR.grow {S : Nat → Prop} {w w' : World} {q : Reqn} {v : Value} (hs : ReqR w S q v) (h : Grow w w') : ReqR w' S q v := hs.ext h (fun _ _ h => h)

def reqB (q : Reqn) : Bool := inR q.method 1 5 && nameB q.name && tagsB q.want && tagsB q.avoid && validB q.body && opsB q.ops

end Go.Proofs.Ytchiakeceiefdaa

/-
  What an argument that is read as data tells of memory: operations, requests.
-/
namespace Go.Proofs.Ytchiakeceiefdaa
open Go.RowKit Go.ChangeShapes Go.WideShapes Go.Deep

section
variable {H : Type} {enc : TypeId × Value → H} {W : World} {base : Nat} {sp : Nat → Bool} {held : Bool}

set_option maxRecDepth 100000 in
theorem open_op {fuel : Nat} {cs : List Value} {x : DataW H × List MemPlace} (h : DataW.trod enc Try.prog W base sp held fuel 88 cs = some x) :
    ∃ o pa pc fa fc na nc ka kc, cs = [.int .i64 o.kind, .slice pa o.path.length pc, .slice fa o.frm.length fc, .int .i64 o.val.kind, .int .i64 o.val.num, .string o.val.text, .slice na o.val.names.length nc, .slice ka o.val.kids.length kc] ∧ OpC W any o pa pc fa fc na nc ka kc := by
  obtain ⟨xs, n, rfl, _, hlen, hxs, hf⟩ := DataW.trod_struct Try.underlying88 h
  have hc : Try.prog.cellsOf 88 = 8 := by kernel_rfl
  have c3 : Try.prog.cellsOf 3 = 1 := by kernel_rfl
  have c23 : Try.prog.cellsOf 23 = 1 := by kernel_rfl
  have cN : Try.prog.cellsOf 59 = 5 := by kernel_rfl
  rw [hc] at hlen
  match cs, hlen with
  | [v0, v1, v2, v3, v4, v5, v6, v7], _ =>
    obtain ⟨y0, g0⟩ : ∃ y, DataW.trod enc Try.prog W base sp held n 3 [v0] = some y := ⟨xs[0]'(by simp at hxs; omega), by
      have h := hf 0 _ rfl
      rw [List.getElem?_eq_getElem (by simp at hxs; omega)] at h
      simpa [c3, c23, cN] using h⟩
    obtain ⟨y1, g1⟩ : ∃ y, DataW.trod enc Try.prog W base sp held n 23 [v1] = some y := ⟨xs[1]'(by simp at hxs; omega), by
      have h := hf 1 _ rfl
      rw [List.getElem?_eq_getElem (by simp at hxs; omega)] at h
      simpa [c3, c23, cN] using h⟩
    obtain ⟨y2, g2⟩ : ∃ y, DataW.trod enc Try.prog W base sp held n 23 [v2] = some y := ⟨xs[2]'(by simp at hxs; omega), by
      have h := hf 2 _ rfl
      rw [List.getElem?_eq_getElem (by simp at hxs; omega)] at h
      simpa [c3, c23, cN] using h⟩
    obtain ⟨y3, g3⟩ : ∃ y, DataW.trod enc Try.prog W base sp held n 59 [v3, v4, v5, v6, v7] = some y := ⟨xs[3]'(by simp at hxs; omega), by
      have h := hf 3 _ rfl
      rw [List.getElem?_eq_getElem (by simp at hxs; omega)] at h
      simpa [c3, c23, cN] using h⟩
    clear hf
    obtain ⟨kind, e0, _, _⟩ := DataW.trod_int Try.underlying3 g0
    obtain ⟨pa, pc, path, e1, hp⟩ := open_strs' g1
    obtain ⟨fa, fc, frm, e2, hfr⟩ := open_strs' g2
    obtain ⟨nd, na, nc, ka, kc, e3, hn⟩ := open_node _ _ _ g3
    simp only [List.cons.injEq, and_true] at e0 e1 e2 e3
    obtain ⟨rfl, rfl, rfl, rfl, rfl⟩ := e3
    subst e0 e1 e2
    exact ⟨⟨kind, path, frm, nd⟩, pa, pc, fa, fc, na, nc, ka, kc, rfl, hp, hfr, hn⟩

theorem open_ops {fuel : Nat} {cs : List Value} {x : DataW H × List MemPlace} (h : DataW.trod enc Try.prog W base sp held fuel 67 cs = some x) :
    ∃ a c l, cs = [.slice a (l : List Opn).length c] ∧ OpsR W any a c l := by
  rcases open_slice Try.underlying67 h with ⟨rfl, _⟩ | ⟨a, len, cap, m, n, D, Pl, rfl, _, hl, hm, hmm, _, hi⟩
  · exact ⟨none, 0, [], rfl, by simp, by simp, .inl rfl⟩
  · have hlm : len ≤ m := by rw [hmm]; split <;> omega
    have hc : Try.prog.cellsOf 88 = 8 := by kernel_rfl
    rw [hc] at hi
    have key : ∀ i, i < len → ∃ k : Opn × (Option Addr × Nat × Option Addr × Nat) × (Option Addr × Nat × Option Addr × Nat),
        W.cell? (a.add (i * 8)) = some (.int .i64 k.1.kind) ∧ W.cell? (a.add (i * 8 + 1)) = some (.slice k.2.1.1 k.1.path.length k.2.1.2.1) ∧ W.cell? (a.add (i * 8 + 2)) = some (.slice k.2.1.2.2.1 k.1.frm.length k.2.1.2.2.2) ∧
        W.cell? (a.add (i * 8 + 3)) = some (.int .i64 k.1.val.kind) ∧ W.cell? (a.add (i * 8 + 4)) = some (.int .i64 k.1.val.num) ∧ W.cell? (a.add (i * 8 + 5)) = some (.string k.1.val.text) ∧
        W.cell? (a.add (i * 8 + 6)) = some (.slice k.2.2.1 k.1.val.names.length k.2.2.2.1) ∧ W.cell? (a.add (i * 8 + 7)) = some (.slice k.2.2.2.2.1 k.1.val.kids.length k.2.2.2.2.2) ∧
        OpC W any k.1 k.2.1.1 k.2.1.2.1 k.2.1.2.2.1 k.2.1.2.2.2 k.2.2.1 k.2.2.2.1 k.2.2.2.2.1 k.2.2.2.2.2 := fun i hi' => by
      obtain ⟨cs', h1, h2⟩ := hi i (by omega)
      obtain ⟨_, hlen, hat⟩ := World.cells?_some h1
      obtain ⟨o, pa, pc, fa, fc, na, nc, ka, kc, rfl, ho⟩ := open_op h2
      refine ⟨⟨o, ⟨pa, pc, fa, fc⟩, ⟨na, nc, ka, kc⟩⟩, ?_, ?_, ?_, ?_, ?_, ?_, ?_, ?_, ho⟩
      · simpa [Go.Deep.add_add] using hat 0 (by omega)
      · simpa [Go.Deep.add_add] using hat 1 (by omega)
      · simpa [Go.Deep.add_add] using hat 2 (by omega)
      · simpa [Go.Deep.add_add] using hat 3 (by omega)
      · simpa [Go.Deep.add_add] using hat 4 (by omega)
      · simpa [Go.Deep.add_add] using hat 5 (by omega)
      · simpa [Go.Deep.add_add] using hat 6 (by omega)
      · simpa [Go.Deep.add_add] using hat 7 (by omega)
    have : Inhabited (Opn × (Option Addr × Nat × Option Addr × Nat) × (Option Addr × Nat × Option Addr × Nat)) := ⟨⟨⟨0, [], [], ⟨0, 0, ByteArray.empty, [], []⟩⟩, ⟨none, 0, none, 0⟩, ⟨none, 0, none, 0⟩⟩⟩
    obtain ⟨f, hf⟩ := choose_lt key
    have hkl : ((List.range len).map fun i => (f i).1).length = len := by simp
    have hbig : len ≤ big := by unfold maxLen at hm; unfold big; omega
    refine ⟨some a, cap, (List.range len).map fun i => (f i).1, by simp, by rw [hkl]; exact hl, by rw [hkl]; exact hbig, ?_⟩
    by_cases h0 : len = 0
    · subst h0; exact .inl rfl
    · obtain ⟨b, o, ha⟩ := addr_spot (hf 0 (by omega)).1
      have ha' : a = ⟨b, o, none⟩ := by simpa [Addr.add] using ha
      subst ha'
      refine .inr ⟨b, o, rfl, trivial, fun i hi' => ?_⟩
      rw [hkl] at hi'
      obtain ⟨k0, k1, k2, k3, k4, k5, k6, k7, kn⟩ := hf i hi'
      rw [add_mk] at k0 k1 k2 k3 k4 k5 k6 k7
      simp only [List.getElem_map, List.getElem_range]
      exact ⟨_, _, _, _, _, _, _, _, k0, by rw [Nat.add_assoc]; exact k1, by rw [Nat.add_assoc]; exact k2, by rw [Nat.add_assoc]; exact k3, by rw [Nat.add_assoc]; exact k4, by rw [Nat.add_assoc]; exact k5, by rw [Nat.add_assoc]; exact k6, by rw [Nat.add_assoc]; exact k7, kn⟩

set_option maxRecDepth 100000 in
theorem open_req {fuel : Nat} {cs : List Value} {x : DataW H × List MemPlace} (h : DataW.trod enc Try.prog W base sp held fuel 69 cs = some x) :
    ∃ q wa wc va vc na nc ka kc oa oc, cs = (reqCells q wa wc va vc na nc ka kc oa oc).toList ∧ ReqC W any q wa wc va vc na nc ka kc oa oc := by
  obtain ⟨xs, n, rfl, _, hlen, hxs, hf⟩ := DataW.trod_struct Try.underlying69 h
  have hc : Try.prog.cellsOf 69 = 10 := by kernel_rfl
  have c3 : Try.prog.cellsOf 3 = 1 := by kernel_rfl
  have c9 : Try.prog.cellsOf 9 = 1 := by kernel_rfl
  have c23 : Try.prog.cellsOf 23 = 1 := by kernel_rfl
  have cN : Try.prog.cellsOf 59 = 5 := by kernel_rfl
  have cO : Try.prog.cellsOf 67 = 1 := by kernel_rfl
  rw [hc] at hlen
  match cs, hlen with
  | [v0, v1, v2, v3, v4, v5, v6, v7, v8, v9], _ =>
    obtain ⟨y0, g0⟩ : ∃ y, DataW.trod enc Try.prog W base sp held n 3 [v0] = some y := ⟨xs[0]'(by simp at hxs; omega), by
      have h := hf 0 _ rfl
      rw [List.getElem?_eq_getElem (by simp at hxs; omega)] at h
      simpa [c3, c9, c23, cN, cO] using h⟩
    obtain ⟨y1, g1⟩ : ∃ y, DataW.trod enc Try.prog W base sp held n 9 [v1] = some y := ⟨xs[1]'(by simp at hxs; omega), by
      have h := hf 1 _ rfl
      rw [List.getElem?_eq_getElem (by simp at hxs; omega)] at h
      simpa [c3, c9, c23, cN, cO] using h⟩
    obtain ⟨y2, g2⟩ : ∃ y, DataW.trod enc Try.prog W base sp held n 23 [v2] = some y := ⟨xs[2]'(by simp at hxs; omega), by
      have h := hf 2 _ rfl
      rw [List.getElem?_eq_getElem (by simp at hxs; omega)] at h
      simpa [c3, c9, c23, cN, cO] using h⟩
    obtain ⟨y3, g3⟩ : ∃ y, DataW.trod enc Try.prog W base sp held n 23 [v3] = some y := ⟨xs[3]'(by simp at hxs; omega), by
      have h := hf 3 _ rfl
      rw [List.getElem?_eq_getElem (by simp at hxs; omega)] at h
      simpa [c3, c9, c23, cN, cO] using h⟩
    obtain ⟨y4, g4⟩ : ∃ y, DataW.trod enc Try.prog W base sp held n 59 [v4, v5, v6, v7, v8] = some y := ⟨xs[4]'(by simp at hxs; omega), by
      have h := hf 4 _ rfl
      rw [List.getElem?_eq_getElem (by simp at hxs; omega)] at h
      simpa [c3, c9, c23, cN, cO] using h⟩
    obtain ⟨y5, g5⟩ : ∃ y, DataW.trod enc Try.prog W base sp held n 67 [v9] = some y := ⟨xs[5]'(by simp at hxs; omega), by
      have h := hf 5 _ rfl
      rw [List.getElem?_eq_getElem (by simp at hxs; omega)] at h
      simpa [c3, c9, c23, cN, cO] using h⟩
    clear hf
    obtain ⟨method, e0, _, _⟩ := DataW.trod_int Try.underlying3 g0
    obtain ⟨name, e1, _, hz⟩ := DataW.trod_string Try.underlying9 g1
    obtain ⟨wa, wc, want, e2, hw⟩ := open_strs' g2
    obtain ⟨va, vc, avoid, e3, hv⟩ := open_strs' g3
    obtain ⟨nd, na, nc, ka, kc, e4, hn⟩ := open_node _ _ _ g4
    obtain ⟨oa, oc, ops, e5, ho⟩ := open_ops g5
    simp only [List.cons.injEq, and_true] at e0 e1 e2 e3 e4 e5
    obtain ⟨rfl, rfl, rfl, rfl, rfl⟩ := e4
    subst e0 e1 e2 e3 e5
    exact ⟨⟨method, name, want, avoid, nd, ops⟩, wa, wc, va, vc, na, nc, ka, kc, oa, oc, rfl, by unfold maxLen at hz; unfold big; omega, hw, hv, hn, ho⟩

end
end Go.Proofs.Ytchiakeceiefdaa

/-
  What an argument that is read as data tells of memory: slices of represented types, entries.
-/
namespace Go.Proofs.Ytchiakeceiefdaa
open Go.RowKit Go.ChangeShapes Go.WideShapes Go.Deep

section
variable {H : Type} {enc : TypeId × Value → H} {W : World} {base : Nat} {sp : Nat → Bool} {held : Bool}

theorem open_slR {α : Type} [Inhabited α] (E : Rep α) (hpos : 0 < E.n) (TS T : TypeId) (hu : Try.prog.underlying TS = some (.slice T)) (hc : Try.prog.cellsOf T = E.n)
    (hel : ∀ (fuel : Nat) (cs : List Value) (x : DataW H × List MemPlace), DataW.trod enc Try.prog W base sp held fuel T cs = some x → ∃ y, E.R W any y cs)
    {fuel : Nat} {cs : List Value} {x : DataW H × List MemPlace} (h : DataW.trod enc Try.prog W base sp held fuel TS cs = some x) :
    ∃ a c l, cs = [.slice a (l : List α).length c] ∧ SlR E W any a c l := by
  rcases open_slice hu h with ⟨rfl, _⟩ | ⟨a, len, cap, m, n, D, Pl, rfl, _, hl, hm, hmm, _, hi⟩
  · exact ⟨none, 0, [], rfl, by simp, by simp, .inl rfl⟩
  · have hlm : len ≤ m := by rw [hmm]; split <;> omega
    rw [hc] at hi
    have key : ∀ i, i < len → ∃ k : α × List Value, (∀ j v, k.2[j]? = some v → W.cell? (a.add (i * E.n + j)) = some v) ∧ E.R W any k.1 k.2 := fun i hi' => by
      obtain ⟨cs', h1, h2⟩ := hi i (by omega)
      obtain ⟨_, hlen, hat⟩ := World.cells?_some h1
      obtain ⟨y, hy⟩ := hel _ _ _ h2
      refine ⟨⟨y, cs'⟩, fun j v hv => ?_, hy⟩
      have hj : j < E.n := by
        have h3 : j < cs'.length := (List.getElem?_eq_some_iff.1 hv).1
        omega
      have := hat j hj
      rw [hv] at this
      simpa [Go.Deep.add_add] using this
    have : Inhabited (α × List Value) := ⟨⟨default, []⟩⟩
    obtain ⟨f, hf⟩ := choose_lt key
    have hkl : ((List.range len).map fun i => (f i).1).length = len := by simp
    have hbig : len ≤ big := by unfold maxLen at hm; unfold big; omega
    refine ⟨some a, cap, (List.range len).map fun i => (f i).1, by simp, by rw [hkl]; exact hl, by rw [hkl]; exact hbig, ?_⟩
    by_cases h0 : len = 0
    · subst h0; exact .inl rfl
    · have hr0 := (hf 0 (by omega)).2
      have hl0 := E.rlen hr0
      obtain ⟨v0, hv0⟩ : ∃ v0, (f 0).2[0]? = some v0 := ⟨_, List.getElem?_eq_getElem (by omega)⟩
      obtain ⟨b, o, ha⟩ := addr_spot ((hf 0 (by omega)).1 0 v0 hv0)
      have ha' : a = ⟨b, o, none⟩ := by simpa [Addr.add] using ha
      subst ha'
      refine .inr ⟨b, o, rfl, trivial, fun i hi' => ?_⟩
      rw [hkl] at hi'
      obtain ⟨k1, k2⟩ := hf i hi'
      simp only [List.getElem_map, List.getElem_range]
      refine ⟨_, fun j v hv => ?_, k2⟩
      have := k1 j v hv
      rw [add_mk] at this
      rw [Nat.add_assoc]; exact this

set_option maxRecDepth 100000 in
theorem open_entry (fuel : Nat) (cs : List Value) (x : DataW H × List MemPlace) (h : DataW.trod enc Try.prog W base sp held fuel 133 cs = some x) : ∃ y, entRep.R W any y cs := by
  obtain ⟨xs, n, rfl, _, hlen, hxs, hf⟩ := DataW.trod_struct Try.underlying133 h
  have hc : Try.prog.cellsOf 133 = 6 := by kernel_rfl
  have c9 : Try.prog.cellsOf 9 = 1 := by kernel_rfl
  have cN : Try.prog.cellsOf 59 = 5 := by kernel_rfl
  rw [hc] at hlen
  match cs, hlen with
  | [v0, v1, v2, v3, v4, v5], _ =>
    obtain ⟨y0, g0⟩ : ∃ y, DataW.trod enc Try.prog W base sp held n 59 [v0, v1, v2, v3, v4] = some y := ⟨xs[0]'(by simp at hxs; omega), by
      have h := hf 0 _ rfl
      rw [List.getElem?_eq_getElem (by simp at hxs; omega)] at h
      simpa [c9, cN] using h⟩
    obtain ⟨y1, g1⟩ : ∃ y, DataW.trod enc Try.prog W base sp held n 9 [v5] = some y := ⟨xs[1]'(by simp at hxs; omega), by
      have h := hf 1 _ rfl
      rw [List.getElem?_eq_getElem (by simp at hxs; omega)] at h
      simpa [c9, cN] using h⟩
    obtain ⟨q, na, nc, ka, kc, e0, hq⟩ := open_node _ _ _ g0
    obtain ⟨s, e1, _, hs⟩ := DataW.trod_string Try.underlying9 g1
    exact ⟨(q, s), _, _, by rw [show [v0, v1, v2, v3, v4, v5] = [v0, v1, v2, v3, v4] ++ [v5] from rfl, e0, e1]; rfl, ⟨na, nc, ka, kc, rfl, hq⟩, ⟨rfl, by show s.size ≤ big; unfold maxLen at hs; unfold big; omega⟩⟩

theorem open_ents {fuel : Nat} {cs : List Value} {x : DataW H × List MemPlace} (h : DataW.trod enc Try.prog W base sp held fuel 78 cs = some x) :
    ∃ a c l, cs = [.slice a (l : List Ent).length c] ∧ SlR entRep W any a c l :=
  have : Inhabited Ent := ⟨(⟨0, 0, ByteArray.empty, [], []⟩, ByteArray.empty)⟩
  open_slR entRep (by rw [entRep_n]; omega) _ _ Try.underlying78 (by rw [entRep_n]; kernel_rfl) open_entry h
end

end Go.Proofs.Ytchiakeceiefdaa

namespace Go.Proofs.Ytchiakeceiefdaa
open Go.ChangeShapes Go.WideShapes Go.ChangeAt Go.RowKit

set_option maxRecDepth 100000 in
set_option maxHeartbeats 4000000 in
theorem findRange_lifted (os : Os) (started : os.Started) (H : Type) (enc : TypeId × Value → H) :
    ReturnsInHanded {} Try.checked os 7 .any (Rows.fnExactFindRangeSpec.pre6 enc Try.prog Try.f7 Rows.fnExactFindRangeRow.domain false) (Rows.fnExactFindRangeSpec.post enc Try.prog Try.f7 false true false false) := by
  refine returnsInHanded_of_change (C := Try.checked) Try.own started (by kernel_rfl) Try.func7
    (ChangeSpec.witness6 (enc := enc) (C := Try.checked) false ⟨#[], #[.slice none 0 0, .agg #[.int .i64 0, .int .i64 0, .string ⟨#[]⟩, .slice none 0 0, .slice none 0 0], .agg #[.int .i64 0, .int .i64 0, .string ⟨#[]⟩, .slice none 0 0, .slice none 0 0]], []⟩ 12 (by kernel_rfl) (by kernel_rfl) (by kernel_rfl) (by kernel_rfl)) ?_
  intro W base args ds gs before hval0 hW hcnd _
  have hval : ∀ (j : Nat) t v, Try.f7.params[j]? = some t → args[j]? = some v → Value.okWide Try.prog W .any base t v := hval0
  have hW' := hW
  obtain ⟨p, q, hA0, hV, rfl, hfz, hnd⟩ := hW
  have hA : DataW.TrodAll enc Try.prog W 0 (fun _ => true) true Try.f7.params.toList args.toList ds p := hA0
  rw [Try.params7] at hA hval
  obtain ⟨v0, v1, v2, d0, d1, d2, p0, p1, p2, rfl, rfl, hp, h0, h1, h2⟩ := trodAll_three hA
  obtain ⟨rfl, rfl⟩ := trodVars_none hV
  obtain ⟨qa0, ql0, qc0, rfl⟩ := okWide_slice Try.underlying78 (hval 0 78 v0 rfl rfl)
  obtain ⟨fuel0, h0⟩ := h0
  obtain ⟨a0, c0, l0, hv0, hr0⟩ := open_ents h0
  simp [Value.cells] at hv0
  obtain ⟨rfl, rfl, rfl⟩ := hv0
  obtain ⟨cs1, rfl, _⟩ := okWide_struct Try.underlying59 (hval 1 59 v1 rfl rfl)
  obtain ⟨fuel1, h1⟩ := h1
  obtain ⟨n1, na1, nc1, ka1, kc1, hcs1, hr1⟩ := open_node _ _ _ h1
  have hcs1' : cs1 = (nodeL n1 na1 nc1 ka1 kc1).toArray := Array.toList_inj.1 hcs1
  subst hcs1'
  obtain ⟨cs2, rfl, _⟩ := okWide_struct Try.underlying59 (hval 2 59 v2 rfl rfl)
  obtain ⟨fuel2, h2⟩ := h2
  obtain ⟨n2, na2, nc2, ka2, kc2, hcs2, hr2⟩ := open_node _ _ _ h2
  have hcs2' : cs2 = (nodeL n2 na2 nc2 ka2 kc2).toArray := Array.toList_inj.1 hcs2
  subst hcs2'
  refine (lawFRange_ok l0 n1 n2 _ _ _ W ⟨_, _, rfl, hr0⟩ ⟨na1, nc1, ka1, kc1, rfl, hr1⟩ ⟨na2, nc2, ka2, kc2, rfl, hr2⟩).mono fun e W' ⟨he, hg⟩ => ?_
  subst he
  refine ⟨_, rfl, post_grow rfl ?_ (by kernel_rfl) rfl hW' hg⟩
  intro t ht
  rw [Try.params7] at ht
  simp at ht
  rcases ht with rfl | rfl | rfl
  all_goals exact ⟨by kernel_rfl, of_decide_eq_true (by kernel_rfl)⟩

theorem findRange_holds : Rows.FnExactFindRangeSaid :=
  OpenClaim.holds_of_wide 7 Try.f7 rfl rfl rfl rfl rfl rfl rfl ⟨rfl, rfl, rfl, rfl, rfl⟩ rfl rfl rfl rfl rfl (by kernel_rfl) Try.func7 (by kernel_rfl)
    (of_decide_eq_true (by kernel_rfl)) (by unfold Func.isWrapper; first | (rw [if_pos (by decide +kernel)]; kernel_rfl) | (rw [if_neg (by decide +kernel)]; exact ⟨rfl, rfl⟩))
    (fun os started H enc _ => findRange_lifted os started H enc)
#print axioms findRange_holds

end Go.Proofs.Ytchiakeceiefdaa
