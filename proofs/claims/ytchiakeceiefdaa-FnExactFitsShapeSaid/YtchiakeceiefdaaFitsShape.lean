/-
  The walks of impl.FitsShape and spec.FitsShape.
-/
import Derived.Test.YtchiakeceiefdaaMisfit
namespace Go.Proofs.Ytchiakeceiefdaa
open Go.RowKit

def fitsV (x : Shp) (n : Nd) : Bool := shpB x 5 && validB n && fitB x n

theorem GoodS.head' {x : Shp} {d : Nat} (h : shpB x d = true) : shpHead x = true := by
  rw [shpB_eq] at h
  simp only [Bool.and_eq_true] at h
  exact h.1.2

theorem misL_fit (n : Nd) : ∀ (ks : List Shp), (∀ k ∈ ks, ∀ m, (mis k m).isSome = !fitB k m) → ∀ (ns : List ByteArray) (bs : List Bool), (misL ns bs ks n).isSome = !fitL ns bs ks n
  | [], _, ns, bs => by cases ns <;> cases bs <;> simp [misL, fitL]
  | k :: ks, hk, [], bs => by simp [misL, fitL]
  | k :: ks, hk, nm :: ns, [] => by simp [misL, fitL]
  | k :: ks, hk, nm :: ns, nd :: bs => by
    have ih := misL_fit n ks (fun k' hk' => hk k' (by simp [hk'])) ns bs
    have h0 := hk k (by simp) (kidOf n nm)
    rw [misL, fitL]
    cases hm : mem n.names nm
    · cases nd
      · simpa using ih
      · simp
    · cases hx : mis k (kidOf n nm) with
      | none => rw [hx] at h0; simp at h0; simpa [h0] using ih
      | some p => rw [hx] at h0; simp at h0; simp [h0]

theorem mis_fit : ∀ (d : Nat) (x : Shp) (n : Nd), shpB x d = true → (mis x n).isSome = !fitB x n
  | 0, x, n, h => by rw [shpB_eq] at h; simp at h
  | d + 1, x, n, h => by
    have hh : shpHead x = true := GoodS.head' h
    rw [shpB_eq, shpL_all] at h
    simp only [Bool.and_eq_true, List.all_eq_true, Nat.add_sub_cancel] at h
    obtain ⟨p1, p2, p3, p4, p5, p6⟩ := shpHead_parts hh
    have hl := misL_fit n x.kids (fun k hk m => mis_fit d k m (h.2 k hk)) x.names x.needs
    rw [mis_eq, fitB_eq]
    by_cases h0 : x.kind = 0
    · have : x.names = [] := by
        rcases p6 with p6 | p6
        · exact List.length_eq_zero_iff.1 p6
        · omega
      rw [this]
      simp [h0, fitL]
    · rw [if_neg h0]
      by_cases h1 : x.kind ≠ n.kind
      · rw [if_pos h1]
        have : ¬ n.kind = x.kind := fun h => h1 h.symm
        simp [h0, this]
      · rw [if_neg h1]
        have : n.kind = x.kind := by omega
        simp [h0, this, hl]

theorem GoodS.mis {x : Shp} (h : GoodS x) (n : Nd) : (Go.Proofs.Ytchiakeceiefdaa.mis x n).isSome = !fitB x n := by
  obtain ⟨d, _, h⟩ := h
  exact mis_fit d x n h

set_option maxHeartbeats 400000 in
theorem implValidShape_ok (x : Shp) (v : Value) (w : World) (hn : ShapeR w any x v) :
    Calls Try.prog 13 #[v] w fun e w' => e = .returned (.bool (shpB x 5)) ∧ Grow w w' := by
  have Hn := Lib.hid hn
  obtain ⟨na, nc, ba, bc, ka, kc, rfl, hc⟩ := hn
  clear hc
  unfold shapeV at *
  go_enter Try.func13, Try.ntmps13
  go_wp2_with fail
  refine (isShape_ok x 5 _ _ (by omega) (Hn.out.grow (by repeat (first | with_reducible exact Ext.refl _ _ | with_reducible refine Ext.trans ?_ (by assumption) | with_reducible refine Ext.drew ?_ | with_reducible refine Ext.drewN ?_ _ | with_reducible refine Ext.alloc ?_ _ | with_reducible refine Ext.setNew ?_ (by simp; done) _ | with_reducible refine Ext.setNew ?_ (by simp; omega) _)))).mono ?_
  rintro e w2 ⟨rfl, hg2⟩
  go_wp2_with fail
  go_ret
  exact ⟨by simp, (by repeat (first | with_reducible exact Ext.refl _ _ | with_reducible refine Ext.trans ?_ (by assumption) | with_reducible refine Ext.drew ?_ | with_reducible refine Ext.drewN ?_ _ | with_reducible refine Ext.alloc ?_ _ | with_reducible refine Ext.setNew ?_ (by simp; done) _ | with_reducible refine Ext.setNew ?_ (by simp; omega) _))⟩

set_option maxHeartbeats 2000000 in
theorem implFitsShape_ok (x : Shp) (n : Nd) (v u : Value) (w : World) (hx : ShapeR w any x v) (hn : NodeR w any n u) :
    Calls Try.prog 11 #[v, u] w fun e w' => e = .returned (.bool (fitsV x n)) ∧ Grow w w' := by
  have Hx := Lib.hid hx
  have Hn := Lib.hid hn
  obtain ⟨na, nc, ba, bc, ka, kc, rfl, hc⟩ := hx
  obtain ⟨na2, nc2, ka2, kc2, rfl, hc2⟩ := hn
  clear hc hc2
  unfold shapeV nodeV at *
  cases h1 : shpB x 5
  · have Hf : Hid (fitsV x n = false) := Lib.hid (by simp [fitsV, h1])
    have H1 := Lib.hid h1
    clear h1
    go_enter Try.func11, Try.ntmps11
    go_wp2_with fail
    refine (implValidShape_ok x _ _ (Hx.out.grow (by repeat (first | with_reducible exact Ext.refl _ _ | with_reducible refine Ext.trans ?_ (by assumption) | with_reducible refine Ext.drew ?_ | with_reducible refine Ext.drewN ?_ _ | with_reducible refine Ext.alloc ?_ _ | with_reducible refine Ext.setNew ?_ (by simp; done) _ | with_reducible refine Ext.setNew ?_ (by simp; omega) _)))).mono ?_
    rintro e w2 ⟨rfl, hg2⟩
    simp only [H1.out]
    go_wp2_with fail
    go_ret
    exact ⟨by simp [Hf.out], (by repeat (first | with_reducible exact Ext.refl _ _ | with_reducible refine Ext.trans ?_ (by assumption) | with_reducible refine Ext.drew ?_ | with_reducible refine Ext.drewN ?_ _ | with_reducible refine Ext.alloc ?_ _ | with_reducible refine Ext.setNew ?_ (by simp; done) _ | with_reducible refine Ext.setNew ?_ (by simp; omega) _))⟩
  cases h2 : validB n
  · have Hf : Hid (fitsV x n = false) := Lib.hid (by simp [fitsV, h2])
    have H1 := Lib.hid h1
    have H2 := Lib.hid h2
    clear h1 h2
    go_enter Try.func11, Try.ntmps11
    go_wp2_with fail
    refine (implValidShape_ok x _ _ (Hx.out.grow (by repeat (first | with_reducible exact Ext.refl _ _ | with_reducible refine Ext.trans ?_ (by assumption) | with_reducible refine Ext.drew ?_ | with_reducible refine Ext.drewN ?_ _ | with_reducible refine Ext.alloc ?_ _ | with_reducible refine Ext.setNew ?_ (by simp; done) _ | with_reducible refine Ext.setNew ?_ (by simp; omega) _)))).mono ?_
    rintro e w2 ⟨rfl, hg2⟩
    simp only [H1.out]
    have hcc2 := bcell hg2
    go_wp2_with fail
    refine (ValidNode_ok n _ _ (Hn.out.grow (by repeat (first | with_reducible exact Ext.refl _ _ | with_reducible refine Ext.trans ?_ (by assumption) | with_reducible refine Ext.drew ?_ | with_reducible refine Ext.drewN ?_ _ | with_reducible refine Ext.alloc ?_ _ | with_reducible refine Ext.setNew ?_ (by simp; done) _ | with_reducible refine Ext.setNew ?_ (by simp; omega) _)))).mono ?_
    rintro e w3 ⟨rfl, hg3⟩
    simp only [H2.out]
    go_wp2_with fail
    go_ret
    exact ⟨by simp [Hf.out], (by repeat (first | with_reducible exact Ext.refl _ _ | with_reducible refine Ext.trans ?_ (by assumption) | with_reducible refine Ext.drew ?_ | with_reducible refine Ext.drewN ?_ _ | with_reducible refine Ext.alloc ?_ _ | with_reducible refine Ext.setNew ?_ (by simp; done) _ | with_reducible refine Ext.setNew ?_ (by simp; omega) _))⟩
  have hgs : GoodS x := ⟨5, by omega, h1⟩
  have Hf : Hid (fitsV x n = !(mis x n).isSome) := Lib.hid (by rw [hgs.mis]; simp [fitsV, h1, h2])
  have Hgs := Lib.hid hgs
  have Hgn := Lib.hid (validB_good h2)
  have H1 := Lib.hid h1
  have H2 := Lib.hid h2
  clear h1 h2 hgs
  go_enter Try.func11, Try.ntmps11
  go_wp2_with fail
  refine (implValidShape_ok x _ _ (Hx.out.grow (by repeat (first | with_reducible exact Ext.refl _ _ | with_reducible refine Ext.trans ?_ (by assumption) | with_reducible refine Ext.drew ?_ | with_reducible refine Ext.drewN ?_ _ | with_reducible refine Ext.alloc ?_ _ | with_reducible refine Ext.setNew ?_ (by simp; done) _ | with_reducible refine Ext.setNew ?_ (by simp; omega) _)))).mono ?_
  rintro e w2 ⟨rfl, hg2⟩
  simp only [H1.out]
  have hcc2 := bcell hg2
  go_wp2_with fail
  refine (ValidNode_ok n _ _ (Hn.out.grow (by repeat (first | with_reducible exact Ext.refl _ _ | with_reducible refine Ext.trans ?_ (by assumption) | with_reducible refine Ext.drew ?_ | with_reducible refine Ext.drewN ?_ _ | with_reducible refine Ext.alloc ?_ _ | with_reducible refine Ext.setNew ?_ (by simp; done) _ | with_reducible refine Ext.setNew ?_ (by simp; omega) _)))).mono ?_
  rintro e w3 ⟨rfl, hg3⟩
  simp only [H2.out]
  have hcc3 := bcell (hg2.trans hg3)
  clear hcc2
  go_wp2_with fail
  refine (misfit_ok x n _ _ _ Hgs.out Hgn.out (Hx.out.grow (by repeat (first | with_reducible exact Ext.refl _ _ | with_reducible refine Ext.trans ?_ (by assumption) | with_reducible refine Ext.drew ?_ | with_reducible refine Ext.drewN ?_ _ | with_reducible refine Ext.alloc ?_ _ | with_reducible refine Ext.setNew ?_ (by simp; done) _ | with_reducible refine Ext.setNew ?_ (by simp; omega) _))) (Hn.out.grow (by repeat (first | with_reducible exact Ext.refl _ _ | with_reducible refine Ext.trans ?_ (by assumption) | with_reducible refine Ext.drew ?_ | with_reducible refine Ext.drewN ?_ _ | with_reducible refine Ext.alloc ?_ _ | with_reducible refine Ext.setNew ?_ (by simp; done) _ | with_reducible refine Ext.setNew ?_ (by simp; omega) _)))).mono ?_
  rintro e w4 ⟨r, rfl, hg4, a, c, fp, rfl, _, _, _⟩
  go_wp2_with fail
  go_ret
  exact ⟨by simp [Hf.out], (by repeat (first | with_reducible exact Ext.refl _ _ | with_reducible refine Ext.trans ?_ (by assumption) | with_reducible refine Ext.drew ?_ | with_reducible refine Ext.drewN ?_ _ | with_reducible refine Ext.alloc ?_ _ | with_reducible refine Ext.setNew ?_ (by simp; done) _ | with_reducible refine Ext.setNew ?_ (by simp; omega) _))⟩

set_option maxHeartbeats 2000000 in
theorem specFitsShape_ok (x : Shp) (n : Nd) (v u : Value) (w : World) (hx : ShapeR w any x v) (hn : NodeR w any n u) :
    Calls Try.prog 12 #[v, u] w fun e w' => e = .returned (.bool (fitsV x n)) ∧ Grow w w' := by
  have Hx := Lib.hid hx
  have Hn := Lib.hid hn
  obtain ⟨na, nc, ba, bc, ka, kc, rfl, hc⟩ := hx
  obtain ⟨na2, nc2, ka2, kc2, rfl, hc2⟩ := hn
  clear hc hc2
  unfold shapeV nodeV at *
  cases h1 : shpB x 5
  · have Hf : Hid (fitsV x n = false) := Lib.hid (by simp [fitsV, h1])
    have H1 := Lib.hid h1
    clear h1
    go_enter Try.func12, Try.ntmps12
    go_wp2_with fail
    refine (validShape_ok x 5 _ _ (by omega) (Hx.out.grow (by repeat (first | with_reducible exact Ext.refl _ _ | with_reducible refine Ext.trans ?_ (by assumption) | with_reducible refine Ext.drew ?_ | with_reducible refine Ext.drewN ?_ _ | with_reducible refine Ext.alloc ?_ _ | with_reducible refine Ext.setNew ?_ (by simp; done) _ | with_reducible refine Ext.setNew ?_ (by simp; omega) _)))).mono ?_
    rintro e w2 ⟨rfl, hg2⟩
    simp only [H1.out]
    go_wp2_with fail
    go_ret
    exact ⟨by simp [Hf.out], (by repeat (first | with_reducible exact Ext.refl _ _ | with_reducible refine Ext.trans ?_ (by assumption) | with_reducible refine Ext.drew ?_ | with_reducible refine Ext.drewN ?_ _ | with_reducible refine Ext.alloc ?_ _ | with_reducible refine Ext.setNew ?_ (by simp; done) _ | with_reducible refine Ext.setNew ?_ (by simp; omega) _))⟩
  cases h2 : validB n
  · have Hf : Hid (fitsV x n = false) := Lib.hid (by simp [fitsV, h2])
    have H1 := Lib.hid h1
    have H2 := Lib.hid h2
    clear h1 h2
    go_enter Try.func12, Try.ntmps12
    go_wp2_with fail
    refine (validShape_ok x 5 _ _ (by omega) (Hx.out.grow (by repeat (first | with_reducible exact Ext.refl _ _ | with_reducible refine Ext.trans ?_ (by assumption) | with_reducible refine Ext.drew ?_ | with_reducible refine Ext.drewN ?_ _ | with_reducible refine Ext.alloc ?_ _ | with_reducible refine Ext.setNew ?_ (by simp; done) _ | with_reducible refine Ext.setNew ?_ (by simp; omega) _)))).mono ?_
    rintro e w2 ⟨rfl, hg2⟩
    simp only [H1.out]
    have hcc2 := bcell hg2
    go_wp2_with fail
    refine (validNode_ok n _ _ (Hn.out.grow (by repeat (first | with_reducible exact Ext.refl _ _ | with_reducible refine Ext.trans ?_ (by assumption) | with_reducible refine Ext.drew ?_ | with_reducible refine Ext.drewN ?_ _ | with_reducible refine Ext.alloc ?_ _ | with_reducible refine Ext.setNew ?_ (by simp; done) _ | with_reducible refine Ext.setNew ?_ (by simp; omega) _)))).mono ?_
    rintro e w3 ⟨rfl, hg3⟩
    simp only [H2.out]
    go_wp2_with fail
    go_ret
    exact ⟨by simp [Hf.out], (by repeat (first | with_reducible exact Ext.refl _ _ | with_reducible refine Ext.trans ?_ (by assumption) | with_reducible refine Ext.drew ?_ | with_reducible refine Ext.drewN ?_ _ | with_reducible refine Ext.alloc ?_ _ | with_reducible refine Ext.setNew ?_ (by simp; done) _ | with_reducible refine Ext.setNew ?_ (by simp; omega) _))⟩
  have hgs : GoodS x := ⟨5, by omega, h1⟩
  have Hf : Hid (fitsV x n = fitB x n) := Lib.hid (by simp [fitsV, h1, h2])
  have Hgs := Lib.hid hgs
  have Hgn := Lib.hid (validB_good h2)
  have H1 := Lib.hid h1
  have H2 := Lib.hid h2
  clear h1 h2 hgs
  go_enter Try.func12, Try.ntmps12
  go_wp2_with fail
  refine (validShape_ok x 5 _ _ (by omega) (Hx.out.grow (by repeat (first | with_reducible exact Ext.refl _ _ | with_reducible refine Ext.trans ?_ (by assumption) | with_reducible refine Ext.drew ?_ | with_reducible refine Ext.drewN ?_ _ | with_reducible refine Ext.alloc ?_ _ | with_reducible refine Ext.setNew ?_ (by simp; done) _ | with_reducible refine Ext.setNew ?_ (by simp; omega) _)))).mono ?_
  rintro e w2 ⟨rfl, hg2⟩
  simp only [H1.out]
  have hcc2 := bcell hg2
  go_wp2_with fail
  refine (validNode_ok n _ _ (Hn.out.grow (by repeat (first | with_reducible exact Ext.refl _ _ | with_reducible refine Ext.trans ?_ (by assumption) | with_reducible refine Ext.drew ?_ | with_reducible refine Ext.drewN ?_ _ | with_reducible refine Ext.alloc ?_ _ | with_reducible refine Ext.setNew ?_ (by simp; done) _ | with_reducible refine Ext.setNew ?_ (by simp; omega) _)))).mono ?_
  rintro e w3 ⟨rfl, hg3⟩
  simp only [H2.out]
  have hcc3 := bcell (hg2.trans hg3)
  clear hcc2
  go_wp2_with fail
  refine (fits_ok x n _ _ _ Hgs.out Hgn.out (Hx.out.grow (by repeat (first | with_reducible exact Ext.refl _ _ | with_reducible refine Ext.trans ?_ (by assumption) | with_reducible refine Ext.drew ?_ | with_reducible refine Ext.drewN ?_ _ | with_reducible refine Ext.alloc ?_ _ | with_reducible refine Ext.setNew ?_ (by simp; done) _ | with_reducible refine Ext.setNew ?_ (by simp; omega) _))) (Hn.out.grow (by repeat (first | with_reducible exact Ext.refl _ _ | with_reducible refine Ext.trans ?_ (by assumption) | with_reducible refine Ext.drew ?_ | with_reducible refine Ext.drewN ?_ _ | with_reducible refine Ext.alloc ?_ _ | with_reducible refine Ext.setNew ?_ (by simp; done) _ | with_reducible refine Ext.setNew ?_ (by simp; omega) _)))).mono ?_
  rintro e w4 ⟨rfl, hg4⟩
  go_wp2_with fail
  go_ret
  exact ⟨by simp [Hf.out], (by repeat (first | with_reducible exact Ext.refl _ _ | with_reducible refine Ext.trans ?_ (by assumption) | with_reducible refine Ext.drew ?_ | with_reducible refine Ext.drewN ?_ _ | with_reducible refine Ext.alloc ?_ _ | with_reducible refine Ext.setNew ?_ (by simp; done) _ | with_reducible refine Ext.setNew ?_ (by simp; omega) _))⟩

end Go.Proofs.Ytchiakeceiefdaa
