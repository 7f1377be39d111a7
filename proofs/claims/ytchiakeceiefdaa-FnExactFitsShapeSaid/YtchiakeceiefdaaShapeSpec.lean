/-
  The walk of spec.validShape.
-/
import Derived.Test.YtchiakeceiefdaaShapeWalk
import Derived.Test.YtchiakeceiefdaaSpecNode
namespace Go.Proofs.Ytchiakeceiefdaa
open Go.RowKit

def VShpOk (x : Shp) : Prop := ∀ (d : Nat) (v : Value) (w : World), d ≤ 5 → ShapeR w any x v →
    Calls Try.prog 57 #[v, .int .i64 (d : Int)] w fun e w' => e = .returned (.bool (shpB x d)) ∧ Grow w w'

set_option maxHeartbeats 8000000 in
theorem validShape_of (x : Shp) (ih : ∀ k ∈ x.kids, VShpOk k) : VShpOk x := by
  intro d v w hd hn
  obtain ⟨na, nc, ba, bc, ka, kc, rfl, hc⟩ := hn
  obtain ⟨hns, hnb, hk1, hk2, hk3⟩ := hc.parts
  have hl1 : x.names.length ≤ 9223372036854775807 := hns.2.1
  have hl2 : x.needs.length ≤ 9223372036854775807 := hnb.2.1
  have hl3 : x.kids.length ≤ 9223372036854775807 := hk2
  have Hns := Lib.hid hns
  have Hk3 := Lib.hid hk3
  have Ih := Lib.hid ih
  clear hc hns hnb hk1 hk2 hk3 ih
  unfold shapeV
  by_cases h0 : d = 0
  · subst h0
    have Hf : Hid (shpB x 0 = false) := Lib.hid (by rw [shpB_eq]; simp)
    go_enter Try.func57, Try.ntmps57
    go_wp2_with fail
    go_ret
    exact ⟨by simp [Hf.out], (by repeat (first | with_reducible exact Ext.refl _ _ | with_reducible refine Ext.trans ?_ (by assumption) | with_reducible refine Ext.drew ?_ | with_reducible refine Ext.drewN ?_ _ | with_reducible refine Ext.alloc ?_ _ | with_reducible refine Ext.setNew ?_ (by simp; done) _ | with_reducible refine Ext.setNew ?_ (by simp; omega) _))⟩
  obtain ⟨d, rfl⟩ : ∃ d', d = d' + 1 := ⟨d - 1, by omega⟩
  obtain ⟨dep, hdep⟩ : ∃ dep : Int, dep = ((d + 1 : Nat) : Int) := ⟨_, rfl⟩
  rw [← hdep]
  have q1 : 1 ≤ dep := by omega
  have q2 : dep ≤ 5 := by omega
  have hb0 : (dep == 0) = false := by rw [ibeq]; simp; omega
  have Hdep := Lib.hid hdep
  clear hdep h0
  have Hf := Lib.hid (shpB_eq x (d + 1))
  cases h1 : inR x.kind 0 4
  · have Hg : Hid (shpB x (d + 1) = false) := Lib.hid (by rw [Hf.out]; simp [shpHead, h1])
    have H1 := Lib.hid h1
    clear h1
    go_enter Try.func57, Try.ntmps57
    go_wp2_with (first | (go_at_call 64; refine (inRange_ok _ _ _ _).mono ?_; rintro e w' ⟨rfl, rfl⟩; simp only [H1.out]) | (go_at_call 111; refine (names_ok na nc x.names _ (Hns.out.grow (by repeat (first | with_reducible exact Ext.refl _ _ | with_reducible refine Ext.trans ?_ (by assumption) | with_reducible refine Ext.drew ?_ | with_reducible refine Ext.drewN ?_ _ | with_reducible refine Ext.alloc ?_ _ | with_reducible refine Ext.setNew ?_ (by simp; done) _ | with_reducible refine Ext.setNew ?_ (by simp; omega) _)))).mono ?_; rintro e w2 ⟨rfl, hg2⟩; simp only [H2.out]; have hcc2 := bcell hg2))
    go_ret
    exact ⟨by simp [Hg.out], (by repeat (first | with_reducible exact Ext.refl _ _ | with_reducible refine Ext.trans ?_ (by assumption) | with_reducible refine Ext.drew ?_ | with_reducible refine Ext.drewN ?_ _ | with_reducible refine Ext.alloc ?_ _ | with_reducible refine Ext.setNew ?_ (by simp; done) _ | with_reducible refine Ext.setNew ?_ (by simp; omega) _))⟩
  cases h2 : namesB x.names
  · have Hg : Hid (shpB x (d + 1) = false) := Lib.hid (by rw [Hf.out]; simp [shpHead, areNamesB, h2])
    have H1 := Lib.hid h1
    have H2 := Lib.hid h2
    clear h1 h2
    go_enter Try.func57, Try.ntmps57
    go_wp2_with (first | (go_at_call 64; refine (inRange_ok _ _ _ _).mono ?_; rintro e w' ⟨rfl, rfl⟩; simp only [H1.out]) | (go_at_call 111; refine (names_ok na nc x.names _ (Hns.out.grow (by repeat (first | with_reducible exact Ext.refl _ _ | with_reducible refine Ext.trans ?_ (by assumption) | with_reducible refine Ext.drew ?_ | with_reducible refine Ext.drewN ?_ _ | with_reducible refine Ext.alloc ?_ _ | with_reducible refine Ext.setNew ?_ (by simp; done) _ | with_reducible refine Ext.setNew ?_ (by simp; omega) _)))).mono ?_; rintro e w2 ⟨rfl, hg2⟩; simp only [H2.out]; have hcc2 := bcell hg2))
    go_ret
    exact ⟨by simp [Hg.out], (by repeat (first | with_reducible exact Ext.refl _ _ | with_reducible refine Ext.trans ?_ (by assumption) | with_reducible refine Ext.drew ?_ | with_reducible refine Ext.drewN ?_ _ | with_reducible refine Ext.alloc ?_ _ | with_reducible refine Ext.setNew ?_ (by simp; done) _ | with_reducible refine Ext.setNew ?_ (by simp; omega) _))⟩
  have H1 := Lib.hid h1
  have H2 := Lib.hid h2
  clear h1 h2
  by_cases h3 : x.kids.length = x.names.length
  rotate_left
  · have Hg : Hid (shpB x (d + 1) = false) := Lib.hid (by rw [Hf.out]; simp [shpHead, h3])
    have b3 : ((x.names.length : Int) != (x.kids.length : Int)) = true := by rw [ibne]; simp; omega
    clear h3
    go_enter Try.func57, Try.ntmps57
    go_wp2_with (first | (go_at_call 64; refine (inRange_ok _ _ _ _).mono ?_; rintro e w' ⟨rfl, rfl⟩; simp only [H1.out]) | (go_at_call 111; refine (names_ok na nc x.names _ (Hns.out.grow (by repeat (first | with_reducible exact Ext.refl _ _ | with_reducible refine Ext.trans ?_ (by assumption) | with_reducible refine Ext.drew ?_ | with_reducible refine Ext.drewN ?_ _ | with_reducible refine Ext.alloc ?_ _ | with_reducible refine Ext.setNew ?_ (by simp; done) _ | with_reducible refine Ext.setNew ?_ (by simp; omega) _)))).mono ?_; rintro e w2 ⟨rfl, hg2⟩; simp only [H2.out]; have hcc2 := bcell hg2))
    go_ret
    exact ⟨by simp [Hg.out], (by repeat (first | with_reducible exact Ext.refl _ _ | with_reducible refine Ext.trans ?_ (by assumption) | with_reducible refine Ext.drew ?_ | with_reducible refine Ext.drewN ?_ _ | with_reducible refine Ext.alloc ?_ _ | with_reducible refine Ext.setNew ?_ (by simp; done) _ | with_reducible refine Ext.setNew ?_ (by simp; omega) _))⟩
  have b3 : ((x.names.length : Int) != (x.kids.length : Int)) = false := by rw [ibne]; simp; omega
  by_cases h4 : x.needs.length = x.names.length
  rotate_left
  · have Hg : Hid (shpB x (d + 1) = false) := Lib.hid (by rw [Hf.out]; simp [shpHead, h4])
    have b4 : ((x.needs.length : Int) != (x.names.length : Int)) = true := by rw [ibne]; simp; omega
    clear h3 h4
    go_enter Try.func57, Try.ntmps57
    go_wp2_with (first | (go_at_call 64; refine (inRange_ok _ _ _ _).mono ?_; rintro e w' ⟨rfl, rfl⟩; simp only [H1.out]) | (go_at_call 111; refine (names_ok na nc x.names _ (Hns.out.grow (by repeat (first | with_reducible exact Ext.refl _ _ | with_reducible refine Ext.trans ?_ (by assumption) | with_reducible refine Ext.drew ?_ | with_reducible refine Ext.drewN ?_ _ | with_reducible refine Ext.alloc ?_ _ | with_reducible refine Ext.setNew ?_ (by simp; done) _ | with_reducible refine Ext.setNew ?_ (by simp; omega) _)))).mono ?_; rintro e w2 ⟨rfl, hg2⟩; simp only [H2.out]; have hcc2 := bcell hg2))
    go_ret
    exact ⟨by simp [Hg.out], (by repeat (first | with_reducible exact Ext.refl _ _ | with_reducible refine Ext.trans ?_ (by assumption) | with_reducible refine Ext.drew ?_ | with_reducible refine Ext.drewN ?_ _ | with_reducible refine Ext.alloc ?_ _ | with_reducible refine Ext.setNew ?_ (by simp; done) _ | with_reducible refine Ext.setNew ?_ (by simp; omega) _))⟩
  have b4 : ((x.needs.length : Int) != (x.names.length : Int)) = false := by rw [ibne]; simp; omega
  by_cases h5 : 6 < x.kids.length
  · have Hg : Hid (shpB x (d + 1) = false) := Lib.hid (by
      have : ¬ x.names.length ≤ 6 := by omega
      rw [Hf.out]; simp [shpHead, areNamesB, this])
    clear h3 h4
    go_enter Try.func57, Try.ntmps57
    go_wp2_with (first | (go_at_call 64; refine (inRange_ok _ _ _ _).mono ?_; rintro e w' ⟨rfl, rfl⟩; simp only [H1.out]) | (go_at_call 111; refine (names_ok na nc x.names _ (Hns.out.grow (by repeat (first | with_reducible exact Ext.refl _ _ | with_reducible refine Ext.trans ?_ (by assumption) | with_reducible refine Ext.drew ?_ | with_reducible refine Ext.drewN ?_ _ | with_reducible refine Ext.alloc ?_ _ | with_reducible refine Ext.setNew ?_ (by simp; done) _ | with_reducible refine Ext.setNew ?_ (by simp; omega) _)))).mono ?_; rintro e w2 ⟨rfl, hg2⟩; simp only [H2.out]; have hcc2 := bcell hg2))
    go_ret
    exact ⟨by simp [Hg.out], (by repeat (first | with_reducible exact Ext.refl _ _ | with_reducible refine Ext.trans ?_ (by assumption) | with_reducible refine Ext.drew ?_ | with_reducible refine Ext.drewN ?_ _ | with_reducible refine Ext.alloc ?_ _ | with_reducible refine Ext.setNew ?_ (by simp; done) _ | with_reducible refine Ext.setNew ?_ (by simp; omega) _))⟩
  have h5 : x.kids.length ≤ 6 := by omega
  by_cases h6 : 0 < x.names.length ∧ ¬ x.kind = 4
  · have Hg : Hid (shpB x (d + 1) = false) := Lib.hid (by rw [Hf.out]; simp [shpHead, h6])
    have b6 : (x.kind != 4) = true := by simpa using h6.2
    have b7 : 0 < (x.names.length : Int) := by omega
    clear h3 h4 h6
    go_enter Try.func57, Try.ntmps57
    go_wp2_with (first | (go_at_call 64; refine (inRange_ok _ _ _ _).mono ?_; rintro e w' ⟨rfl, rfl⟩; simp only [H1.out]) | (go_at_call 111; refine (names_ok na nc x.names _ (Hns.out.grow (by repeat (first | with_reducible exact Ext.refl _ _ | with_reducible refine Ext.trans ?_ (by assumption) | with_reducible refine Ext.drew ?_ | with_reducible refine Ext.drewN ?_ _ | with_reducible refine Ext.alloc ?_ _ | with_reducible refine Ext.setNew ?_ (by simp; done) _ | with_reducible refine Ext.setNew ?_ (by simp; omega) _)))).mono ?_; rintro e w2 ⟨rfl, hg2⟩; simp only [H2.out]; have hcc2 := bcell hg2))
    go_ret
    exact ⟨by simp [Hg.out], (by repeat (first | with_reducible exact Ext.refl _ _ | with_reducible refine Ext.trans ?_ (by assumption) | with_reducible refine Ext.drew ?_ | with_reducible refine Ext.drewN ?_ _ | with_reducible refine Ext.alloc ?_ _ | with_reducible refine Ext.setNew ?_ (by simp; done) _ | with_reducible refine Ext.setNew ?_ (by simp; omega) _))⟩
  have Hg : Hid (shpB x (d + 1) = shpL x.kids d) := Lib.hid (by
      have h7 : x.names.length ≤ 6 := by omega
      have h8 : (decide (0 < x.names.length) && !decide (x.kind = 4)) = false := by
        by_cases h9 : 0 < x.names.length
        · have : x.kind = 4 := by by_cases h10 : x.kind = 4 <;> simp_all
          simp [this]
        · simp [h9]
      rw [Hf.out]; simp only [shpHead, H1.out, areNamesB, H2.out, h3, h4, h7]; simp [h8])
  clear h3 h4
  by_cases b6 : x.kind = 4
  · have b8 : (x.kind != 4) = false := by simp [b6]
    clear h6 b6
    go_enter Try.func57, Try.ntmps57
    go_wp2_with (first | (go_at_call 64; refine (inRange_ok _ _ _ _).mono ?_; rintro e w' ⟨rfl, rfl⟩; simp only [H1.out]) | (go_at_call 111; refine (names_ok na nc x.names _ (Hns.out.grow (by repeat (first | with_reducible exact Ext.refl _ _ | with_reducible refine Ext.trans ?_ (by assumption) | with_reducible refine Ext.drew ?_ | with_reducible refine Ext.drewN ?_ _ | with_reducible refine Ext.alloc ?_ _ | with_reducible refine Ext.setNew ?_ (by simp; done) _ | with_reducible refine Ext.setNew ?_ (by simp; omega) _)))).mono ?_; rintro e w2 ⟨rfl, hg2⟩; simp only [H2.out]; have hcc2 := bcell hg2))
    clear hcc2
    go_loopw [4, 5] (fun t4 i wr => t4 = .bool false ∧ Grow (w.alloc (.cells #[.int .i64 x.kind, .slice na x.names.length nc, .slice ba x.needs.length bc, .slice ka x.kids.length kc] 27)) wr ∧ ∃ k : Nat, k ≤ x.kids.length ∧ i = .int .i64 k ∧ shpL x.kids d = shpL (x.kids.drop k) d) (fun _ i _ => x.kids.length - (intOf i).toNat)
    case atStart => exact ⟨rfl, hg2, 0, Nat.zero_le _, rfl, rfl⟩
    case round =>
      obtain ⟨rfl, hgr, k, hk, rfl, hs⟩ := hrel
      have Hs := Lib.hid hs
      have hcc := bcell hgr
      have hg0 : Grow w wr := ((Ext.refl _ _).alloc _).trans hgr
      clear hs hg2
      by_cases hlt : k < x.kids.length
      · rcases Hk3.out with hks | ⟨bk, ok, rfl, _, hkr⟩
        · simp [hks] at hlt
        obtain ⟨na', nc', ba', bc', ka', kc', c0, c1, c2, c3, hkc⟩ := (hkr.ext hg0 (fun _ _ h => h) (fun h => h)).get k hlt
        have Hkc : Hid (ShapeR wr any x.kids[k] (shapeV x.kids[k] na' nc' ba' bc' ka' kc')) := Lib.hid ⟨_, _, _, _, _, _, rfl, hkc⟩
        clear hkr hkc
        have e1 : Hid (dep - 1 = (d : Int)) := Lib.hid (by have := Hdep.out; omega)
        cases hsk : shpB x.kids[k] d
        · have Hsk := Lib.hid hsk
          have Hff := Lib.hid (shpL_get hlt hsk)
          clear hsk
          go_wp2_with (go_at_call 57; rw [e1.out]; refine (Ih.out _ (List.getElem_mem hlt) d _ _ (by omega) (Hkc.out.grow (by repeat (first | with_reducible exact Ext.refl _ _ | with_reducible refine Ext.trans ?_ (by assumption) | with_reducible refine Ext.drew ?_ | with_reducible refine Ext.drewN ?_ _ | with_reducible refine Ext.alloc ?_ _ | with_reducible refine Ext.setNew ?_ (by simp; done) _ | with_reducible refine Ext.setNew ?_ (by simp; omega) _)))).mono ?_; rintro e w3 ⟨rfl, hg3⟩; simp only [Hsk.out])
          go_ret
          exact ⟨by simp [Hg.out, Hff.out], (by repeat (first | with_reducible exact Ext.refl _ _ | with_reducible refine Ext.trans ?_ (by assumption) | with_reducible refine Ext.drew ?_ | with_reducible refine Ext.drewN ?_ _ | with_reducible refine Ext.alloc ?_ _ | with_reducible refine Ext.setNew ?_ (by simp; done) _ | with_reducible refine Ext.setNew ?_ (by simp; omega) _))⟩
        · have Hsk := Lib.hid hsk
          clear hsk
          go_wp2_with (go_at_call 57; rw [e1.out]; refine (Ih.out _ (List.getElem_mem hlt) d _ _ (by omega) (Hkc.out.grow (by repeat (first | with_reducible exact Ext.refl _ _ | with_reducible refine Ext.trans ?_ (by assumption) | with_reducible refine Ext.drew ?_ | with_reducible refine Ext.drewN ?_ _ | with_reducible refine Ext.alloc ?_ _ | with_reducible refine Ext.setNew ?_ (by simp; done) _ | with_reducible refine Ext.setNew ?_ (by simp; omega) _)))).mono ?_; rintro e w3 ⟨rfl, hg3⟩; simp only [Hsk.out])
          go_roundw
          case rel => exact ⟨rfl, (by repeat (first | with_reducible exact Ext.refl _ _ | with_reducible refine Ext.trans ?_ (by assumption) | with_reducible refine Ext.drew ?_ | with_reducible refine Ext.drewN ?_ _ | with_reducible refine Ext.alloc ?_ _ | with_reducible refine Ext.setNew ?_ (by simp; done) _ | with_reducible refine Ext.setNew ?_ (by simp; omega) _)), k + 1, by omega, by go_num, by rw [Hs.out, drop_cons _ _ hlt, shpL, Hsk.out]; rfl⟩
          case measure => simp [intOf]; omega
      · go_wp2
        go_ret
        exact ⟨by simp [Hg.out, Hs.out, List.drop_eq_nil_of_le (Nat.le_of_not_lt hlt), shpL], hg0⟩
  · have h6 : x.names.length = 0 := by omega
    have b7 : ¬ 0 < (x.names.length : Int) := by omega
    have b8 : (x.kind != 4) = true := by simpa using b6
    clear h6 b6
    go_enter Try.func57, Try.ntmps57
    go_wp2_with (first | (go_at_call 64; refine (inRange_ok _ _ _ _).mono ?_; rintro e w' ⟨rfl, rfl⟩; simp only [H1.out]) | (go_at_call 111; refine (names_ok na nc x.names _ (Hns.out.grow (by repeat (first | with_reducible exact Ext.refl _ _ | with_reducible refine Ext.trans ?_ (by assumption) | with_reducible refine Ext.drew ?_ | with_reducible refine Ext.drewN ?_ _ | with_reducible refine Ext.alloc ?_ _ | with_reducible refine Ext.setNew ?_ (by simp; done) _ | with_reducible refine Ext.setNew ?_ (by simp; omega) _)))).mono ?_; rintro e w2 ⟨rfl, hg2⟩; simp only [H2.out]; have hcc2 := bcell hg2))
    clear hcc2
    go_loopw [4, 5] (fun t4 i wr => t4 = .bool false ∧ Grow (w.alloc (.cells #[.int .i64 x.kind, .slice na x.names.length nc, .slice ba x.needs.length bc, .slice ka x.kids.length kc] 27)) wr ∧ ∃ k : Nat, k ≤ x.kids.length ∧ i = .int .i64 k ∧ shpL x.kids d = shpL (x.kids.drop k) d) (fun _ i _ => x.kids.length - (intOf i).toNat)
    case atStart => exact ⟨rfl, hg2, 0, Nat.zero_le _, rfl, rfl⟩
    case round =>
      obtain ⟨rfl, hgr, k, hk, rfl, hs⟩ := hrel
      have Hs := Lib.hid hs
      have hcc := bcell hgr
      have hg0 : Grow w wr := ((Ext.refl _ _).alloc _).trans hgr
      clear hs hg2
      by_cases hlt : k < x.kids.length
      · rcases Hk3.out with hks | ⟨bk, ok, rfl, _, hkr⟩
        · simp [hks] at hlt
        obtain ⟨na', nc', ba', bc', ka', kc', c0, c1, c2, c3, hkc⟩ := (hkr.ext hg0 (fun _ _ h => h) (fun h => h)).get k hlt
        have Hkc : Hid (ShapeR wr any x.kids[k] (shapeV x.kids[k] na' nc' ba' bc' ka' kc')) := Lib.hid ⟨_, _, _, _, _, _, rfl, hkc⟩
        clear hkr hkc
        have e1 : Hid (dep - 1 = (d : Int)) := Lib.hid (by have := Hdep.out; omega)
        cases hsk : shpB x.kids[k] d
        · have Hsk := Lib.hid hsk
          have Hff := Lib.hid (shpL_get hlt hsk)
          clear hsk
          go_wp2_with (go_at_call 57; rw [e1.out]; refine (Ih.out _ (List.getElem_mem hlt) d _ _ (by omega) (Hkc.out.grow (by repeat (first | with_reducible exact Ext.refl _ _ | with_reducible refine Ext.trans ?_ (by assumption) | with_reducible refine Ext.drew ?_ | with_reducible refine Ext.drewN ?_ _ | with_reducible refine Ext.alloc ?_ _ | with_reducible refine Ext.setNew ?_ (by simp; done) _ | with_reducible refine Ext.setNew ?_ (by simp; omega) _)))).mono ?_; rintro e w3 ⟨rfl, hg3⟩; simp only [Hsk.out])
          go_ret
          exact ⟨by simp [Hg.out, Hff.out], (by repeat (first | with_reducible exact Ext.refl _ _ | with_reducible refine Ext.trans ?_ (by assumption) | with_reducible refine Ext.drew ?_ | with_reducible refine Ext.drewN ?_ _ | with_reducible refine Ext.alloc ?_ _ | with_reducible refine Ext.setNew ?_ (by simp; done) _ | with_reducible refine Ext.setNew ?_ (by simp; omega) _))⟩
        · have Hsk := Lib.hid hsk
          clear hsk
          go_wp2_with (go_at_call 57; rw [e1.out]; refine (Ih.out _ (List.getElem_mem hlt) d _ _ (by omega) (Hkc.out.grow (by repeat (first | with_reducible exact Ext.refl _ _ | with_reducible refine Ext.trans ?_ (by assumption) | with_reducible refine Ext.drew ?_ | with_reducible refine Ext.drewN ?_ _ | with_reducible refine Ext.alloc ?_ _ | with_reducible refine Ext.setNew ?_ (by simp; done) _ | with_reducible refine Ext.setNew ?_ (by simp; omega) _)))).mono ?_; rintro e w3 ⟨rfl, hg3⟩; simp only [Hsk.out])
          go_roundw
          case rel => exact ⟨rfl, (by repeat (first | with_reducible exact Ext.refl _ _ | with_reducible refine Ext.trans ?_ (by assumption) | with_reducible refine Ext.drew ?_ | with_reducible refine Ext.drewN ?_ _ | with_reducible refine Ext.alloc ?_ _ | with_reducible refine Ext.setNew ?_ (by simp; done) _ | with_reducible refine Ext.setNew ?_ (by simp; omega) _)), k + 1, by omega, by go_num, by rw [Hs.out, drop_cons _ _ hlt, shpL, Hsk.out]; rfl⟩
          case measure => simp [intOf]; omega
      · go_wp2
        go_ret
        exact ⟨by simp [Hg.out, Hs.out, List.drop_eq_nil_of_le (Nat.le_of_not_lt hlt), shpL], hg0⟩

theorem validShape_ok : ∀ x, VShpOk x := Shp.ind' VShpOk validShape_of

end Go.Proofs.Ytchiakeceiefdaa
