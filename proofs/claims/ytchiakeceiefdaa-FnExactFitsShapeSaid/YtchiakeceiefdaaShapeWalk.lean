/-
  The walk of impl.isShape.
-/
import Derived.Test.YtchiakeceiefdaaShapeValid
namespace Go.Proofs.Ytchiakeceiefdaa
open Go.RowKit

def IsShpOk (x : Shp) : Prop := ∀ (d : Nat) (v : Value) (w : World), d ≤ 5 → ShapeR w any x v →
    Calls Try.prog 60 #[v, .int .i64 ((6 : Int) - d)] w fun e w' => e = .returned (.bool (shpB x d)) ∧ Grow w w'

set_option maxHeartbeats 2000000 in
theorem isShape_zero (x : Shp) (v : Value) (w : World) (hn : ShapeR w any x v) :
    Calls Try.prog 60 #[v, .int .i64 6] w fun e w' => e = .returned (.bool (shpB x 0)) ∧ Grow w w' := by
  obtain ⟨na, nc, ba, bc, ka, kc, rfl, hc⟩ := hn
  have Hf : Hid (shpB x 0 = false) := Lib.hid (by rw [shpB_eq]; simp)
  clear hc
  unfold shapeV
  go_enter Try.func60, Try.ntmps60
  go_wp2_with fail
  go_ret
  exact ⟨by simp [Hf.out], (by repeat (first | with_reducible exact Ext.refl _ _ | with_reducible refine Ext.trans ?_ (by assumption) | with_reducible refine Ext.drew ?_ | with_reducible refine Ext.drewN ?_ _ | with_reducible refine Ext.alloc ?_ _ | with_reducible refine Ext.setNew ?_ (by simp; done) _ | with_reducible refine Ext.setNew ?_ (by simp; omega) _))⟩

theorem inR_cases' (c : Int) : c < 0 ∨ 4 < c ∨ (0 ≤ c ∧ c ≤ 4 ∧ inR c 0 4 = true) := by
  by_cases h1 : c < 0
  · exact .inl h1
  · by_cases h2 : 4 < c
    · exact .inr (.inl h2)
    · exact .inr (.inr ⟨by omega, by omega, by simp [inR]; omega⟩)

set_option maxHeartbeats 4000000 in
theorem isShape_head (x : Shp) (d : Nat) (hd : d ≤ 5) (h0 : 1 ≤ d) (hf : shpHead x = false) (v : Value) (w : World) (hn : ShapeR w any x v) :
    Calls Try.prog 60 #[v, .int .i64 ((6 : Int) - d)] w fun e w' => e = .returned (.bool (shpB x d)) ∧ Grow w w' := by
  obtain ⟨na, nc, ba, bc, ka, kc, rfl, hc⟩ := hn
  obtain ⟨hns, hnb, hk1, hk2, hk3⟩ := hc.parts
  have hl1 : x.names.length ≤ 9223372036854775807 := hns.2.1
  have hl2 : x.needs.length ≤ 9223372036854775807 := hnb.2.1
  have hl3 : x.kids.length ≤ 9223372036854775807 := hk2
  have Hf : Hid (shpB x d = false) := Lib.hid (by rw [shpB_eq, hf]; simp)
  have Hns := Lib.hid hns
  clear hc hns hnb hk1 hk2 hk3
  unfold shapeV
  unfold shpHead at hf
  rcases inR_cases' x.kind with h1 | h1 | ⟨h1, h1', hi⟩
  · clear hf
    go_enter Try.func60, Try.ntmps60
    go_wp2_with fail
    go_ret
    exact ⟨by simp [Hf.out], (by repeat (first | with_reducible exact Ext.refl _ _ | with_reducible refine Ext.trans ?_ (by assumption) | with_reducible refine Ext.drew ?_ | with_reducible refine Ext.drewN ?_ _ | with_reducible refine Ext.alloc ?_ _ | with_reducible refine Ext.setNew ?_ (by simp; done) _ | with_reducible refine Ext.setNew ?_ (by simp; omega) _))⟩
  · clear hf
    go_enter Try.func60, Try.ntmps60
    go_wp2_with fail
    go_ret
    exact ⟨by simp [Hf.out], (by repeat (first | with_reducible exact Ext.refl _ _ | with_reducible refine Ext.trans ?_ (by assumption) | with_reducible refine Ext.drew ?_ | with_reducible refine Ext.drewN ?_ _ | with_reducible refine Ext.alloc ?_ _ | with_reducible refine Ext.setNew ?_ (by simp; done) _ | with_reducible refine Ext.setNew ?_ (by simp; omega) _))⟩
  cases h2 : areNamesB x.names
  · clear hf hi
    go_enter Try.func60, Try.ntmps60
    go_wp2_with (go_at_call 115; refine (areNames_ok na nc x.names _ any (Hns.out.grow (by repeat (first | with_reducible exact Ext.refl _ _ | with_reducible refine Ext.trans ?_ (by assumption) | with_reducible refine Ext.drew ?_ | with_reducible refine Ext.drewN ?_ _ | with_reducible refine Ext.alloc ?_ _ | with_reducible refine Ext.setNew ?_ (by simp; done) _ | with_reducible refine Ext.setNew ?_ (by simp; omega) _)))).mono ?_; rintro e w2 ⟨rfl, hg2⟩; simp only [h2]; have hcc2 := bcell hg2)
    go_ret
    exact ⟨by simp [Hf.out], (by repeat (first | with_reducible exact Ext.refl _ _ | with_reducible refine Ext.trans ?_ (by assumption) | with_reducible refine Ext.drew ?_ | with_reducible refine Ext.drewN ?_ _ | with_reducible refine Ext.alloc ?_ _ | with_reducible refine Ext.setNew ?_ (by simp; done) _ | with_reducible refine Ext.setNew ?_ (by simp; omega) _))⟩
  by_cases h3 : 0 < x.names.length ∧ ¬ x.kind = 4
  · obtain ⟨h3, h4⟩ := h3
    have hb4 : (x.kind != 4) = true := by simpa using h4
    clear hf hi h4
    go_enter Try.func60, Try.ntmps60
    go_wp2_with (go_at_call 115; refine (areNames_ok na nc x.names _ any (Hns.out.grow (by repeat (first | with_reducible exact Ext.refl _ _ | with_reducible refine Ext.trans ?_ (by assumption) | with_reducible refine Ext.drew ?_ | with_reducible refine Ext.drewN ?_ _ | with_reducible refine Ext.alloc ?_ _ | with_reducible refine Ext.setNew ?_ (by simp; done) _ | with_reducible refine Ext.setNew ?_ (by simp; omega) _)))).mono ?_; rintro e w2 ⟨rfl, hg2⟩; simp only [h2]; have hcc2 := bcell hg2)
    go_ret
    exact ⟨by simp [Hf.out], (by repeat (first | with_reducible exact Ext.refl _ _ | with_reducible refine Ext.trans ?_ (by assumption) | with_reducible refine Ext.drew ?_ | with_reducible refine Ext.drewN ?_ _ | with_reducible refine Ext.alloc ?_ _ | with_reducible refine Ext.setNew ?_ (by simp; done) _ | with_reducible refine Ext.setNew ?_ (by simp; omega) _))⟩
  have Hi := Lib.hid hi
  clear hi
  by_cases h5 : x.needs.length = x.names.length
  rotate_left
  · have hb5 : ((x.needs.length : Int) != (x.names.length : Int)) = true := by rw [ibne]; simp; omega
    clear hf h5
    by_cases hz : x.names.length = 0
    · have hz' : ¬ (0 < (x.names.length : Int)) := by omega
      clear h3 hz
      go_enter Try.func60, Try.ntmps60
      go_wp2_with (go_at_call 115; refine (areNames_ok na nc x.names _ any (Hns.out.grow (by repeat (first | with_reducible exact Ext.refl _ _ | with_reducible refine Ext.trans ?_ (by assumption) | with_reducible refine Ext.drew ?_ | with_reducible refine Ext.drewN ?_ _ | with_reducible refine Ext.alloc ?_ _ | with_reducible refine Ext.setNew ?_ (by simp; done) _ | with_reducible refine Ext.setNew ?_ (by simp; omega) _)))).mono ?_; rintro e w2 ⟨rfl, hg2⟩; simp only [h2]; have hcc2 := bcell hg2)
      go_ret
      exact ⟨by simp [Hf.out], (by repeat (first | with_reducible exact Ext.refl _ _ | with_reducible refine Ext.trans ?_ (by assumption) | with_reducible refine Ext.drew ?_ | with_reducible refine Ext.drewN ?_ _ | with_reducible refine Ext.alloc ?_ _ | with_reducible refine Ext.setNew ?_ (by simp; done) _ | with_reducible refine Ext.setNew ?_ (by simp; omega) _))⟩
    · have hz' : 0 < (x.names.length : Int) := by omega
      have hb4 : (x.kind != 4) = false := by simp; omega
      clear h3 hz
      go_enter Try.func60, Try.ntmps60
      go_wp2_with (go_at_call 115; refine (areNames_ok na nc x.names _ any (Hns.out.grow (by repeat (first | with_reducible exact Ext.refl _ _ | with_reducible refine Ext.trans ?_ (by assumption) | with_reducible refine Ext.drew ?_ | with_reducible refine Ext.drewN ?_ _ | with_reducible refine Ext.alloc ?_ _ | with_reducible refine Ext.setNew ?_ (by simp; done) _ | with_reducible refine Ext.setNew ?_ (by simp; omega) _)))).mono ?_; rintro e w2 ⟨rfl, hg2⟩; simp only [h2]; have hcc2 := bcell hg2)
      go_ret
      exact ⟨by simp [Hf.out], (by repeat (first | with_reducible exact Ext.refl _ _ | with_reducible refine Ext.trans ?_ (by assumption) | with_reducible refine Ext.drew ?_ | with_reducible refine Ext.drewN ?_ _ | with_reducible refine Ext.alloc ?_ _ | with_reducible refine Ext.setNew ?_ (by simp; done) _ | with_reducible refine Ext.setNew ?_ (by simp; omega) _))⟩
  have h6 : ¬ x.kids.length = x.names.length := by
    intro h6
    rw [Hi.out, h2] at hf
    by_cases hz : x.names.length = 0
    · simp [hz, h5, h6] at hf
    · have : x.kind = 4 := by omega
      simp [this, h5, h6] at hf
  have hb5 : ((x.needs.length : Int) != (x.names.length : Int)) = false := by simp [h5]
  have hb6 : ((x.kids.length : Int) != (x.names.length : Int)) = true := by rw [ibne]; simp; omega
  clear hf h5 h6
  by_cases hz : x.names.length = 0
  · have hz' : ¬ (0 < (x.names.length : Int)) := by omega
    clear h3 hz
    go_enter Try.func60, Try.ntmps60
    go_wp2_with (go_at_call 115; refine (areNames_ok na nc x.names _ any (Hns.out.grow (by repeat (first | with_reducible exact Ext.refl _ _ | with_reducible refine Ext.trans ?_ (by assumption) | with_reducible refine Ext.drew ?_ | with_reducible refine Ext.drewN ?_ _ | with_reducible refine Ext.alloc ?_ _ | with_reducible refine Ext.setNew ?_ (by simp; done) _ | with_reducible refine Ext.setNew ?_ (by simp; omega) _)))).mono ?_; rintro e w2 ⟨rfl, hg2⟩; simp only [h2]; have hcc2 := bcell hg2)
    go_ret
    exact ⟨by simp [Hf.out], (by repeat (first | with_reducible exact Ext.refl _ _ | with_reducible refine Ext.trans ?_ (by assumption) | with_reducible refine Ext.drew ?_ | with_reducible refine Ext.drewN ?_ _ | with_reducible refine Ext.alloc ?_ _ | with_reducible refine Ext.setNew ?_ (by simp; done) _ | with_reducible refine Ext.setNew ?_ (by simp; omega) _))⟩
  · have hz' : 0 < (x.names.length : Int) := by omega
    have hb4 : (x.kind != 4) = false := by simp; omega
    clear h3 hz
    go_enter Try.func60, Try.ntmps60
    go_wp2_with (go_at_call 115; refine (areNames_ok na nc x.names _ any (Hns.out.grow (by repeat (first | with_reducible exact Ext.refl _ _ | with_reducible refine Ext.trans ?_ (by assumption) | with_reducible refine Ext.drew ?_ | with_reducible refine Ext.drewN ?_ _ | with_reducible refine Ext.alloc ?_ _ | with_reducible refine Ext.setNew ?_ (by simp; done) _ | with_reducible refine Ext.setNew ?_ (by simp; omega) _)))).mono ?_; rintro e w2 ⟨rfl, hg2⟩; simp only [h2]; have hcc2 := bcell hg2)
    go_ret
    exact ⟨by simp [Hf.out], (by repeat (first | with_reducible exact Ext.refl _ _ | with_reducible refine Ext.trans ?_ (by assumption) | with_reducible refine Ext.drew ?_ | with_reducible refine Ext.drewN ?_ _ | with_reducible refine Ext.alloc ?_ _ | with_reducible refine Ext.setNew ?_ (by simp; done) _ | with_reducible refine Ext.setNew ?_ (by simp; omega) _))⟩


theorem shpHead_parts {x : Shp} (h : shpHead x = true) : 0 ≤ x.kind ∧ x.kind ≤ 4 ∧ areNamesB x.names = true ∧ x.needs.length = x.names.length ∧ x.kids.length = x.names.length ∧ (x.names.length = 0 ∨ x.kind = 4) := by
  unfold shpHead inR at h
  simp only [Bool.and_eq_true, decide_eq_true_eq, Bool.not_eq_true', Bool.and_eq_false_iff, decide_eq_false_iff_not] at h
  obtain ⟨⟨⟨⟨⟨h1, h1'⟩, h2⟩, h3⟩, h4⟩, h5⟩ := h
  refine ⟨h1, h1', h2, h4, h5, ?_⟩
  rcases h3 with h3 | h3
  · left; omega
  · right; omega

theorem shpL_get {l : List Shp} {d : Nat} {k : Nat} (hk : k < l.length) (h : shpB l[k] d = false) : shpL l d = false := by
  rw [shpL_all, List.all_eq_false]
  exact ⟨l[k], List.getElem_mem hk, by simp [h]⟩

set_option maxHeartbeats 4000000 in
theorem isShape_loop (x : Shp) (ih : ∀ k ∈ x.kids, IsShpOk k) (d : Nat) (hd : d + 1 ≤ 5) (hf : shpHead x = true) (v : Value) (w : World) (hn : ShapeR w any x v) :
    Calls Try.prog 60 #[v, .int .i64 ((6 : Int) - ((d + 1 : Nat) : Int))] w fun e w' => e = .returned (.bool (shpB x (d + 1))) ∧ Grow w w' := by
  obtain ⟨na, nc, ba, bc, ka, kc, rfl, hc⟩ := hn
  obtain ⟨hns, hnb, hk1, hk2, hk3⟩ := hc.parts
  have hl1 : x.names.length ≤ 9223372036854775807 := hns.2.1
  have hl2 : x.needs.length ≤ 9223372036854775807 := hnb.2.1
  have hl3 : x.kids.length ≤ 9223372036854775807 := hk2
  have Hf : Hid (shpB x (d + 1) = shpL x.kids d) := Lib.hid (by rw [shpB_eq, hf]; simp)
  have Hns := Lib.hid hns
  have Hk3 := Lib.hid hk3
  have Ih := Lib.hid ih
  obtain ⟨p1, p2, h2, p4, p5, p6⟩ := shpHead_parts hf
  have hb5 : ((x.needs.length : Int) != (x.names.length : Int)) = false := by simp [p4]
  have hb6 : ((x.kids.length : Int) != (x.names.length : Int)) = false := by simp [p5]
  obtain ⟨lev, hlev⟩ : ∃ lev : Int, lev = (6 : Int) - ((d + 1 : Nat) : Int) := ⟨_, rfl⟩
  rw [← hlev]
  have q1 : 1 ≤ lev := by omega
  have q2 : lev ≤ 5 := by omega
  have Hlev := Lib.hid hlev
  have H2 := Lib.hid h2
  clear hc hns hnb hk1 hk2 hk3 hf ih p4 p5 h2 hlev
  unfold shapeV
  rcases p6 with p6 | p6
  · have hz : ¬ (0 < (x.names.length : Int)) := by omega
    clear p6
    go_enter Try.func60, Try.ntmps60
    go_wp2_with (go_at_call 115; refine (areNames_ok na nc x.names _ any (Hns.out.grow (by repeat (first | with_reducible exact Ext.refl _ _ | with_reducible refine Ext.trans ?_ (by assumption) | with_reducible refine Ext.drew ?_ | with_reducible refine Ext.drewN ?_ _ | with_reducible refine Ext.alloc ?_ _ | with_reducible refine Ext.setNew ?_ (by simp; done) _ | with_reducible refine Ext.setNew ?_ (by simp; omega) _)))).mono ?_; rintro e w2 ⟨rfl, hg2⟩; simp only [H2.out]; have hcc2 := bcell hg2)
    (have hg0 : Grow w w2 := (by repeat (first | with_reducible exact Ext.refl _ _ | with_reducible refine Ext.trans ?_ (by assumption) | with_reducible refine Ext.drew ?_ | with_reducible refine Ext.drewN ?_ _ | with_reducible refine Ext.alloc ?_ _ | with_reducible refine Ext.setNew ?_ (by simp; done) _ | with_reducible refine Ext.setNew ?_ (by simp; omega) _))
     clear hg2 hcc2
     go_loopw [4, 53] (fun t4 i wr => t4 = .bool false ∧ Grow w wr ∧ ∃ k : Nat, k ≤ x.kids.length ∧ i = .int .i64 k ∧ shpL x.kids d = shpL (x.kids.drop k) d) (fun _ i _ => x.kids.length - (intOf i).toNat)
     case atStart => exact ⟨rfl, hg0, 0, Nat.zero_le _, rfl, rfl⟩
     case round =>
       obtain ⟨rfl, hgr, k, hk, rfl, hs⟩ := hrel
       have Hs := Lib.hid hs
       clear hs
       by_cases hlt : k < x.kids.length
       · rcases Hk3.out with hks | ⟨bk, ok, rfl, _, hkr⟩
         · simp [hks] at hlt
         obtain ⟨na', nc', ba', bc', ka', kc', c0, c1, c2, c3, hkc⟩ := (hkr.ext hgr (fun _ _ h => h) (fun h => h)).get k hlt
         have Hkc : Hid (ShapeR wr any x.kids[k] (shapeV x.kids[k] na' nc' ba' bc' ka' kc')) := Lib.hid ⟨_, _, _, _, _, _, rfl, hkc⟩
         clear hkr hkc
         cases hsk : shpB x.kids[k] d
         · have Hsk := Lib.hid hsk
           have Hff := Lib.hid (shpL_get hlt hsk)
           clear hsk
           have e1 : Hid (lev + 1 = (6 : Int) - (d : Int)) := Lib.hid (by have := Hlev.out; omega)
           go_wp2_with (go_at_call 60; rw [e1.out]; refine (Ih.out _ (List.getElem_mem hlt) d _ _ (by omega) (Hkc.out.grow (by repeat (first | with_reducible exact Ext.refl _ _ | with_reducible refine Ext.trans ?_ (by assumption) | with_reducible refine Ext.drew ?_ | with_reducible refine Ext.drewN ?_ _ | with_reducible refine Ext.alloc ?_ _ | with_reducible refine Ext.setNew ?_ (by simp; done) _ | with_reducible refine Ext.setNew ?_ (by simp; omega) _)))).mono ?_; rintro e w3 ⟨rfl, hg3⟩; simp only [Hsk.out])
           go_ret
           exact ⟨by simp [Hf.out, Hff.out], (by repeat (first | with_reducible exact Ext.refl _ _ | with_reducible refine Ext.trans ?_ (by assumption) | with_reducible refine Ext.drew ?_ | with_reducible refine Ext.drewN ?_ _ | with_reducible refine Ext.alloc ?_ _ | with_reducible refine Ext.setNew ?_ (by simp; done) _ | with_reducible refine Ext.setNew ?_ (by simp; omega) _))⟩
         · have Hsk := Lib.hid hsk
           clear hsk
           have e1 : Hid (lev + 1 = (6 : Int) - (d : Int)) := Lib.hid (by have := Hlev.out; omega)
           go_wp2_with (go_at_call 60; rw [e1.out]; refine (Ih.out _ (List.getElem_mem hlt) d _ _ (by omega) (Hkc.out.grow (by repeat (first | with_reducible exact Ext.refl _ _ | with_reducible refine Ext.trans ?_ (by assumption) | with_reducible refine Ext.drew ?_ | with_reducible refine Ext.drewN ?_ _ | with_reducible refine Ext.alloc ?_ _ | with_reducible refine Ext.setNew ?_ (by simp; done) _ | with_reducible refine Ext.setNew ?_ (by simp; omega) _)))).mono ?_; rintro e w3 ⟨rfl, hg3⟩; simp only [Hsk.out])
           go_roundw
           case rel => exact ⟨rfl, (by repeat (first | with_reducible exact Ext.refl _ _ | with_reducible refine Ext.trans ?_ (by assumption) | with_reducible refine Ext.drew ?_ | with_reducible refine Ext.drewN ?_ _ | with_reducible refine Ext.alloc ?_ _ | with_reducible refine Ext.setNew ?_ (by simp; done) _ | with_reducible refine Ext.setNew ?_ (by simp; omega) _)), k + 1, by omega, by go_num, by rw [Hs.out, drop_cons _ _ hlt, shpL, Hsk.out]; rfl⟩
           case measure => simp [intOf]; omega
       · go_wp2
         go_ret
         exact ⟨by simp [Hf.out, Hs.out, List.drop_eq_nil_of_le (Nat.le_of_not_lt hlt), shpL], hgr⟩)
  · have hb4 : (x.kind != 4) = false := by simp [p6]
    clear p6
    by_cases hz : 0 < (x.names.length : Int)
    · go_enter Try.func60, Try.ntmps60
      go_wp2_with (go_at_call 115; refine (areNames_ok na nc x.names _ any (Hns.out.grow (by repeat (first | with_reducible exact Ext.refl _ _ | with_reducible refine Ext.trans ?_ (by assumption) | with_reducible refine Ext.drew ?_ | with_reducible refine Ext.drewN ?_ _ | with_reducible refine Ext.alloc ?_ _ | with_reducible refine Ext.setNew ?_ (by simp; done) _ | with_reducible refine Ext.setNew ?_ (by simp; omega) _)))).mono ?_; rintro e w2 ⟨rfl, hg2⟩; simp only [H2.out]; have hcc2 := bcell hg2)
      (have hg0 : Grow w w2 := (by repeat (first | with_reducible exact Ext.refl _ _ | with_reducible refine Ext.trans ?_ (by assumption) | with_reducible refine Ext.drew ?_ | with_reducible refine Ext.drewN ?_ _ | with_reducible refine Ext.alloc ?_ _ | with_reducible refine Ext.setNew ?_ (by simp; done) _ | with_reducible refine Ext.setNew ?_ (by simp; omega) _))
       clear hg2 hcc2
       go_loopw [4, 53] (fun t4 i wr => t4 = .bool false ∧ Grow w wr ∧ ∃ k : Nat, k ≤ x.kids.length ∧ i = .int .i64 k ∧ shpL x.kids d = shpL (x.kids.drop k) d) (fun _ i _ => x.kids.length - (intOf i).toNat)
       case atStart => exact ⟨rfl, hg0, 0, Nat.zero_le _, rfl, rfl⟩
       case round =>
         obtain ⟨rfl, hgr, k, hk, rfl, hs⟩ := hrel
         have Hs := Lib.hid hs
         clear hs
         by_cases hlt : k < x.kids.length
         · rcases Hk3.out with hks | ⟨bk, ok, rfl, _, hkr⟩
           · simp [hks] at hlt
           obtain ⟨na', nc', ba', bc', ka', kc', c0, c1, c2, c3, hkc⟩ := (hkr.ext hgr (fun _ _ h => h) (fun h => h)).get k hlt
           have Hkc : Hid (ShapeR wr any x.kids[k] (shapeV x.kids[k] na' nc' ba' bc' ka' kc')) := Lib.hid ⟨_, _, _, _, _, _, rfl, hkc⟩
           clear hkr hkc
           cases hsk : shpB x.kids[k] d
           · have Hsk := Lib.hid hsk
             have Hff := Lib.hid (shpL_get hlt hsk)
             clear hsk
             have e1 : Hid (lev + 1 = (6 : Int) - (d : Int)) := Lib.hid (by have := Hlev.out; omega)
             go_wp2_with (go_at_call 60; rw [e1.out]; refine (Ih.out _ (List.getElem_mem hlt) d _ _ (by omega) (Hkc.out.grow (by repeat (first | with_reducible exact Ext.refl _ _ | with_reducible refine Ext.trans ?_ (by assumption) | with_reducible refine Ext.drew ?_ | with_reducible refine Ext.drewN ?_ _ | with_reducible refine Ext.alloc ?_ _ | with_reducible refine Ext.setNew ?_ (by simp; done) _ | with_reducible refine Ext.setNew ?_ (by simp; omega) _)))).mono ?_; rintro e w3 ⟨rfl, hg3⟩; simp only [Hsk.out])
             go_ret
             exact ⟨by simp [Hf.out, Hff.out], (by repeat (first | with_reducible exact Ext.refl _ _ | with_reducible refine Ext.trans ?_ (by assumption) | with_reducible refine Ext.drew ?_ | with_reducible refine Ext.drewN ?_ _ | with_reducible refine Ext.alloc ?_ _ | with_reducible refine Ext.setNew ?_ (by simp; done) _ | with_reducible refine Ext.setNew ?_ (by simp; omega) _))⟩
           · have Hsk := Lib.hid hsk
             clear hsk
             have e1 : Hid (lev + 1 = (6 : Int) - (d : Int)) := Lib.hid (by have := Hlev.out; omega)
             go_wp2_with (go_at_call 60; rw [e1.out]; refine (Ih.out _ (List.getElem_mem hlt) d _ _ (by omega) (Hkc.out.grow (by repeat (first | with_reducible exact Ext.refl _ _ | with_reducible refine Ext.trans ?_ (by assumption) | with_reducible refine Ext.drew ?_ | with_reducible refine Ext.drewN ?_ _ | with_reducible refine Ext.alloc ?_ _ | with_reducible refine Ext.setNew ?_ (by simp; done) _ | with_reducible refine Ext.setNew ?_ (by simp; omega) _)))).mono ?_; rintro e w3 ⟨rfl, hg3⟩; simp only [Hsk.out])
             go_roundw
             case rel => exact ⟨rfl, (by repeat (first | with_reducible exact Ext.refl _ _ | with_reducible refine Ext.trans ?_ (by assumption) | with_reducible refine Ext.drew ?_ | with_reducible refine Ext.drewN ?_ _ | with_reducible refine Ext.alloc ?_ _ | with_reducible refine Ext.setNew ?_ (by simp; done) _ | with_reducible refine Ext.setNew ?_ (by simp; omega) _)), k + 1, by omega, by go_num, by rw [Hs.out, drop_cons _ _ hlt, shpL, Hsk.out]; rfl⟩
             case measure => simp [intOf]; omega
         · go_wp2
           go_ret
           exact ⟨by simp [Hf.out, Hs.out, List.drop_eq_nil_of_le (Nat.le_of_not_lt hlt), shpL], hgr⟩)
    · go_enter Try.func60, Try.ntmps60
      go_wp2_with (go_at_call 115; refine (areNames_ok na nc x.names _ any (Hns.out.grow (by repeat (first | with_reducible exact Ext.refl _ _ | with_reducible refine Ext.trans ?_ (by assumption) | with_reducible refine Ext.drew ?_ | with_reducible refine Ext.drewN ?_ _ | with_reducible refine Ext.alloc ?_ _ | with_reducible refine Ext.setNew ?_ (by simp; done) _ | with_reducible refine Ext.setNew ?_ (by simp; omega) _)))).mono ?_; rintro e w2 ⟨rfl, hg2⟩; simp only [H2.out]; have hcc2 := bcell hg2)
      (have hg0 : Grow w w2 := (by repeat (first | with_reducible exact Ext.refl _ _ | with_reducible refine Ext.trans ?_ (by assumption) | with_reducible refine Ext.drew ?_ | with_reducible refine Ext.drewN ?_ _ | with_reducible refine Ext.alloc ?_ _ | with_reducible refine Ext.setNew ?_ (by simp; done) _ | with_reducible refine Ext.setNew ?_ (by simp; omega) _))
       clear hg2 hcc2
       go_loopw [4, 53] (fun t4 i wr => t4 = .bool false ∧ Grow w wr ∧ ∃ k : Nat, k ≤ x.kids.length ∧ i = .int .i64 k ∧ shpL x.kids d = shpL (x.kids.drop k) d) (fun _ i _ => x.kids.length - (intOf i).toNat)
       case atStart => exact ⟨rfl, hg0, 0, Nat.zero_le _, rfl, rfl⟩
       case round =>
         obtain ⟨rfl, hgr, k, hk, rfl, hs⟩ := hrel
         have Hs := Lib.hid hs
         clear hs
         by_cases hlt : k < x.kids.length
         · rcases Hk3.out with hks | ⟨bk, ok, rfl, _, hkr⟩
           · simp [hks] at hlt
           obtain ⟨na', nc', ba', bc', ka', kc', c0, c1, c2, c3, hkc⟩ := (hkr.ext hgr (fun _ _ h => h) (fun h => h)).get k hlt
           have Hkc : Hid (ShapeR wr any x.kids[k] (shapeV x.kids[k] na' nc' ba' bc' ka' kc')) := Lib.hid ⟨_, _, _, _, _, _, rfl, hkc⟩
           clear hkr hkc
           cases hsk : shpB x.kids[k] d
           · have Hsk := Lib.hid hsk
             have Hff := Lib.hid (shpL_get hlt hsk)
             clear hsk
             have e1 : Hid (lev + 1 = (6 : Int) - (d : Int)) := Lib.hid (by have := Hlev.out; omega)
             go_wp2_with (go_at_call 60; rw [e1.out]; refine (Ih.out _ (List.getElem_mem hlt) d _ _ (by omega) (Hkc.out.grow (by repeat (first | with_reducible exact Ext.refl _ _ | with_reducible refine Ext.trans ?_ (by assumption) | with_reducible refine Ext.drew ?_ | with_reducible refine Ext.drewN ?_ _ | with_reducible refine Ext.alloc ?_ _ | with_reducible refine Ext.setNew ?_ (by simp; done) _ | with_reducible refine Ext.setNew ?_ (by simp; omega) _)))).mono ?_; rintro e w3 ⟨rfl, hg3⟩; simp only [Hsk.out])
             go_ret
             exact ⟨by simp [Hf.out, Hff.out], (by repeat (first | with_reducible exact Ext.refl _ _ | with_reducible refine Ext.trans ?_ (by assumption) | with_reducible refine Ext.drew ?_ | with_reducible refine Ext.drewN ?_ _ | with_reducible refine Ext.alloc ?_ _ | with_reducible refine Ext.setNew ?_ (by simp; done) _ | with_reducible refine Ext.setNew ?_ (by simp; omega) _))⟩
           · have Hsk := Lib.hid hsk
             clear hsk
             have e1 : Hid (lev + 1 = (6 : Int) - (d : Int)) := Lib.hid (by have := Hlev.out; omega)
             go_wp2_with (go_at_call 60; rw [e1.out]; refine (Ih.out _ (List.getElem_mem hlt) d _ _ (by omega) (Hkc.out.grow (by repeat (first | with_reducible exact Ext.refl _ _ | with_reducible refine Ext.trans ?_ (by assumption) | with_reducible refine Ext.drew ?_ | with_reducible refine Ext.drewN ?_ _ | with_reducible refine Ext.alloc ?_ _ | with_reducible refine Ext.setNew ?_ (by simp; done) _ | with_reducible refine Ext.setNew ?_ (by simp; omega) _)))).mono ?_; rintro e w3 ⟨rfl, hg3⟩; simp only [Hsk.out])
             go_roundw
             case rel => exact ⟨rfl, (by repeat (first | with_reducible exact Ext.refl _ _ | with_reducible refine Ext.trans ?_ (by assumption) | with_reducible refine Ext.drew ?_ | with_reducible refine Ext.drewN ?_ _ | with_reducible refine Ext.alloc ?_ _ | with_reducible refine Ext.setNew ?_ (by simp; done) _ | with_reducible refine Ext.setNew ?_ (by simp; omega) _)), k + 1, by omega, by go_num, by rw [Hs.out, drop_cons _ _ hlt, shpL, Hsk.out]; rfl⟩
             case measure => simp [intOf]; omega
         · go_wp2
           go_ret
           exact ⟨by simp [Hf.out, Hs.out, List.drop_eq_nil_of_le (Nat.le_of_not_lt hlt), shpL], hgr⟩)

theorem isShape_ok : ∀ x, IsShpOk x := by
  refine Shp.ind' IsShpOk ?_
  intro x ih d v w hd hn
  by_cases h0 : d = 0
  · subst h0
    exact isShape_zero x v w hn
  · cases hf : shpHead x
    · exact isShape_head x d hd (by omega) hf v w hn
    · obtain ⟨d, rfl⟩ : ∃ d', d = d' + 1 := ⟨d - 1, by omega⟩
      exact isShape_loop x ih d hd hf v w hn

end Go.Proofs.Ytchiakeceiefdaa
