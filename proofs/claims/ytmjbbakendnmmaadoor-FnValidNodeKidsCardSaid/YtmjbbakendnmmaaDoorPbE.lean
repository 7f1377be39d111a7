/-
  Texts of this claim, joined.
-/
import Derived.ProofKit
import Derived.Deep.Slices
import Derived.Deep.Fields
import Derived.Laws.MakeOwn
import Derived.Test.YtmjbbakendnmmaaDoorPbD

set_option linter.unusedSimpArgs false
set_option linter.unusedVariables false
set_option maxRecDepth 100000
set_option maxHeartbeats 16000000
namespace Go.Proofs.YtmjbbakendnmmaaDoor
open Go.RowKit
theorem shape_other {n : Nd} {d : Nat} (h : n.kind < 0 ∨ 4 < n.kind) : shapeB n (d + 1) = false := by
  have h0 : ¬ n.kind = 0 := by omega
  have h1 : ¬ n.kind = 1 := by omega
  have h2 : ¬ n.kind = 2 := by omega
  have h3 : ¬ n.kind = 3 := by omega
  have h4 : ¬ n.kind = 4 := by omega
  simp [shapeB_eq, partsB, h0, h1, h2, h3, h4]
theorem shape_0 {n : Nd} {d : Nat} (h : n.kind = 0) : shapeB n (d + 1) = (decide (n.num = 0) && n.text.toList.isEmpty && decide (n.names.length = 0) && decide (n.kids.length = 0)) := by
  by_cases hk : n.kids.length = 0 <;> simp [shapeB_eq, partsB, h, hk, shapeL_zero, -List.length_eq_zero_iff]
theorem shape_1 {n : Nd} {d : Nat} (h : n.kind = 1) : shapeB n (d + 1) = (n.text.toList.isEmpty && decide (n.names.length = 0) && (decide (-999999 ≤ n.num) && decide (n.num ≤ 999999)) && decide (n.kids.length = 0)) := by
  by_cases hk : n.kids.length = 0 <;> simp [shapeB_eq, partsB, h, hk, shapeL_zero, -List.length_eq_zero_iff]
theorem shape_2 {n : Nd} {d : Nat} (h : n.kind = 2) : shapeB n (d + 1) = (decide (n.num = 0) && decide (n.names.length = 0) && plainT n.text && decide (n.kids.length = 0)) := by
  by_cases hk : n.kids.length = 0 <;> simp [shapeB_eq, partsB, h, hk, shapeL_zero, -List.length_eq_zero_iff]
theorem shape_3 {n : Nd} {d : Nat} (h : n.kind = 3) : shapeB n (d + 1) = (decide (n.num = 0) && n.text.toList.isEmpty && decide (n.names.length = 0) && decide (n.kids.length ≤ 6) && shapeL n.kids d) := by
  simp [shapeB_eq, partsB, h, -List.length_eq_zero_iff]
theorem shape_4 {n : Nd} {d : Nat} (h : n.kind = 4) : shapeB n (d + 1) = (decide (n.num = 0) && n.text.toList.isEmpty && areNamesB n.names && decide (n.kids.length = n.names.length) && shapeL n.kids d) := by
  simp [shapeB_eq, partsB, h, Bool.and_assoc, -List.length_eq_zero_iff]
theorem shape_long {n : Nd} {d : Nat} (h : 6 < n.kids.length) : shapeB n d = false := by
  cases hp : partsB n
  · simp [shapeB_eq, hp]
  · have := partsB_kids hp; omega
theorem shape_num {n : Nd} {d : Nat} (h1 : n.kind ≠ 1) (h2 : n.num ≠ 0) : shapeB n d = false := by simp [shapeB_eq, partsB, h1, h2]
theorem shape_text {n : Nd} {d : Nat} (h1 : n.kind ≠ 2) (h2 : (!n.text.toList.isEmpty) = true) : shapeB n d = false := by
  have : n.text.toList.isEmpty = false := by simpa using h2
  simp [shapeB_eq, partsB, h1, this]
theorem shape_names {n : Nd} {d : Nat} (h1 : n.kind ≠ 4) (h2 : 0 < n.names.length) : shapeB n d = false := by
  have : ¬ n.names.length = 0 := by omega
  simp [shapeB_eq, partsB, h1, this, -List.length_eq_zero_iff]
theorem shape_ok : ∀ n, ShapeOk n := by
  refine Nd.ind' ShapeOk ?_
  intro n ih d dep v w hd hdep hn
  have Hn := Lib.hid hn
  obtain ⟨na, nc, ka, kc, rfl, hc⟩ := hn
  obtain ⟨htx, hns, hks⟩ := hc.parts
  have hnl : n.names.length ≤ 9223372036854775807 := hns.2.1
  have hkl : n.kids.length ≤ 9223372036854775807 := hks.2.1
  have Hns := Lib.hid hns
  have Htx := Lib.hid htx
  have Ih := Lib.hid ih
  clear hns hks hc htx ih
  unfold nodeV at *
  by_cases hd0 : d = 0
  · subst hd0
    obtain rfl : dep = 0 := by omega
    clear hdep
    have Hf : Hid (shapeB n 0 = false) := Lib.hid (by rw [shapeB_eq]; simp)
    go_enter Tryd.func73, Tryd.ntmps73
    go_wp2_with fail
    go_ret
    exact ⟨by simp [Hf.out], (by repeat (first | with_reducible exact Ext.refl _ _ | with_reducible refine Ext.trans ?_ (by assumption) | with_reducible refine Ext.drew ?_ | with_reducible refine Ext.drewN ?_ _ | with_reducible refine Ext.alloc ?_ _ | with_reducible refine Ext.setNew ?_ (by simp; done) _ | with_reducible refine Ext.setNew ?_ (by simp; omega) _))⟩
  · obtain ⟨d, rfl⟩ : ∃ d', d = d' + 1 := ⟨d - 1, by omega⟩
    have hd1 : 1 ≤ dep := by omega
    have hd2 : dep ≤ 5 := by omega
    have hdne : (dep == 0) = false := by rw [ibeq]; simp; omega
    have Hdep := Lib.hid hdep
    have Hd := Lib.hid hd
    clear hd hdep hd0
    obtain ⟨kind, num, text, names, kids⟩ := n
    dsimp only at *
    by_cases h1 : 6 < kids.length
    · have hz : shapeB ⟨kind, num, text, names, kids⟩ (d + 1) = false := shape_long (by exact h1)
      have Hf := Lib.hid hz
      clear hz
      go_enter Tryd.func73, Tryd.ntmps73
      go_wp2_with (first | (go_at_call 82; refine (inRange_ok _ _ _ _).mono ?_; rintro e w' ⟨rfl, rfl⟩) | (go_at_call 79; refine (validText_ok _ _ Htx.out).mono ?_; rintro e w' ⟨rfl, rfl⟩) | (go_at_call 91; refine (names_ok _ _ _ _ (Hns.out.ext ((Ext.refl nil w).alloc _) (fun _ _ h => h))).mono ?_; rintro e w' ⟨rfl, hg⟩; have hcc := bcell hg) | (go_at_call 90; refine (kids_of _ Ih.out d _ _ _ (by have := Hd.out; omega) (by have := Hdep.out; omega) (Hn.out.ext (by repeat (first | exact Ext.refl _ _ | refine Ext.trans ?_ (by assumption) | refine Ext.alloc ?_ _)) (fun _ _ h => h))).mono ?_; rintro e w'' ⟨rfl, hg2⟩))
      all_goals (go_ret; refine ⟨?_, (by repeat (first | with_reducible exact Ext.refl _ _ | with_reducible refine Ext.trans ?_ (by assumption) | with_reducible refine Ext.drew ?_ | with_reducible refine Ext.drewN ?_ _ | with_reducible refine Ext.alloc ?_ _ | with_reducible refine Ext.setNew ?_ (by simp; done) _ | with_reducible refine Ext.setNew ?_ (by simp; omega) _))⟩; rw [Hf.out])
      all_goals clear Hn Hns Htx Ih Hdep Hd Hf
      all_goals (simp_all [-List.length_eq_zero_iff])
      all_goals first | omega | rfl | (intro _; exact ⟨by simp only [areNamesB, ‹namesB names = true›]; simp; omega, by omega⟩) | (intro h; exfalso; simp [areNamesB, ‹namesB names = false›] at h)
    have h1 : kids.length ≤ 6 := by omega
    by_cases k1 : kind = 1
    · subst k1
      have he := shape_1 (n := ⟨1, num, text, names, kids⟩) (d := d) rfl
      cases ht : (!text.toList.isEmpty)
      · by_cases h2 : 0 < names.length
        · have := h2
          have Hf := Lib.hid he
          clear he
          go_enter Tryd.func73, Tryd.ntmps73
          go_wp2_with (first | (go_at_call 82; refine (inRange_ok _ _ _ _).mono ?_; rintro e w' ⟨rfl, rfl⟩) | (go_at_call 79; refine (validText_ok _ _ Htx.out).mono ?_; rintro e w' ⟨rfl, rfl⟩) | (go_at_call 91; refine (names_ok _ _ _ _ (Hns.out.ext ((Ext.refl nil w).alloc _) (fun _ _ h => h))).mono ?_; rintro e w' ⟨rfl, hg⟩; have hcc := bcell hg) | (go_at_call 90; refine (kids_of _ Ih.out d _ _ _ (by have := Hd.out; omega) (by have := Hdep.out; omega) (Hn.out.ext (by repeat (first | exact Ext.refl _ _ | refine Ext.trans ?_ (by assumption) | refine Ext.alloc ?_ _)) (fun _ _ h => h))).mono ?_; rintro e w'' ⟨rfl, hg2⟩))
          all_goals (go_ret; refine ⟨?_, (by repeat (first | with_reducible exact Ext.refl _ _ | with_reducible refine Ext.trans ?_ (by assumption) | with_reducible refine Ext.drew ?_ | with_reducible refine Ext.drewN ?_ _ | with_reducible refine Ext.alloc ?_ _ | with_reducible refine Ext.setNew ?_ (by simp; done) _ | with_reducible refine Ext.setNew ?_ (by simp; omega) _))⟩; rw [Hf.out])
          all_goals clear Hn Hns Htx Ih Hdep Hd Hf
          all_goals (simp_all [-List.length_eq_zero_iff])
          all_goals first | omega | rfl | (intro _; exact ⟨by simp only [areNamesB, ‹namesB names = true›]; simp; omega, by omega⟩) | (intro h; exfalso; simp [areNamesB, ‹namesB names = false›] at h)
        · have h2 : names.length ≤ 0 := by omega
          by_cases h3 : 0 < kids.length
          · have := h3
            have Hf := Lib.hid he
            clear he
            go_enter Tryd.func73, Tryd.ntmps73
            go_wp2_with (first | (go_at_call 82; refine (inRange_ok _ _ _ _).mono ?_; rintro e w' ⟨rfl, rfl⟩) | (go_at_call 79; refine (validText_ok _ _ Htx.out).mono ?_; rintro e w' ⟨rfl, rfl⟩) | (go_at_call 91; refine (names_ok _ _ _ _ (Hns.out.ext ((Ext.refl nil w).alloc _) (fun _ _ h => h))).mono ?_; rintro e w' ⟨rfl, hg⟩; have hcc := bcell hg) | (go_at_call 90; refine (kids_of _ Ih.out d _ _ _ (by have := Hd.out; omega) (by have := Hdep.out; omega) (Hn.out.ext (by repeat (first | exact Ext.refl _ _ | refine Ext.trans ?_ (by assumption) | refine Ext.alloc ?_ _)) (fun _ _ h => h))).mono ?_; rintro e w'' ⟨rfl, hg2⟩))
            all_goals (go_ret; refine ⟨?_, (by repeat (first | with_reducible exact Ext.refl _ _ | with_reducible refine Ext.trans ?_ (by assumption) | with_reducible refine Ext.drew ?_ | with_reducible refine Ext.drewN ?_ _ | with_reducible refine Ext.alloc ?_ _ | with_reducible refine Ext.setNew ?_ (by simp; done) _ | with_reducible refine Ext.setNew ?_ (by simp; omega) _))⟩; rw [Hf.out])
            all_goals clear Hn Hns Htx Ih Hdep Hd Hf
            all_goals (simp_all [-List.length_eq_zero_iff])
            all_goals first | omega | rfl | (intro _; exact ⟨by simp only [areNamesB, ‹namesB names = true›]; simp; omega, by omega⟩) | (intro h; exfalso; simp [areNamesB, ‹namesB names = false›] at h)
          · have h3 : kids.length ≤ 0 := by omega
            have Hf := Lib.hid he
            clear he
            go_enter Tryd.func73, Tryd.ntmps73
            go_wp2_with (first | (go_at_call 82; refine (inRange_ok _ _ _ _).mono ?_; rintro e w' ⟨rfl, rfl⟩) | (go_at_call 79; refine (validText_ok _ _ Htx.out).mono ?_; rintro e w' ⟨rfl, rfl⟩) | (go_at_call 91; refine (names_ok _ _ _ _ (Hns.out.ext ((Ext.refl nil w).alloc _) (fun _ _ h => h))).mono ?_; rintro e w' ⟨rfl, hg⟩; have hcc := bcell hg) | (go_at_call 90; refine (kids_of _ Ih.out d _ _ _ (by have := Hd.out; omega) (by have := Hdep.out; omega) (Hn.out.ext (by repeat (first | exact Ext.refl _ _ | refine Ext.trans ?_ (by assumption) | refine Ext.alloc ?_ _)) (fun _ _ h => h))).mono ?_; rintro e w'' ⟨rfl, hg2⟩))
            all_goals (go_ret; refine ⟨?_, (by repeat (first | with_reducible exact Ext.refl _ _ | with_reducible refine Ext.trans ?_ (by assumption) | with_reducible refine Ext.drew ?_ | with_reducible refine Ext.drewN ?_ _ | with_reducible refine Ext.alloc ?_ _ | with_reducible refine Ext.setNew ?_ (by simp; done) _ | with_reducible refine Ext.setNew ?_ (by simp; omega) _))⟩; rw [Hf.out])
            all_goals clear Hn Hns Htx Ih Hdep Hd Hf
            all_goals (simp_all [-List.length_eq_zero_iff])
            all_goals first | omega | rfl | (intro _; exact ⟨by simp only [areNamesB, ‹namesB names = true›]; simp; omega, by omega⟩) | (intro h; exfalso; simp [areNamesB, ‹namesB names = false›] at h)
      · have := ht
        have Hf := Lib.hid he
        clear he
        go_enter Tryd.func73, Tryd.ntmps73
        go_wp2_with (first | (go_at_call 82; refine (inRange_ok _ _ _ _).mono ?_; rintro e w' ⟨rfl, rfl⟩) | (go_at_call 79; refine (validText_ok _ _ Htx.out).mono ?_; rintro e w' ⟨rfl, rfl⟩) | (go_at_call 91; refine (names_ok _ _ _ _ (Hns.out.ext ((Ext.refl nil w).alloc _) (fun _ _ h => h))).mono ?_; rintro e w' ⟨rfl, hg⟩; have hcc := bcell hg) | (go_at_call 90; refine (kids_of _ Ih.out d _ _ _ (by have := Hd.out; omega) (by have := Hdep.out; omega) (Hn.out.ext (by repeat (first | exact Ext.refl _ _ | refine Ext.trans ?_ (by assumption) | refine Ext.alloc ?_ _)) (fun _ _ h => h))).mono ?_; rintro e w'' ⟨rfl, hg2⟩))
        all_goals (go_ret; refine ⟨?_, (by repeat (first | with_reducible exact Ext.refl _ _ | with_reducible refine Ext.trans ?_ (by assumption) | with_reducible refine Ext.drew ?_ | with_reducible refine Ext.drewN ?_ _ | with_reducible refine Ext.alloc ?_ _ | with_reducible refine Ext.setNew ?_ (by simp; done) _ | with_reducible refine Ext.setNew ?_ (by simp; omega) _))⟩; rw [Hf.out])
        all_goals clear Hn Hns Htx Ih Hdep Hd Hf
        all_goals (simp_all [-List.length_eq_zero_iff])
        all_goals first | omega | rfl | (intro _; exact ⟨by simp only [areNamesB, ‹namesB names = true›]; simp; omega, by omega⟩) | (intro h; exfalso; simp [areNamesB, ‹namesB names = false›] at h)
    have k1 : (kind != 1) = true := by simpa using k1
    by_cases hnum : num = 0
    rotate_left
    · have hnum : (num != 0) = true := by simpa using hnum
      have hz : shapeB ⟨kind, num, text, names, kids⟩ (d + 1) = false := shape_num (by simpa using k1) (by simpa using hnum)
      have Hf := Lib.hid hz
      clear hz
      go_enter Tryd.func73, Tryd.ntmps73
      go_wp2_with (first | (go_at_call 82; refine (inRange_ok _ _ _ _).mono ?_; rintro e w' ⟨rfl, rfl⟩) | (go_at_call 79; refine (validText_ok _ _ Htx.out).mono ?_; rintro e w' ⟨rfl, rfl⟩) | (go_at_call 91; refine (names_ok _ _ _ _ (Hns.out.ext ((Ext.refl nil w).alloc _) (fun _ _ h => h))).mono ?_; rintro e w' ⟨rfl, hg⟩; have hcc := bcell hg) | (go_at_call 90; refine (kids_of _ Ih.out d _ _ _ (by have := Hd.out; omega) (by have := Hdep.out; omega) (Hn.out.ext (by repeat (first | exact Ext.refl _ _ | refine Ext.trans ?_ (by assumption) | refine Ext.alloc ?_ _)) (fun _ _ h => h))).mono ?_; rintro e w'' ⟨rfl, hg2⟩))
      all_goals (go_ret; refine ⟨?_, (by repeat (first | with_reducible exact Ext.refl _ _ | with_reducible refine Ext.trans ?_ (by assumption) | with_reducible refine Ext.drew ?_ | with_reducible refine Ext.drewN ?_ _ | with_reducible refine Ext.alloc ?_ _ | with_reducible refine Ext.setNew ?_ (by simp; done) _ | with_reducible refine Ext.setNew ?_ (by simp; omega) _))⟩; rw [Hf.out])
      all_goals clear Hn Hns Htx Ih Hdep Hd Hf
      all_goals (simp_all [-List.length_eq_zero_iff])
      all_goals first | omega | rfl | (intro _; exact ⟨by simp only [areNamesB, ‹namesB names = true›]; simp; omega, by omega⟩) | (intro h; exfalso; simp [areNamesB, ‹namesB names = false›] at h)
    subst hnum
    by_cases k2 : kind = 2
    · subst k2
      have he := shape_2 (n := ⟨2, 0, text, names, kids⟩) (d := d) rfl
      by_cases h2 : 0 < names.length
      · have := h2
        have Hf := Lib.hid he
        clear he
        go_enter Tryd.func73, Tryd.ntmps73
        go_wp2_with (first | (go_at_call 82; refine (inRange_ok _ _ _ _).mono ?_; rintro e w' ⟨rfl, rfl⟩) | (go_at_call 79; refine (validText_ok _ _ Htx.out).mono ?_; rintro e w' ⟨rfl, rfl⟩) | (go_at_call 91; refine (names_ok _ _ _ _ (Hns.out.ext ((Ext.refl nil w).alloc _) (fun _ _ h => h))).mono ?_; rintro e w' ⟨rfl, hg⟩; have hcc := bcell hg) | (go_at_call 90; refine (kids_of _ Ih.out d _ _ _ (by have := Hd.out; omega) (by have := Hdep.out; omega) (Hn.out.ext (by repeat (first | exact Ext.refl _ _ | refine Ext.trans ?_ (by assumption) | refine Ext.alloc ?_ _)) (fun _ _ h => h))).mono ?_; rintro e w'' ⟨rfl, hg2⟩))
        all_goals (go_ret; refine ⟨?_, (by repeat (first | with_reducible exact Ext.refl _ _ | with_reducible refine Ext.trans ?_ (by assumption) | with_reducible refine Ext.drew ?_ | with_reducible refine Ext.drewN ?_ _ | with_reducible refine Ext.alloc ?_ _ | with_reducible refine Ext.setNew ?_ (by simp; done) _ | with_reducible refine Ext.setNew ?_ (by simp; omega) _))⟩; rw [Hf.out])
        all_goals clear Hn Hns Htx Ih Hdep Hd Hf
        all_goals (simp_all [-List.length_eq_zero_iff])
        all_goals first | omega | rfl | (intro _; exact ⟨by simp only [areNamesB, ‹namesB names = true›]; simp; omega, by omega⟩) | (intro h; exfalso; simp [areNamesB, ‹namesB names = false›] at h)
      · have h2 : names.length ≤ 0 := by omega
        by_cases h3 : 0 < kids.length
        · have := h3
          have Hf := Lib.hid he
          clear he
          go_enter Tryd.func73, Tryd.ntmps73
          go_wp2_with (first | (go_at_call 82; refine (inRange_ok _ _ _ _).mono ?_; rintro e w' ⟨rfl, rfl⟩) | (go_at_call 79; refine (validText_ok _ _ Htx.out).mono ?_; rintro e w' ⟨rfl, rfl⟩) | (go_at_call 91; refine (names_ok _ _ _ _ (Hns.out.ext ((Ext.refl nil w).alloc _) (fun _ _ h => h))).mono ?_; rintro e w' ⟨rfl, hg⟩; have hcc := bcell hg) | (go_at_call 90; refine (kids_of _ Ih.out d _ _ _ (by have := Hd.out; omega) (by have := Hdep.out; omega) (Hn.out.ext (by repeat (first | exact Ext.refl _ _ | refine Ext.trans ?_ (by assumption) | refine Ext.alloc ?_ _)) (fun _ _ h => h))).mono ?_; rintro e w'' ⟨rfl, hg2⟩))
          all_goals (go_ret; refine ⟨?_, (by repeat (first | with_reducible exact Ext.refl _ _ | with_reducible refine Ext.trans ?_ (by assumption) | with_reducible refine Ext.drew ?_ | with_reducible refine Ext.drewN ?_ _ | with_reducible refine Ext.alloc ?_ _ | with_reducible refine Ext.setNew ?_ (by simp; done) _ | with_reducible refine Ext.setNew ?_ (by simp; omega) _))⟩; rw [Hf.out])
          all_goals clear Hn Hns Htx Ih Hdep Hd Hf
          all_goals (simp_all [-List.length_eq_zero_iff])
          all_goals first | omega | rfl | (intro _; exact ⟨by simp only [areNamesB, ‹namesB names = true›]; simp; omega, by omega⟩) | (intro h; exfalso; simp [areNamesB, ‹namesB names = false›] at h)
        · have h3 : kids.length ≤ 0 := by omega
          have Hf := Lib.hid he
          clear he
          go_enter Tryd.func73, Tryd.ntmps73
          go_wp2_with (first | (go_at_call 82; refine (inRange_ok _ _ _ _).mono ?_; rintro e w' ⟨rfl, rfl⟩) | (go_at_call 79; refine (validText_ok _ _ Htx.out).mono ?_; rintro e w' ⟨rfl, rfl⟩) | (go_at_call 91; refine (names_ok _ _ _ _ (Hns.out.ext ((Ext.refl nil w).alloc _) (fun _ _ h => h))).mono ?_; rintro e w' ⟨rfl, hg⟩; have hcc := bcell hg) | (go_at_call 90; refine (kids_of _ Ih.out d _ _ _ (by have := Hd.out; omega) (by have := Hdep.out; omega) (Hn.out.ext (by repeat (first | exact Ext.refl _ _ | refine Ext.trans ?_ (by assumption) | refine Ext.alloc ?_ _)) (fun _ _ h => h))).mono ?_; rintro e w'' ⟨rfl, hg2⟩))
          all_goals (go_ret; refine ⟨?_, (by repeat (first | with_reducible exact Ext.refl _ _ | with_reducible refine Ext.trans ?_ (by assumption) | with_reducible refine Ext.drew ?_ | with_reducible refine Ext.drewN ?_ _ | with_reducible refine Ext.alloc ?_ _ | with_reducible refine Ext.setNew ?_ (by simp; done) _ | with_reducible refine Ext.setNew ?_ (by simp; omega) _))⟩; rw [Hf.out])
          all_goals clear Hn Hns Htx Ih Hdep Hd Hf
          all_goals (simp_all [-List.length_eq_zero_iff])
          all_goals first | omega | rfl | (intro _; exact ⟨by simp only [areNamesB, ‹namesB names = true›]; simp; omega, by omega⟩) | (intro h; exfalso; simp [areNamesB, ‹namesB names = false›] at h)
    have k2 : (kind != 2) = true := by simpa using k2
    cases ht : (!text.toList.isEmpty)
    rotate_left
    · have hz : shapeB ⟨kind, 0, text, names, kids⟩ (d + 1) = false := shape_text (by simpa using k2) ht
      have Hf := Lib.hid hz
      clear hz
      go_enter Tryd.func73, Tryd.ntmps73
      go_wp2_with (first | (go_at_call 82; refine (inRange_ok _ _ _ _).mono ?_; rintro e w' ⟨rfl, rfl⟩) | (go_at_call 79; refine (validText_ok _ _ Htx.out).mono ?_; rintro e w' ⟨rfl, rfl⟩) | (go_at_call 91; refine (names_ok _ _ _ _ (Hns.out.ext ((Ext.refl nil w).alloc _) (fun _ _ h => h))).mono ?_; rintro e w' ⟨rfl, hg⟩; have hcc := bcell hg) | (go_at_call 90; refine (kids_of _ Ih.out d _ _ _ (by have := Hd.out; omega) (by have := Hdep.out; omega) (Hn.out.ext (by repeat (first | exact Ext.refl _ _ | refine Ext.trans ?_ (by assumption) | refine Ext.alloc ?_ _)) (fun _ _ h => h))).mono ?_; rintro e w'' ⟨rfl, hg2⟩))
      all_goals (go_ret; refine ⟨?_, (by repeat (first | with_reducible exact Ext.refl _ _ | with_reducible refine Ext.trans ?_ (by assumption) | with_reducible refine Ext.drew ?_ | with_reducible refine Ext.drewN ?_ _ | with_reducible refine Ext.alloc ?_ _ | with_reducible refine Ext.setNew ?_ (by simp; done) _ | with_reducible refine Ext.setNew ?_ (by simp; omega) _))⟩; rw [Hf.out])
      all_goals clear Hn Hns Htx Ih Hdep Hd Hf
      all_goals (simp_all [-List.length_eq_zero_iff])
      all_goals first | omega | rfl | (intro _; exact ⟨by simp only [areNamesB, ‹namesB names = true›]; simp; omega, by omega⟩) | (intro h; exfalso; simp [areNamesB, ‹namesB names = false›] at h)
    by_cases k4 : kind = 4
    · subst k4
      have he := shape_4 (n := ⟨4, 0, text, names, kids⟩) (d := d) rfl
      have Hf := Lib.hid he
      clear he
      go_enter Tryd.func73, Tryd.ntmps73
      go_wp2_with (first | (go_at_call 82; refine (inRange_ok _ _ _ _).mono ?_; rintro e w' ⟨rfl, rfl⟩) | (go_at_call 79; refine (validText_ok _ _ Htx.out).mono ?_; rintro e w' ⟨rfl, rfl⟩) | (go_at_call 91; refine (names_ok _ _ _ _ (Hns.out.ext ((Ext.refl nil w).alloc _) (fun _ _ h => h))).mono ?_; rintro e w' ⟨rfl, hg⟩; have hcc := bcell hg) | (go_at_call 90; refine (kids_of _ Ih.out d _ _ _ (by have := Hd.out; omega) (by have := Hdep.out; omega) (Hn.out.ext (by repeat (first | exact Ext.refl _ _ | refine Ext.trans ?_ (by assumption) | refine Ext.alloc ?_ _)) (fun _ _ h => h))).mono ?_; rintro e w'' ⟨rfl, hg2⟩))
      all_goals (go_ret; refine ⟨?_, (by repeat (first | with_reducible exact Ext.refl _ _ | with_reducible refine Ext.trans ?_ (by assumption) | with_reducible refine Ext.drew ?_ | with_reducible refine Ext.drewN ?_ _ | with_reducible refine Ext.alloc ?_ _ | with_reducible refine Ext.setNew ?_ (by simp; done) _ | with_reducible refine Ext.setNew ?_ (by simp; omega) _))⟩; rw [Hf.out])
      all_goals clear Hn Hns Htx Ih Hdep Hd Hf
      all_goals (simp_all [-List.length_eq_zero_iff])
      all_goals first | omega | rfl | (intro _; exact ⟨by simp only [areNamesB, ‹namesB names = true›]; simp; omega, by omega⟩) | (intro h; exfalso; simp [areNamesB, ‹namesB names = false›] at h)
    have k4 : (kind != 4) = true := by simpa using k4
    by_cases h2 : 0 < names.length
    · have hz : shapeB ⟨kind, 0, text, names, kids⟩ (d + 1) = false := shape_names (by simpa using k4) h2
      have Hf := Lib.hid hz
      clear hz
      go_enter Tryd.func73, Tryd.ntmps73
      go_wp2_with (first | (go_at_call 82; refine (inRange_ok _ _ _ _).mono ?_; rintro e w' ⟨rfl, rfl⟩) | (go_at_call 79; refine (validText_ok _ _ Htx.out).mono ?_; rintro e w' ⟨rfl, rfl⟩) | (go_at_call 91; refine (names_ok _ _ _ _ (Hns.out.ext ((Ext.refl nil w).alloc _) (fun _ _ h => h))).mono ?_; rintro e w' ⟨rfl, hg⟩; have hcc := bcell hg) | (go_at_call 90; refine (kids_of _ Ih.out d _ _ _ (by have := Hd.out; omega) (by have := Hdep.out; omega) (Hn.out.ext (by repeat (first | exact Ext.refl _ _ | refine Ext.trans ?_ (by assumption) | refine Ext.alloc ?_ _)) (fun _ _ h => h))).mono ?_; rintro e w'' ⟨rfl, hg2⟩))
      all_goals (go_ret; refine ⟨?_, (by repeat (first | with_reducible exact Ext.refl _ _ | with_reducible refine Ext.trans ?_ (by assumption) | with_reducible refine Ext.drew ?_ | with_reducible refine Ext.drewN ?_ _ | with_reducible refine Ext.alloc ?_ _ | with_reducible refine Ext.setNew ?_ (by simp; done) _ | with_reducible refine Ext.setNew ?_ (by simp; omega) _))⟩; rw [Hf.out])
      all_goals clear Hn Hns Htx Ih Hdep Hd Hf
      all_goals (simp_all [-List.length_eq_zero_iff])
      all_goals first | omega | rfl | (intro _; exact ⟨by simp only [areNamesB, ‹namesB names = true›]; simp; omega, by omega⟩) | (intro h; exfalso; simp [areNamesB, ‹namesB names = false›] at h)
    have h2 : names.length ≤ 0 := by omega
    by_cases k3 : kind = 3
    · subst k3
      have he := shape_3 (n := ⟨3, 0, text, names, kids⟩) (d := d) rfl
      have Hf := Lib.hid he
      clear he
      go_enter Tryd.func73, Tryd.ntmps73
      go_wp2_with (first | (go_at_call 82; refine (inRange_ok _ _ _ _).mono ?_; rintro e w' ⟨rfl, rfl⟩) | (go_at_call 79; refine (validText_ok _ _ Htx.out).mono ?_; rintro e w' ⟨rfl, rfl⟩) | (go_at_call 91; refine (names_ok _ _ _ _ (Hns.out.ext ((Ext.refl nil w).alloc _) (fun _ _ h => h))).mono ?_; rintro e w' ⟨rfl, hg⟩; have hcc := bcell hg) | (go_at_call 90; refine (kids_of _ Ih.out d _ _ _ (by have := Hd.out; omega) (by have := Hdep.out; omega) (Hn.out.ext (by repeat (first | exact Ext.refl _ _ | refine Ext.trans ?_ (by assumption) | refine Ext.alloc ?_ _)) (fun _ _ h => h))).mono ?_; rintro e w'' ⟨rfl, hg2⟩))
      all_goals (go_ret; refine ⟨?_, (by repeat (first | with_reducible exact Ext.refl _ _ | with_reducible refine Ext.trans ?_ (by assumption) | with_reducible refine Ext.drew ?_ | with_reducible refine Ext.drewN ?_ _ | with_reducible refine Ext.alloc ?_ _ | with_reducible refine Ext.setNew ?_ (by simp; done) _ | with_reducible refine Ext.setNew ?_ (by simp; omega) _))⟩; rw [Hf.out])
      all_goals clear Hn Hns Htx Ih Hdep Hd Hf
      all_goals (simp_all [-List.length_eq_zero_iff])
      all_goals first | omega | rfl | (intro _; exact ⟨by simp only [areNamesB, ‹namesB names = true›]; simp; omega, by omega⟩) | (intro h; exfalso; simp [areNamesB, ‹namesB names = false›] at h)
    by_cases k0 : kind = 0
    · subst k0
      have he := shape_0 (n := ⟨0, 0, text, names, kids⟩) (d := d) rfl
      by_cases h3 : 0 < kids.length
      · have := h3
        have Hf := Lib.hid he
        clear he
        go_enter Tryd.func73, Tryd.ntmps73
        go_wp2_with (first | (go_at_call 82; refine (inRange_ok _ _ _ _).mono ?_; rintro e w' ⟨rfl, rfl⟩) | (go_at_call 79; refine (validText_ok _ _ Htx.out).mono ?_; rintro e w' ⟨rfl, rfl⟩) | (go_at_call 91; refine (names_ok _ _ _ _ (Hns.out.ext ((Ext.refl nil w).alloc _) (fun _ _ h => h))).mono ?_; rintro e w' ⟨rfl, hg⟩; have hcc := bcell hg) | (go_at_call 90; refine (kids_of _ Ih.out d _ _ _ (by have := Hd.out; omega) (by have := Hdep.out; omega) (Hn.out.ext (by repeat (first | exact Ext.refl _ _ | refine Ext.trans ?_ (by assumption) | refine Ext.alloc ?_ _)) (fun _ _ h => h))).mono ?_; rintro e w'' ⟨rfl, hg2⟩))
        all_goals (go_ret; refine ⟨?_, (by repeat (first | with_reducible exact Ext.refl _ _ | with_reducible refine Ext.trans ?_ (by assumption) | with_reducible refine Ext.drew ?_ | with_reducible refine Ext.drewN ?_ _ | with_reducible refine Ext.alloc ?_ _ | with_reducible refine Ext.setNew ?_ (by simp; done) _ | with_reducible refine Ext.setNew ?_ (by simp; omega) _))⟩; rw [Hf.out])
        all_goals clear Hn Hns Htx Ih Hdep Hd Hf
        all_goals (simp_all [-List.length_eq_zero_iff])
        all_goals first | omega | rfl | (intro _; exact ⟨by simp only [areNamesB, ‹namesB names = true›]; simp; omega, by omega⟩) | (intro h; exfalso; simp [areNamesB, ‹namesB names = false›] at h)
      · have h3 : kids.length ≤ 0 := by omega
        have Hf := Lib.hid he
        clear he
        go_enter Tryd.func73, Tryd.ntmps73
        go_wp2_with (first | (go_at_call 82; refine (inRange_ok _ _ _ _).mono ?_; rintro e w' ⟨rfl, rfl⟩) | (go_at_call 79; refine (validText_ok _ _ Htx.out).mono ?_; rintro e w' ⟨rfl, rfl⟩) | (go_at_call 91; refine (names_ok _ _ _ _ (Hns.out.ext ((Ext.refl nil w).alloc _) (fun _ _ h => h))).mono ?_; rintro e w' ⟨rfl, hg⟩; have hcc := bcell hg) | (go_at_call 90; refine (kids_of _ Ih.out d _ _ _ (by have := Hd.out; omega) (by have := Hdep.out; omega) (Hn.out.ext (by repeat (first | exact Ext.refl _ _ | refine Ext.trans ?_ (by assumption) | refine Ext.alloc ?_ _)) (fun _ _ h => h))).mono ?_; rintro e w'' ⟨rfl, hg2⟩))
        all_goals (go_ret; refine ⟨?_, (by repeat (first | with_reducible exact Ext.refl _ _ | with_reducible refine Ext.trans ?_ (by assumption) | with_reducible refine Ext.drew ?_ | with_reducible refine Ext.drewN ?_ _ | with_reducible refine Ext.alloc ?_ _ | with_reducible refine Ext.setNew ?_ (by simp; done) _ | with_reducible refine Ext.setNew ?_ (by simp; omega) _))⟩; rw [Hf.out])
        all_goals clear Hn Hns Htx Ih Hdep Hd Hf
        all_goals (simp_all [-List.length_eq_zero_iff])
        all_goals first | omega | rfl | (intro _; exact ⟨by simp only [areNamesB, ‹namesB names = true›]; simp; omega, by omega⟩) | (intro h; exfalso; simp [areNamesB, ‹namesB names = false›] at h)
    have kk : kind < 0 ∨ 4 < kind := by simp at k1 k2 k4; omega
    have hz : shapeB ⟨kind, 0, text, names, kids⟩ (d + 1) = false := shape_other kk
    rcases kk with kk | kk
    · by_cases h3 : 0 < kids.length
      · have := h3
        have Hf := Lib.hid hz
        clear hz
        go_enter Tryd.func73, Tryd.ntmps73
        go_wp2_with (first | (go_at_call 82; refine (inRange_ok _ _ _ _).mono ?_; rintro e w' ⟨rfl, rfl⟩) | (go_at_call 79; refine (validText_ok _ _ Htx.out).mono ?_; rintro e w' ⟨rfl, rfl⟩) | (go_at_call 91; refine (names_ok _ _ _ _ (Hns.out.ext ((Ext.refl nil w).alloc _) (fun _ _ h => h))).mono ?_; rintro e w' ⟨rfl, hg⟩; have hcc := bcell hg) | (go_at_call 90; refine (kids_of _ Ih.out d _ _ _ (by have := Hd.out; omega) (by have := Hdep.out; omega) (Hn.out.ext (by repeat (first | exact Ext.refl _ _ | refine Ext.trans ?_ (by assumption) | refine Ext.alloc ?_ _)) (fun _ _ h => h))).mono ?_; rintro e w'' ⟨rfl, hg2⟩))
        all_goals (go_ret; refine ⟨?_, (by repeat (first | with_reducible exact Ext.refl _ _ | with_reducible refine Ext.trans ?_ (by assumption) | with_reducible refine Ext.drew ?_ | with_reducible refine Ext.drewN ?_ _ | with_reducible refine Ext.alloc ?_ _ | with_reducible refine Ext.setNew ?_ (by simp; done) _ | with_reducible refine Ext.setNew ?_ (by simp; omega) _))⟩; rw [Hf.out])
        all_goals clear Hn Hns Htx Ih Hdep Hd Hf
        all_goals (simp_all [-List.length_eq_zero_iff])
        all_goals first | omega | rfl | (intro _; exact ⟨by simp only [areNamesB, ‹namesB names = true›]; simp; omega, by omega⟩) | (intro h; exfalso; simp [areNamesB, ‹namesB names = false›] at h)
      · have h3 : kids.length ≤ 0 := by omega
        have Hf := Lib.hid hz
        clear hz
        go_enter Tryd.func73, Tryd.ntmps73
        go_wp2_with (first | (go_at_call 82; refine (inRange_ok _ _ _ _).mono ?_; rintro e w' ⟨rfl, rfl⟩) | (go_at_call 79; refine (validText_ok _ _ Htx.out).mono ?_; rintro e w' ⟨rfl, rfl⟩) | (go_at_call 91; refine (names_ok _ _ _ _ (Hns.out.ext ((Ext.refl nil w).alloc _) (fun _ _ h => h))).mono ?_; rintro e w' ⟨rfl, hg⟩; have hcc := bcell hg) | (go_at_call 90; refine (kids_of _ Ih.out d _ _ _ (by have := Hd.out; omega) (by have := Hdep.out; omega) (Hn.out.ext (by repeat (first | exact Ext.refl _ _ | refine Ext.trans ?_ (by assumption) | refine Ext.alloc ?_ _)) (fun _ _ h => h))).mono ?_; rintro e w'' ⟨rfl, hg2⟩))
        all_goals (go_ret; refine ⟨?_, (by repeat (first | with_reducible exact Ext.refl _ _ | with_reducible refine Ext.trans ?_ (by assumption) | with_reducible refine Ext.drew ?_ | with_reducible refine Ext.drewN ?_ _ | with_reducible refine Ext.alloc ?_ _ | with_reducible refine Ext.setNew ?_ (by simp; done) _ | with_reducible refine Ext.setNew ?_ (by simp; omega) _))⟩; rw [Hf.out])
        all_goals clear Hn Hns Htx Ih Hdep Hd Hf
        all_goals (simp_all [-List.length_eq_zero_iff])
        all_goals first | omega | rfl | (intro _; exact ⟨by simp only [areNamesB, ‹namesB names = true›]; simp; omega, by omega⟩) | (intro h; exfalso; simp [areNamesB, ‹namesB names = false›] at h)
    · have := kk
      have Hf := Lib.hid hz
      clear hz
      go_enter Tryd.func73, Tryd.ntmps73
      go_wp2_with (first | (go_at_call 82; refine (inRange_ok _ _ _ _).mono ?_; rintro e w' ⟨rfl, rfl⟩) | (go_at_call 79; refine (validText_ok _ _ Htx.out).mono ?_; rintro e w' ⟨rfl, rfl⟩) | (go_at_call 91; refine (names_ok _ _ _ _ (Hns.out.ext ((Ext.refl nil w).alloc _) (fun _ _ h => h))).mono ?_; rintro e w' ⟨rfl, hg⟩; have hcc := bcell hg) | (go_at_call 90; refine (kids_of _ Ih.out d _ _ _ (by have := Hd.out; omega) (by have := Hdep.out; omega) (Hn.out.ext (by repeat (first | exact Ext.refl _ _ | refine Ext.trans ?_ (by assumption) | refine Ext.alloc ?_ _)) (fun _ _ h => h))).mono ?_; rintro e w'' ⟨rfl, hg2⟩))
      all_goals (go_ret; refine ⟨?_, (by repeat (first | with_reducible exact Ext.refl _ _ | with_reducible refine Ext.trans ?_ (by assumption) | with_reducible refine Ext.drew ?_ | with_reducible refine Ext.drewN ?_ _ | with_reducible refine Ext.alloc ?_ _ | with_reducible refine Ext.setNew ?_ (by simp; done) _ | with_reducible refine Ext.setNew ?_ (by simp; omega) _))⟩; rw [Hf.out])
      all_goals clear Hn Hns Htx Ih Hdep Hd Hf
      all_goals (simp_all [-List.length_eq_zero_iff])
      all_goals first | omega | rfl | (intro _; exact ⟨by simp only [areNamesB, ‹namesB names = true›]; simp; omega, by omega⟩) | (intro h; exfalso; simp [areNamesB, ‹namesB names = false›] at h)
def CountOk (n : Nd) : Prop := ∀ (v : Value) (w : World), n.count ≤ 1000000 → NodeR w any n v →
    Calls Tryd.prog 74 #[v] w fun e w' => e = .returned (.int .i64 n.count) ∧ Grow w w'
theorem countL_take (l : List Nd) (k : Nat) : countL (l.take k) ≤ countL l := by
  induction l generalizing k with
  | nil => simp
  | cons a l ih => cases k with
    | zero => simp [countL]
    | succ k => simp only [List.take_succ_cons, countL]; have := ih k; omega
theorem count_ok : ∀ n, CountOk n := by
  refine Nd.ind' CountOk ?_
  intro n ih v w hb hn
  have hb' : countL n.kids ≤ 1000000 := by rw [Nd.count_eq] at hb; omega
  have Ih := Lib.hid ih
  have Hb := Lib.hid hb
  clear ih hb
  obtain ⟨na, nc, ka, kc, rfl, hc⟩ := hn
  obtain ⟨htx, hns, hks⟩ := hc.parts
  have hkl : n.kids.length ≤ 9223372036854775807 := hks.2.1
  have Hks := Lib.hid hks
  clear htx hns hks hc
  unfold nodeV at *
  go_enter Tryd.func74, Tryd.ntmps74
  go_wp2
  go_loopw [3, 4] (fun t i wr => Grow (w.alloc (.cells #[.int .i64 n.kind, .int .i64 n.num, .string n.text, .slice na n.names.length nc, .slice ka n.kids.length kc] 26)) wr ∧ ∃ k : Nat, k ≤ n.kids.length ∧ i = .int .i64 k ∧ t = .int .i64 ((1 + countL (n.kids.take k) : Nat) : Int)) (fun _ i _ => n.kids.length - (intOf i).toNat)
  case atStart => exact ⟨Ext.refl _ _, 0, Nat.zero_le _, rfl, by simp [countL]⟩
  case round =>
    obtain ⟨hg, k, hk, rfl, rfl⟩ := hrel
    have hcc := bcell hg
    have hg0 : Grow w wr := ((Ext.refl _ _).alloc _).trans hg
    have hct := countL_take n.kids k
    by_cases hlt : k < n.kids.length
    · obtain ⟨_, _, hks⟩ := (Hks.out).ext hg0 (fun _ _ h => h)
      rcases hks with hks | ⟨bk, ok, rfl, _, hkr⟩
      · simp [hks] at hlt
      obtain ⟨na', nc', ka', kc', c0, c1, c2, c3, c4, hkc⟩ := hkr.get k hlt
      have Hkc : Hid (NodeR wr any n.kids[k] (nodeV n.kids[k] na' nc' ka' kc')) := Lib.hid ⟨_, _, _, _, rfl, hkc⟩
      have hct' := countL_take n.kids (k + 1)
      rw [take_snoc' _ _ hlt, countL_snoc] at hct'
      clear hkr hkc
      go_wp2_with (go_at_call 74; refine (Ih.out _ (List.getElem_mem hlt) _ _ (by omega) Hkc.out).mono ?_; rintro e w2 ⟨rfl, hg2⟩)
      go_roundw
      case rel => exact ⟨hg.trans hg2, k + 1, by omega, by go_num, by rw [take_snoc' _ _ hlt, countL_snoc]; go_num⟩
      case measure => simp [intOf]; omega
    · have hke : k = n.kids.length := by omega
      have Hke := Lib.hid hke
      clear hke
      go_wp2
      go_ret
      exact ⟨by rw [Nd.count_eq, Hke.out]; simp, hg0⟩
theorem validNode_ok (n : Nd) (v : Value) (w : World) (hn : NodeR w any n v) :
    Calls Tryd.prog 45 #[v] w fun e w' => e = .returned (.bool (validB n)) ∧ Grow w w' := by
  have Hn := Lib.hid hn
  obtain ⟨na, nc, ka, kc, rfl, hc⟩ := hn
  clear hc
  unfold nodeV at *
  cases hs : shapeB n 5
  · have Hs := Lib.hid hs
    have Hv : Hid (validB n = false) := Lib.hid (by simp [validB, hs])
    clear hs
    go_enter Tryd.func45, Tryd.ntmps45
    go_wp2_with (go_at_call 73; refine (shape_ok n 5 _ _ _ (by omega) (by omega) ((Hn.out).ext ((Ext.refl nil w).alloc _) (fun _ _ h => h))).mono ?_; rintro e w2 ⟨rfl, hg2⟩; simp only [Hs.out])
    go_ret
    exact ⟨by simp [Hv.out], (by repeat (first | with_reducible exact Ext.refl _ _ | with_reducible refine Ext.trans ?_ (by assumption) | with_reducible refine Ext.drew ?_ | with_reducible refine Ext.drewN ?_ _ | with_reducible refine Ext.alloc ?_ _ | with_reducible refine Ext.setNew ?_ (by simp; done) _ | with_reducible refine Ext.setNew ?_ (by simp; omega) _))⟩
  · have Hs := Lib.hid hs
    have hcn : n.count ≤ 1555 := Nat.le_trans (count_le 5 n hs) (cb_le 5 (by omega))
    have Hv : Hid (validB n = decide (n.count ≤ 40)) := Lib.hid (by simp [validB, hs])
    clear hs
    go_enter Tryd.func45, Tryd.ntmps45
    go_wp2_with (first | (go_at_call 73; refine (shape_ok n 5 _ _ _ (by omega) (by omega) ((Hn.out).ext ((Ext.refl nil w).alloc _) (fun _ _ h => h))).mono ?_; rintro e w2 ⟨rfl, hg2⟩; simp only [Hs.out]; have hcc := bcell hg2) | (go_at_call 74; refine (count_ok n _ _ (by omega) ((Hn.out).grow (by repeat (first | with_reducible exact Ext.refl _ _ | with_reducible refine Ext.trans ?_ (by assumption) | with_reducible refine Ext.drew ?_ | with_reducible refine Ext.drewN ?_ _ | with_reducible refine Ext.alloc ?_ _ | with_reducible refine Ext.setNew ?_ (by simp; done) _ | with_reducible refine Ext.setNew ?_ (by simp; omega) _)))).mono ?_; rintro e w3 ⟨rfl, hg3⟩))
    all_goals go_ret
    all_goals exact ⟨by rw [Hv.out]; simp; omega, (by repeat (first | with_reducible exact Ext.refl _ _ | with_reducible refine Ext.trans ?_ (by assumption) | with_reducible refine Ext.drew ?_ | with_reducible refine Ext.drewN ?_ _ | with_reducible refine Ext.alloc ?_ _ | with_reducible refine Ext.setNew ?_ (by simp; done) _ | with_reducible refine Ext.setNew ?_ (by simp; omega) _))⟩
end Go.Proofs.YtmjbbakendnmmaaDoor
namespace Go.Proofs.YtmjbbakendnmmaaDoor.Eng
open Go Go.RowKit
attribute [local simp] big size_mk ASt.pay Option.map_map Function.comp_def awant aop acall ado aev ofVal ofVal0 ASt.put ASt.add ASt.turn ASt.kill abox aalloc astore aload ASt.at cellsTo afieldAddr afield aindexAddr aindex alen abin aint acmp astr aun apick aextract anil aslice abound abuild afill abuildSlice asCells aps avCells over upd aappend asrc amax amin aconv mkSt slots rowsOf_cons rowsOf_nil usedOf_cons usedOf_nil ZK.av List.replicate ASt.back ASt.addL ASt.killL nodeA nodeT nodeTL_eq nodeL_eq strsE_get strsE_len intsE_get intsE_len strsE_at intsE_at tab2 tab3 tab4 tab5 tab6 tab7 tab8 tab9 tab10 tab11 tab12 tab13 tab14 tab15 tab16 tab17 tab18 tab19 tab21 tab22 tab23 tab24 tab25 tab26 tab28 tab33 tab34 tab35 tab51 tab52 tab55 tab56 tab61 tab78 tab79 tab80 tab98 tab104 tab110 tab117 tab118 tab123 tab124 tab126 tab127 tab128
theorem repL5 {w : World} {ρ : Cx} {a b c d e : AV} {v0 v1 v2 v3 v4 : Value} (h0 : Rep w ρ a v0) (h1 : Rep w ρ b v1) (h2 : Rep w ρ c v2) (h3 : Rep w ρ d v3) (h4 : Rep w ρ e v4) : RepL w ρ [a, b, c, d, e] [v0, v1, v2, v3, v4] := by
  unfold RepL; refine ⟨_, _, rfl, h0, ?_⟩
  unfold RepL; refine ⟨_, _, rfl, h1, ?_⟩
  unfold RepL; refine ⟨_, _, rfl, h2, ?_⟩
  unfold RepL; refine ⟨_, _, rfl, h3, ?_⟩
  unfold RepL; refine ⟨_, _, rfl, h4, ?_⟩
  unfold RepL; rfl
theorem repL5_inv {w : World} {ρ : Cx} {a b c d e : AV} {vs : List Value} (h : RepL w ρ [a, b, c, d, e] vs) : ∃ v0 v1 v2 v3 v4, vs = [v0, v1, v2, v3, v4] ∧ Rep w ρ a v0 ∧ Rep w ρ b v1 ∧ Rep w ρ c v2 ∧ Rep w ρ d v3 ∧ Rep w ρ e v4 := by
  unfold RepL at h; obtain ⟨v0, vs, rfl, h0, h⟩ := h
  unfold RepL at h; obtain ⟨v1, vs, rfl, h1, h⟩ := h
  unfold RepL at h; obtain ⟨v2, vs, rfl, h2, h⟩ := h
  unfold RepL at h; obtain ⟨v3, vs, rfl, h3, h⟩ := h
  unfold RepL at h; obtain ⟨v4, vs, rfl, h4, h⟩ := h
  unfold RepL at h; subst h
  exact ⟨_, _, _, _, _, rfl, h0, h1, h2, h3, h4⟩
theorem cells_of {t : TypeId} {i : TI} (h : tab t = some i) : (Tryd.prog).cellsOf t = i.size := by
  obtain ⟨d, j, hs⟩ := TI.says (tab_ok t i h)
  exact hs.cells
theorem ACR.row {f : FuncId} {args : List AV} {c : Nat} {p : Nd → Prop} (h : ACR Tryd.prog f args c (R0 p) (R1 p)) : ACR Tryd.prog f args c (fun _ => False) (R1 p) :=
  ⟨h.1, fun w L S rb k vs g0 h1 h2 h3 => (h.2 w L S rb k vs g0 h1 h2 h3).mono fun e w' ⟨v, S', k1, k2, k3, k4, k5, k6⟩ => ⟨v, S', k1, k2, k3, k4, k5, .inr (by
    rcases k6 with ⟨r, q1, n, hs, hn, rfl⟩ | q
    · unfold nodeT at q1
      rw [nodeTL_eq, hn] at q1
      obtain ⟨vs, rfl, hone, hl⟩ := rep_agg.1 q1
      obtain ⟨v0, v1, v2, v3, v4, rfl, r0, r1, r2, r3, r4⟩ := repL5_inv hl
      obtain ⟨a, c', rfl, ht, _⟩ := rep_view.1 r3
      have hc := ht rfl
      simp only [strsE, List.map_nil, List.length_nil] at hc
      subst hc
      have le : ∀ id, Cx.Le w' (pureC nil S' none) w' (oneC S' id (.slice a 0 0) 0) := fun id => ⟨fun b hb => ⟨hb, fun _ => rfl⟩, fun b hb => False.elim hb, fun id' hid' => False.elim hid', fun _ h => by cases h⟩
      refine ⟨nodeN n, namesRow n, .slice a 0 0, fun id => ?_, ⟨⟨cells_of tab9, fun g hg => by cases a <;> simp [blk] at hg⟩, ?_, (fun h => by cases h), [], .inl ?_, ?_, fun u hu => by cases hu⟩, fun g hg => by cases a <;> simp [blk] at hg, n, hs, rfl, rfl⟩
      · have hl0 : (namesRow n).es.length = 0 := by simp [namesRow, hn, strsE]
        rw [hl0]
        unfold nodeN
        rw [hn]
        refine rep_agg.2 ⟨_, rfl, hone, repL5 (r0.le (le id)) (r1.le (le id)) (r2.le (le id)) (rep_own.2 ⟨rfl, by simp [oneC], ⟨a, 0, rfl, .inl rfl⟩, fun u hu _ => by simp [oneC] at hu; exact hu⟩) (r4.le (le id))⟩
      · simp [namesRow, hn, strsE]
      · simp [namesRow, hn, strsE]
      · simp only [namesRow, hn, strsE, List.map_nil, List.flatten_nil]; unfold RepL; rfl
    · exact q)⟩⟩
theorem randomNode_ACR : ∀ d : Nat, d ≤ 5 → ACR Tryd.prog 87 [.rdr, .int .i64 (d : Int)] (nC d) (R0 Sml) (R1 Sml)
  | 0, h => randomNode_step 0 h (fun h => by omega)
  | d + 1, h => by
    have ih := AC.ofR01 (randomNode_ACR d (by omega))
    exact randomNode_step (d + 1) h (fun _ => ⟨ih, randomMap_step d (by omega) ih⟩)
theorem randomNode_AC (d : Nat) (h : d ≤ 5) : AC Tryd.prog 87 [.rdr, .int .i64 (d : Int)] (nC d) (fun r => ∃ n, Sml n ∧ r = nodeA n) := AC.ofR01 (randomNode_ACR d h)
theorem randomMap_ACR (d : Nat) (h : d ≤ 4) : ACR Tryd.prog 88 [.rdr, .int .i64 ((d + 1 : Nat) : Int)] (9 + 4 * nC d) (R0 Sml) (R1 Sml) := randomMap_step d h (randomNode_AC d (by omega))
theorem validNode_AC (n : Nd) (t : VC) : AC Tryd.prog 45 [nodeT t n] 0 (fun r => r = .bool (validB n)) := by
  refine AC.ofGrow (enters_of Tryd.func45 (by kernel_rfl) (by kernel_rfl)) (fun w L S rb vs h => ?_)
  unfold RepL at h
  obtain ⟨v, vs', rfl, h1, h2⟩ := h
  unfold RepL at h2
  subst h2
  refine (validNode_ok n v w (node_of_rep h1)).mono ?_
  rintro e w' ⟨rfl, hg⟩
  exact ⟨_, _, rfl, hg, rep_bool.2 rfl, rfl⟩
def SmlV (n : Nd) : Prop := Sml n ∧ validB n = true
def rNodeA (r : AV) : Prop := ∃ n, Sml n ∧ r = nodeA n
theorem valid0 : validB ⟨0, 0, ⟨#[]⟩, [], []⟩ = true := by decide +kernel
theorem someNode_ACR : ACR Tryd.prog 66 [.rdr] (nC 3 + 10 + 4 * nC 2) (fun _ => False) (R1 SmlV) := by
  have hN := (randomNode_ACR 3 (by omega)).row
  have hM := (randomMap_ACR 2 (by omega)).row
  refine ACR.row (ACR.weak ?_)
  generalize hA : nC 3 = A at *
  generalize hB : nC 2 = B at *
  refine ACR.of tab_ok mixed_ok Tryd.func66 (by rfl) (by kernel_rfl) ?_; rintro ⟨P, T, hT, hm, w0, S0, rd0, k0⟩ hP hTT; dsimp only at hP hTT; subst hP hTT; unfold initSt; rw [Tryd.ntmps66]
  (repeat (first | with_reducible refine AW.seq ?_ | ((first | refine arun_kn 4 rfl (fun C hC => ?_) | refine arunD_kn 4 rfl (fun C hC => ?_)); (repeat ((conv => whnf); simp)); refine hC _ ?_; clear hC C; simp only [List.drop, Nat.reduceAdd]) | ((first | refine arun_kn 1 rfl (fun C hC => ?_) | refine arunD_kn 1 rfl (fun C hC => ?_)); (repeat ((conv => whnf); simp)); refine hC _ ?_; clear hC C; simp only [List.drop, Nat.reduceAdd]) | (refine arun_skip ?_ ?_; (focus (simp [awant]; done))) | (refine arun_cR (A) 100 (hN) ?_; (rintro _ _ ⟨n, hn, rfl, rfl⟩; unfold nodeN namesRow)) | (refine arun_c (1) (pick_AC 3 (by omega) (by omega)) ?_; (rintro _ ⟨v, rfl, -⟩)) | (refine AW.regionK [] (fun K hK => ?_)) | (refine AW.regionDK [] (pcs [] []) (by kernel_rfl) (by kernel_rfl) (fun K hK => ?_)) | (refine AW.condT ?_ ?_; (focus (simp [aev]; done))) | (refine AW.condF ?_ ?_; (focus (simp [aev]; done))) | with_reducible refine AW.block ?_ | ((first | ((first | refine arun_nil ?_ | refine arunD_nil ?_); refine hK _ ?_; clear hK K) | refine AW.skip ?_ | refine AW.exit ?_ | refine AW.ret ?_); simp only [thenA_exit, inBlockA_exit, if_true, if_false, Nat.reduceEqDiff, thenA_normal, inBlockA_normal, reduceIte, thenA_ret, inBlockA_ret, endQ_ret, endR_ret, endG_ret, endQ_normal, endR_normal, endG_normal])))
  rcases Int.lt_or_le 0 v with hv | hv
  · (repeat (first | with_reducible refine AW.seq ?_ | ((first | refine arun_kn 4 rfl (fun C hC => ?_) | refine arunD_kn 4 rfl (fun C hC => ?_)); (repeat ((conv => whnf); simp [hv])); refine hC _ ?_; clear hC C; simp only [List.drop, Nat.reduceAdd]) | ((first | refine arun_kn 1 rfl (fun C hC => ?_) | refine arunD_kn 1 rfl (fun C hC => ?_)); (repeat ((conv => whnf); simp [hv])); refine hC _ ?_; clear hC C; simp only [List.drop, Nat.reduceAdd]) | (refine arun_skip ?_ ?_; (focus (simp [awant, hv]; done))) | (refine arun_cR ((9+4*B)) 101 (hM) ?_; (rintro _ _ ⟨m, hm, rfl, rfl⟩; unfold nodeN namesRow)) | (refine AW.regionK [] (fun K hK => ?_)) | (refine AW.regionDK [] (pcs [] []) (by kernel_rfl) (by kernel_rfl) (fun K hK => ?_)) | (refine AW.condT ?_ ?_; (focus (simp [aev, hv]; done))) | (refine AW.condF ?_ ?_; (focus (simp [aev, hv]; done))) | with_reducible refine AW.block ?_ | ((first | ((first | refine arun_nil ?_ | refine arunD_nil ?_); refine hK _ ?_; clear hK K) | refine AW.skip ?_ | refine AW.exit ?_ | refine AW.ret ?_); simp only [thenA_exit, inBlockA_exit, if_true, if_false, Nat.reduceEqDiff, thenA_normal, inBlockA_normal, reduceIte, thenA_ret, inBlockA_ret, endQ_ret, endR_ret, endG_ret, endQ_normal, endR_normal, endG_normal])))
    (repeat (first | with_reducible refine AW.seq ?_ | ((first | refine arun_kn 4 rfl (fun C hC => ?_) | refine arunD_kn 4 rfl (fun C hC => ?_)); (repeat ((conv => whnf); simp [hv])); refine hC _ ?_; clear hC C; simp only [List.drop, Nat.reduceAdd]) | ((first | refine arun_kn 1 rfl (fun C hC => ?_) | refine arunD_kn 1 rfl (fun C hC => ?_)); (repeat ((conv => whnf); simp [hv])); refine hC _ ?_; clear hC C; simp only [List.drop, Nat.reduceAdd]) | (refine arun_skip ?_ ?_; (focus (simp [awant, hv]; done))) | (refine arun_cL (0) (validNode_AC m .lent) ?_; rintro _ rfl) | (refine AW.regionK [] (fun K hK => ?_)) | (refine AW.regionDK [] (pcs [] []) (by kernel_rfl) (by kernel_rfl) (fun K hK => ?_)) | (refine AW.condT ?_ ?_; (focus (simp [aev, hv]; done))) | (refine AW.condF ?_ ?_; (focus (simp [aev, hv]; done))) | with_reducible refine AW.block ?_ | ((first | ((first | refine arun_nil ?_ | refine arunD_nil ?_); refine hK _ ?_; clear hK K) | refine AW.skip ?_ | refine AW.exit ?_ | refine AW.ret ?_); simp only [thenA_exit, inBlockA_exit, if_true, if_false, Nat.reduceEqDiff, thenA_normal, inBlockA_normal, reduceIte, thenA_ret, inBlockA_ret, endQ_ret, endR_ret, endG_ret, endQ_normal, endR_normal, endG_normal])))
    cases hb : validB m
    · (repeat (first | with_reducible refine AW.seq ?_ | ((first | refine arun_kn 4 rfl (fun C hC => ?_) | refine arunD_kn 4 rfl (fun C hC => ?_)); (repeat ((conv => whnf); simp [hb])); refine hC _ ?_; clear hC C; simp only [List.drop, Nat.reduceAdd]) | ((first | refine arun_kn 1 rfl (fun C hC => ?_) | refine arunD_kn 1 rfl (fun C hC => ?_)); (repeat ((conv => whnf); simp [hb])); refine hC _ ?_; clear hC C; simp only [List.drop, Nat.reduceAdd]) | (refine arun_skip ?_ ?_; (focus (simp [awant, hb]; done))) | (refine AW.regionK [] (fun K hK => ?_)) | (refine AW.regionDK [] (pcs [] []) (by kernel_rfl) (by kernel_rfl) (fun K hK => ?_)) | (refine AW.condT ?_ ?_; (focus (simp [aev, hb]; done))) | (refine AW.condF ?_ ?_; (focus (simp [aev, hb]; done))) | with_reducible refine AW.block ?_ | ((first | ((first | refine arun_nil ?_ | refine arunD_nil ?_); refine hK _ ?_; clear hK K) | refine AW.skip ?_ | refine AW.exit ?_ | refine AW.ret ?_); simp only [thenA_exit, inBlockA_exit, if_true, if_false, Nat.reduceEqDiff, thenA_normal, inBlockA_normal, reduceIte, thenA_ret, inBlockA_ret, endQ_ret, endR_ret, endG_ret, endQ_normal, endR_normal, endG_normal])))
      exact ⟨_, by simp [ares, aresL, upd, rowsOf_cons]; rfl, .inl ⟨node0_pur 0 0 ⟨#[]⟩, _, node0_wk 0 0 ⟨#[]⟩, _, ⟨sml_leaf 0 0 ⟨#[]⟩, valid0⟩, rfl, rfl⟩⟩
    · (repeat (first | with_reducible refine AW.seq ?_ | ((first | refine arun_kn 4 rfl (fun C hC => ?_) | refine arunD_kn 4 rfl (fun C hC => ?_)); (repeat ((conv => whnf); simp [hb])); refine hC _ ?_; clear hC C; simp only [List.drop, Nat.reduceAdd]) | ((first | refine arun_kn 1 rfl (fun C hC => ?_) | refine arunD_kn 1 rfl (fun C hC => ?_)); (repeat ((conv => whnf); simp [hb])); refine hC _ ?_; clear hC C; simp only [List.drop, Nat.reduceAdd]) | (refine arun_skip ?_ ?_; (focus (simp [awant, hb]; done))) | (refine AW.regionK [] (fun K hK => ?_)) | (refine AW.regionDK [] (pcs [] []) (by kernel_rfl) (by kernel_rfl) (fun K hK => ?_)) | (refine AW.condT ?_ ?_; (focus (simp [aev, hb]; done))) | (refine AW.condF ?_ ?_; (focus (simp [aev, hb]; done))) | with_reducible refine AW.block ?_ | ((first | ((first | refine arun_nil ?_ | refine arunD_nil ?_); refine hK _ ?_; clear hK K) | refine AW.skip ?_ | refine AW.exit ?_ | refine AW.ret ?_); simp only [thenA_exit, inBlockA_exit, if_true, if_false, Nat.reduceEqDiff, thenA_normal, inBlockA_normal, reduceIte, thenA_ret, inBlockA_ret, endQ_ret, endR_ret, endG_ret, endQ_normal, endR_normal, endG_normal])))
      exact ⟨nodeN m 101, by simp [nodeN, ares, aresL, upd, rowsOf_cons], .inr ⟨nodeN m, 101, namesRow m, rfl, by simp [upd, namesRow], nodeN_res m 101, strsE_pur _, m, ⟨hm, hb⟩, rfl, rfl⟩⟩
  · have hv' : ¬ (0 < v) := by omega
    (repeat (first | with_reducible refine AW.seq ?_ | ((first | refine arun_kn 4 rfl (fun C hC => ?_) | refine arunD_kn 4 rfl (fun C hC => ?_)); (repeat ((conv => whnf); simp [hv'])); refine hC _ ?_; clear hC C; simp only [List.drop, Nat.reduceAdd]) | ((first | refine arun_kn 1 rfl (fun C hC => ?_) | refine arunD_kn 1 rfl (fun C hC => ?_)); (repeat ((conv => whnf); simp [hv'])); refine hC _ ?_; clear hC C; simp only [List.drop, Nat.reduceAdd]) | (refine arun_skip ?_ ?_; (focus (simp [awant, hv']; done))) | (refine arun_cL (0) (validNode_AC n .lent) ?_; rintro _ rfl) | (refine AW.regionK [] (fun K hK => ?_)) | (refine AW.regionDK [] (pcs [] []) (by kernel_rfl) (by kernel_rfl) (fun K hK => ?_)) | (refine AW.condT ?_ ?_; (focus (simp [aev, hv']; done))) | (refine AW.condF ?_ ?_; (focus (simp [aev, hv']; done))) | with_reducible refine AW.block ?_ | ((first | ((first | refine arun_nil ?_ | refine arunD_nil ?_); refine hK _ ?_; clear hK K) | refine AW.skip ?_ | refine AW.exit ?_ | refine AW.ret ?_); simp only [thenA_exit, inBlockA_exit, if_true, if_false, Nat.reduceEqDiff, thenA_normal, inBlockA_normal, reduceIte, thenA_ret, inBlockA_ret, endQ_ret, endR_ret, endG_ret, endQ_normal, endR_normal, endG_normal])))
    cases hb : validB n
    · (repeat (first | with_reducible refine AW.seq ?_ | ((first | refine arun_kn 4 rfl (fun C hC => ?_) | refine arunD_kn 4 rfl (fun C hC => ?_)); (repeat ((conv => whnf); simp [hb])); refine hC _ ?_; clear hC C; simp only [List.drop, Nat.reduceAdd]) | ((first | refine arun_kn 1 rfl (fun C hC => ?_) | refine arunD_kn 1 rfl (fun C hC => ?_)); (repeat ((conv => whnf); simp [hb])); refine hC _ ?_; clear hC C; simp only [List.drop, Nat.reduceAdd]) | (refine arun_skip ?_ ?_; (focus (simp [awant, hb]; done))) | (refine AW.regionK [] (fun K hK => ?_)) | (refine AW.regionDK [] (pcs [] []) (by kernel_rfl) (by kernel_rfl) (fun K hK => ?_)) | (refine AW.condT ?_ ?_; (focus (simp [aev, hb]; done))) | (refine AW.condF ?_ ?_; (focus (simp [aev, hb]; done))) | with_reducible refine AW.block ?_ | ((first | ((first | refine arun_nil ?_ | refine arunD_nil ?_); refine hK _ ?_; clear hK K) | refine AW.skip ?_ | refine AW.exit ?_ | refine AW.ret ?_); simp only [thenA_exit, inBlockA_exit, if_true, if_false, Nat.reduceEqDiff, thenA_normal, inBlockA_normal, reduceIte, thenA_ret, inBlockA_ret, endQ_ret, endR_ret, endG_ret, endQ_normal, endR_normal, endG_normal])))
      exact ⟨_, by simp [ares, aresL, upd, rowsOf_cons]; rfl, .inl ⟨node0_pur 0 0 ⟨#[]⟩, _, node0_wk 0 0 ⟨#[]⟩, _, ⟨sml_leaf 0 0 ⟨#[]⟩, valid0⟩, rfl, rfl⟩⟩
    · (repeat (first | with_reducible refine AW.seq ?_ | ((first | refine arun_kn 4 rfl (fun C hC => ?_) | refine arunD_kn 4 rfl (fun C hC => ?_)); (repeat ((conv => whnf); simp [hb])); refine hC _ ?_; clear hC C; simp only [List.drop, Nat.reduceAdd]) | ((first | refine arun_kn 1 rfl (fun C hC => ?_) | refine arunD_kn 1 rfl (fun C hC => ?_)); (repeat ((conv => whnf); simp [hb])); refine hC _ ?_; clear hC C; simp only [List.drop, Nat.reduceAdd]) | (refine arun_skip ?_ ?_; (focus (simp [awant, hb]; done))) | (refine AW.regionK [] (fun K hK => ?_)) | (refine AW.regionDK [] (pcs [] []) (by kernel_rfl) (by kernel_rfl) (fun K hK => ?_)) | (refine AW.condT ?_ ?_; (focus (simp [aev, hb]; done))) | (refine AW.condF ?_ ?_; (focus (simp [aev, hb]; done))) | with_reducible refine AW.block ?_ | ((first | ((first | refine arun_nil ?_ | refine arunD_nil ?_); refine hK _ ?_; clear hK K) | refine AW.skip ?_ | refine AW.exit ?_ | refine AW.ret ?_); simp only [thenA_exit, inBlockA_exit, if_true, if_false, Nat.reduceEqDiff, thenA_normal, inBlockA_normal, reduceIte, thenA_ret, inBlockA_ret, endQ_ret, endR_ret, endG_ret, endQ_normal, endR_normal, endG_normal])))
      exact ⟨nodeN n 100, by simp [nodeN, ares, aresL, upd, rowsOf_cons], .inr ⟨nodeN n, 100, namesRow n, rfl, by simp [upd, namesRow], nodeN_res n 100, strsE_pur _, n, ⟨hn, hb⟩, rfl, rfl⟩⟩
inductive WkE : List (List AV) → List (List AV) → Prop
  | nil : WkE [] []
  | cons {c d : List AV} {cs ds : List (List AV)} (h : WkL c d) (t : WkE cs ds) : WkE (c :: cs) (d :: ds)
theorem WkL.length {cs ds : List AV} (h : WkL cs ds) : ds.length = cs.length := by
  induction h with
  | nil => rfl
  | cons _ _ ih => simp [ih]
theorem WkE.length {cs ds : List (List AV)} (h : WkE cs ds) : ds.length = cs.length := by
  induction h with
  | nil => rfl
  | cons _ _ ih => simp [ih]
theorem WkE.sz {cs ds : List (List AV)} {n : Nat} (h : WkE cs ds) (hs : ∀ e ∈ cs, e.length = n) : ∀ e ∈ ds, e.length = n := by
  induction h with
  | nil => intro e he; cases he
  | cons h _ ih =>
    intro e he
    rcases List.mem_cons.1 he with rfl | he
    · rw [h.length]; exact hs _ (by simp)
    · exact ih (fun e he => hs e (by simp [he])) e he
theorem WkL.cells {cs ds : List AV} (h : WkL cs ds) : ∀ {w : World} {ρ : Cx} {b o : Nat}, RepC w ρ b o cs → RepC w ρ b o ds := by
  induction h with
  | nil => exact fun h => h
  | cons h _ ih =>
    intro w ρ b o hr
    unfold RepC at hr ⊢
    obtain ⟨⟨v, h1, h2, h3⟩, h4⟩ := hr
    exact ⟨⟨v, h1, h2, h _ _ _ h3⟩, ih h4⟩
theorem WkE.rows {cs ds : List (List AV)} (h : WkE cs ds) : ∀ {w : World} {ρ : Cx} {b o : Nat}, RepE w ρ b o cs → RepE w ρ b o ds := by
  induction h with
  | nil => exact fun h => h
  | cons h _ ih =>
    intro w ρ b o hr
    unfold RepE at hr ⊢
    exact ⟨h.cells hr.1, by rw [h.length]; exact ih hr.2⟩
theorem Wk.view {t : VC} {sz : Nat} {es ds : List (List AV)} (h : t ≠ .lent) (he : WkE es ds) : Wk (.view t sz es) (.view .loose sz ds) := fun _ ρ _ hr => by
  obtain ⟨a, c, h1, h2, h3, h4, h5, h6⟩ := rep_view.1 hr
  refine rep_view.2 ⟨a, c, by rw [he.length]; exact h1, (fun e => by cases e), by rw [he.length]; exact h3, by rw [he.length]; exact h4, he.sz h5, ?_⟩
  rcases h6 with rfl | ⟨b, o, k1, k2, k3⟩
  · cases he; exact .inl rfl
  · exact .inr ⟨b, o, k1, by cases t <;> first | exact absurd rfl h | exact k2, he.rows k3⟩
def one1 (cs : List AV) : List AV := [.int .i64 3, .int .i64 0, .str ⟨#[]⟩, .view .tight 0 [], .view .tight 5 [cs]]
def list1 (k : Nd) : Nd := ⟨3, 0, ⟨#[]⟩, [], [k]⟩
theorem one1_wk {cs : List AV} {k : Nd} (h : WkL cs (nodeL k)) : WkL (one1 cs) (nodeL (list1 k)) := by
  rw [nodeL_eq]
  exact .cons (Wk.refl _) (.cons (Wk.refl _) (.cons (Wk.refl _) (.cons (Wk.nil (fun h => by cases h)) (.cons (Wk.view (by decide) (.cons h .nil)) .nil))))
theorem one1_pur {cs : List AV} (h : ∀ c ∈ cs, Pur c) : ∀ c ∈ one1 cs, Pur c := by
  intro c hc
  simp only [one1, List.mem_cons, List.not_mem_nil, or_false] at hc
  rcases hc with rfl | rfl | rfl | rfl | rfl
  · exact pur_int
  · exact pur_int
  · exact pur_str
  · exact pur_view (by decide) (fun e he => by cases he)
  · exact pur_view (by decide) (fun e he c hc => by rw [List.mem_singleton.1 he] at hc; exact h c hc)
theorem list1_sml {k : Nd} (h : Sml k) : Sml (list1 k) := .mk _ (by simp [list1]) (by simp [list1]) (fun x hx => by simp [list1] at hx; subst hx; exact h)
theorem parts_len {n : Nd} (h : partsB n = true) : n.names.length ≤ 6 ∧ n.kids.length ≤ 6 := by
  unfold partsB at h
  simp only [Bool.and_eq_true, Bool.or_eq_true, decide_eq_true_eq] at h
  obtain ⟨⟨⟨h1, h2⟩, h3⟩, h4⟩ := h
  by_cases k4 : n.kind = 4
  · rw [if_neg (by omega), if_neg (by omega), if_neg (by omega), if_neg (by omega), if_pos k4] at h4
    unfold areNamesB at h4
    simp only [Bool.and_eq_true, decide_eq_true_eq] at h4
    omega
  · have : n.names.length = 0 := by rcases h3 with h3 | h3; exact absurd h3 k4; exact h3
    refine ⟨by omega, ?_⟩
    rw [if_neg k4] at h4
    split at h4
    · simp at h4; rw [h4]; simp
    split at h4
    · simp only [Bool.and_eq_true, decide_eq_true_eq] at h4; omega
    split at h4
    · simp only [Bool.and_eq_true, decide_eq_true_eq] at h4; omega
    split at h4
    · simp only [decide_eq_true_eq] at h4; omega
    · cases h4
theorem valid_parts {n : Nd} (h : validB n = true) : partsB n = true := by
  unfold validB at h
  rw [shapeB_eq] at h
  simp only [Bool.and_eq_true] at h
  exact h.1.1.2
theorem valid_names {n : Nd} (h : validB n = true) : n.names.length ≤ 6 := (parts_len (valid_parts h)).1
theorem r1_end (m : Nd) (id : Nat) (hs : Sml m) {rows : Nat → Option Row} (hr : rows id = some (namesRow m)) {Q : Prop} : Q ∨ ∃ f id0 R, nodeN m id = f id0 ∧ rows id0 = some R ∧ Res1 id0 f ∧ (∀ e ∈ R.es, ∀ c ∈ e, Pur c) ∧ R1 Sml f R :=
  .inr ⟨nodeN m, id, namesRow m, rfl, hr, nodeN_res m id, strsE_pur _, m, hs, rfl, rfl⟩
theorem nil_wk {cs : List AV} {k : Nd} (h : WkL cs (nodeL k)) : Wk (.agg [.int .i64 3, .int .i64 0, .str ⟨#[]⟩, .view .tight 0 [], .view .tight 5 [cs]]) (nodeT .tight (list1 k)) := by
  unfold nodeT
  rw [nodeTL_eq]
  exact Wk.agg (.cons (Wk.refl _) (.cons (Wk.refl _) (.cons (Wk.refl _) (.cons (Wk.nil (fun _ => rfl)) (.cons (Wk.view (by decide) (.cons h .nil)) .nil)))))
theorem one4_wk (n : Nd) : Wk (.agg (one1 (one1 (one1 (one1 (nodeL n)))))) (nodeT .tight (list1 (list1 (list1 (list1 n))))) := nil_wk (one1_wk (one1_wk (one1_wk (WkL.refl _))))
theorem kids_wk (ks : List Nd) : Wk (.agg [.int .i64 3, .int .i64 0, .str ⟨#[]⟩, .view .tight 0 [], .view .loose 5 (ks.map nodeL)]) (nodeT .tight ⟨3, 0, ⟨#[]⟩, [], ks⟩) := by
  unfold nodeT
  rw [nodeTL_eq]
  exact Wk.agg (.cons (Wk.refl _) (.cons (Wk.refl _) (.cons (Wk.refl _) (.cons (Wk.nil (fun _ => rfl)) (.cons (Wk.refl _) .nil)))))
theorem anyNode_AC : AC Tryd.prog 42 [.rdr] (nC 3 + 30 + 4 * nC 2) rNodeA := by
  have hS := someNode_ACR
  generalize hA : nC 3 = A at *
  generalize hB : nC 2 = B at *
  refine AC.ofR01 (p := Sml) (ACR.weak ?_)
  refine ACR.of tab_ok mixed_ok Tryd.func42 (by rfl) (by kernel_rfl) ?_; rintro ⟨P, T, hT, hm, w0, S0, rd0, k0⟩ hP hTT; dsimp only at hP hTT; subst hP hTT; unfold initSt; rw [Tryd.ntmps42]
  (repeat (first | with_reducible refine AW.seq ?_ | ((first | refine arun_kn 4 rfl (fun C hC => ?_) | refine arunD_kn 4 rfl (fun C hC => ?_)); (repeat ((conv => whnf); simp)); refine hC _ ?_; clear hC C; simp only [List.drop, Nat.reduceAdd]) | ((first | refine arun_kn 1 rfl (fun C hC => ?_) | refine arunD_kn 1 rfl (fun C hC => ?_)); (repeat ((conv => whnf); simp)); refine hC _ ?_; clear hC C; simp only [List.drop, Nat.reduceAdd]) | (refine arun_skip ?_ ?_; (focus (simp [awant]; done))) | (refine arun_cR ((A+10+4*B)) 100 (hS) ?_; (rintro _ _ ⟨n, ⟨hn, hv⟩, rfl, rfl⟩; unfold nodeN namesRow)) | (refine arun_c (1) (pick_AC 40 (by omega) (by omega)) ?_; (rintro _ ⟨v, rfl, -⟩)) | (refine AW.regionK [] (fun K hK => ?_)) | (refine AW.regionDK [] (pcs [] []) (by kernel_rfl) (by kernel_rfl) (fun K hK => ?_)) | (refine AW.condT ?_ ?_; (focus (simp [aev]; done))) | (refine AW.condF ?_ ?_; (focus (simp [aev]; done))) | with_reducible refine AW.block ?_ | ((first | ((first | refine arun_nil ?_ | refine arunD_nil ?_); refine hK _ ?_; clear hK K) | refine AW.skip ?_ | refine AW.exit ?_ | refine AW.ret ?_); simp only [thenA_exit, inBlockA_exit, if_true, if_false, Nat.reduceEqDiff, thenA_normal, inBlockA_normal, reduceIte, thenA_ret, inBlockA_ret, endQ_ret, endR_ret, endG_ret, endQ_normal, endR_normal, endG_normal])))
  have h6 : v = 0 ∨ v = 1 ∨ v = 2 ∨ v = 3 ∨ v = 4 ∨ v = 5 ∨ ((v == 0) = false ∧ (v == 1) = false ∧ (v == 2) = false ∧ (v == 3) = false ∧ (v == 4) = false ∧ (v == 5) = false) := by
    by_cases h0 : v = 0; · simp [h0]
    by_cases h1 : v = 1; · simp [h1]
    by_cases h2 : v = 2; · simp [h2]
    by_cases h3 : v = 3; · simp [h3]
    by_cases h4 : v = 4; · simp [h4]
    by_cases h5 : v = 5; · simp [h5]
    simp [h0, h1, h2, h3, h4, h5]
  rcases h6 with rfl | rfl | rfl | rfl | rfl | rfl | ⟨e0, e1, e2, e3, e4, e5⟩
  · (repeat (first | with_reducible refine AW.seq ?_ | ((first | refine arun_kn 4 rfl (fun C hC => ?_) | refine arunD_kn 4 rfl (fun C hC => ?_)); (repeat ((conv => whnf); simp)); refine hC _ ?_; clear hC C; simp only [List.drop, Nat.reduceAdd]) | ((first | refine arun_kn 1 rfl (fun C hC => ?_) | refine arunD_kn 1 rfl (fun C hC => ?_)); (repeat ((conv => whnf); simp)); refine hC _ ?_; clear hC C; simp only [List.drop, Nat.reduceAdd]) | (refine arun_skip ?_ ?_; (focus (simp [awant]; done))) | (refine arun_cU (1) rfl (one_ACU _ _ (by rfl) (by simp) (by simp)) ?_; (rintro _ ⟨y, -, rfl⟩)) | (refine AW.regionK [] (fun K hK => ?_)) | (refine AW.regionDK [] (pcs [] []) (by kernel_rfl) (by kernel_rfl) (fun K hK => ?_)) | (refine AW.condT ?_ ?_; (focus (simp [aev]; done))) | (refine AW.condF ?_ ?_; (focus (simp [aev]; done))) | with_reducible refine AW.block ?_ | ((first | ((first | refine arun_nil ?_ | refine arunD_nil ?_); refine hK _ ?_; clear hK K) | refine AW.skip ?_ | refine AW.exit ?_ | refine AW.ret ?_); simp only [thenA_exit, inBlockA_exit, if_true, if_false, Nat.reduceEqDiff, thenA_normal, inBlockA_normal, reduceIte, thenA_ret, inBlockA_ret, endQ_ret, endR_ret, endG_ret, endQ_normal, endR_normal, endG_normal])))
    exact ⟨nodeN ⟨y, n.num, n.text, n.names, n.kids⟩ 100, by simp [nodeN, ares, aresL, upd, rowsOf_cons], r1_end ⟨y, n.num, n.text, n.names, n.kids⟩ 100 (.mk _ hn.names hn.kids (fun k hk => hn.kid hk)) (by simp [upd, namesRow])⟩
  · (repeat (first | with_reducible refine AW.seq ?_ | ((first | refine arun_kn 4 rfl (fun C hC => ?_) | refine arunD_kn 4 rfl (fun C hC => ?_)); (repeat ((conv => whnf); simp)); refine hC _ ?_; clear hC C; simp only [List.drop, Nat.reduceAdd]) | ((first | refine arun_kn 1 rfl (fun C hC => ?_) | refine arunD_kn 1 rfl (fun C hC => ?_)); (repeat ((conv => whnf); simp)); refine hC _ ?_; clear hC C; simp only [List.drop, Nat.reduceAdd]) | (refine arun_skip ?_ ?_; (focus (simp [awant]; done))) | (refine arun_cU (1) rfl (one_ACU _ _ (by rfl) (by simp) (by simp)) ?_; (rintro _ ⟨y, -, rfl⟩)) | (refine AW.regionK [] (fun K hK => ?_)) | (refine AW.regionDK [] (pcs [] []) (by kernel_rfl) (by kernel_rfl) (fun K hK => ?_)) | (refine AW.condT ?_ ?_; (focus (simp [aev]; done))) | (refine AW.condF ?_ ?_; (focus (simp [aev]; done))) | with_reducible refine AW.block ?_ | ((first | ((first | refine arun_nil ?_ | refine arunD_nil ?_); refine hK _ ?_; clear hK K) | refine AW.skip ?_ | refine AW.exit ?_ | refine AW.ret ?_); simp only [thenA_exit, inBlockA_exit, if_true, if_false, Nat.reduceEqDiff, thenA_normal, inBlockA_normal, reduceIte, thenA_ret, inBlockA_ret, endQ_ret, endR_ret, endG_ret, endQ_normal, endR_normal, endG_normal])))
    exact ⟨nodeN ⟨n.kind, y, n.text, n.names, n.kids⟩ 100, by simp [nodeN, ares, aresL, upd, rowsOf_cons], r1_end ⟨n.kind, y, n.text, n.names, n.kids⟩ 100 (.mk _ hn.names hn.kids (fun k hk => hn.kid hk)) (by simp [upd, namesRow])⟩
  · (repeat (first | with_reducible refine AW.seq ?_ | ((first | refine arun_kn 4 rfl (fun C hC => ?_) | refine arunD_kn 4 rfl (fun C hC => ?_)); (repeat ((conv => whnf); simp)); refine hC _ ?_; clear hC C; simp only [List.drop, Nat.reduceAdd]) | ((first | refine arun_kn 1 rfl (fun C hC => ?_) | refine arunD_kn 1 rfl (fun C hC => ?_)); (repeat ((conv => whnf); simp)); refine hC _ ?_; clear hC C; simp only [List.drop, Nat.reduceAdd]) | (refine arun_skip ?_ ?_; (focus (simp [awant]; done))) | (refine AW.regionK [] (fun K hK => ?_)) | (refine AW.regionDK [] (pcs [] []) (by kernel_rfl) (by kernel_rfl) (fun K hK => ?_)) | (refine AW.condT ?_ ?_; (focus (simp [aev]; done))) | (refine AW.condF ?_ ?_; (focus (simp [aev]; done))) | with_reducible refine AW.block ?_ | ((first | ((first | refine arun_nil ?_ | refine arunD_nil ?_); refine hK _ ?_; clear hK K) | refine AW.skip ?_ | refine AW.exit ?_ | refine AW.ret ?_); simp only [thenA_exit, inBlockA_exit, if_true, if_false, Nat.reduceEqDiff, thenA_normal, inBlockA_normal, reduceIte, thenA_ret, inBlockA_ret, endQ_ret, endR_ret, endG_ret, endQ_normal, endR_normal, endG_normal])))
    exact ⟨nodeN ⟨n.kind, n.num, ⟨#[97, 98, 99, 100, 101, 102, 103, 104, 105, 106, 107, 108, 109]⟩, n.names, n.kids⟩ 100, by simp [nodeN, ares, aresL, upd, rowsOf_cons], r1_end ⟨n.kind, n.num, _, n.names, n.kids⟩ 100 (.mk _ hn.names hn.kids (fun k hk => hn.kid hk)) (by simp [upd, namesRow])⟩
  · have hb1 : (n.names.length + 1) * 16 ≤ 140737488355328 := by have := hn.names; omega
    have hb2 : n.names.length + 1 ≤ 140737488355328 := by have := hn.names; omega
    (repeat (first | with_reducible refine AW.seq ?_ | ((first | refine arun_kn 4 rfl (fun C hC => ?_) | refine arunD_kn 4 rfl (fun C hC => ?_)); (repeat ((conv => whnf); simp [strsE_len, hb1, hb2])); refine hC _ ?_; clear hC C; simp only [List.drop, Nat.reduceAdd]) | ((first | refine arun_kn 1 rfl (fun C hC => ?_) | refine arunD_kn 1 rfl (fun C hC => ?_)); (repeat ((conv => whnf); simp [strsE_len, hb1, hb2])); refine hC _ ?_; clear hC C; simp only [List.drop, Nat.reduceAdd]) | (refine arun_skip ?_ ?_; (focus (simp [awant, strsE_len, hb1, hb2]; done))) | (refine AW.regionK [] (fun K hK => ?_)) | (refine AW.regionDK [] (pcs [] []) (by kernel_rfl) (by kernel_rfl) (fun K hK => ?_)) | (refine AW.condT ?_ ?_; (focus (simp [aev, strsE_len, hb1, hb2]; done))) | (refine AW.condF ?_ ?_; (focus (simp [aev, strsE_len, hb1, hb2]; done))) | with_reducible refine AW.block ?_ | ((first | ((first | refine arun_nil ?_ | refine arunD_nil ?_); refine hK _ ?_; clear hK K) | refine AW.skip ?_ | refine AW.exit ?_ | refine AW.ret ?_); simp only [thenA_exit, inBlockA_exit, if_true, if_false, Nat.reduceEqDiff, thenA_normal, inBlockA_normal, reduceIte, thenA_ret, inBlockA_ret, endQ_ret, endR_ret, endG_ret, endQ_normal, endR_normal, endG_normal])))
    have e1 : strsE n.names ++ [[.str ⟨#[]⟩]] = strsE (n.names ++ [⟨#[]⟩]) := by simp [strsE]
    exact ⟨nodeN ⟨n.kind, n.num, n.text, n.names ++ [⟨#[]⟩], n.kids⟩ 100, by simp [nodeN, ares, aresL, upd, rowsOf_cons], r1_end ⟨n.kind, n.num, n.text, n.names ++ [⟨#[]⟩], n.kids⟩ 100 (.mk _ (by have := valid_names hv; simp; omega) hn.kids (fun k hk => hn.kid hk)) (by simp [upd, namesRow, ← e1])⟩
  · refine AW.hold 100 ?_
    (repeat (first | with_reducible refine AW.seq ?_ | ((first | refine arun_kn 4 rfl (fun C hC => ?_) | refine arunD_kn 4 rfl (fun C hC => ?_)); (repeat ((conv => whnf); simp [ASt.hold, upd, AV.subL, AV.sub])); refine hC _ ?_; clear hC C; simp only [List.drop, Nat.reduceAdd]) | ((first | refine arun_kn 1 rfl (fun C hC => ?_) | refine arunD_kn 1 rfl (fun C hC => ?_)); (repeat ((conv => whnf); simp [ASt.hold, upd, AV.subL, AV.sub])); refine hC _ ?_; clear hC C; simp only [List.drop, Nat.reduceAdd]) | (refine arun_skip ?_ ?_; (focus (simp [awant, ASt.hold, upd, AV.subL, AV.sub]; done))) | (refine AW.regionK [] (fun K hK => ?_)) | (refine AW.regionDK [] (pcs [] []) (by kernel_rfl) (by kernel_rfl) (fun K hK => ?_)) | (refine AW.condT ?_ ?_; (focus (simp [aev, ASt.hold, upd, AV.subL, AV.sub]; done))) | (refine AW.condF ?_ ?_; (focus (simp [aev, ASt.hold, upd, AV.subL, AV.sub]; done))) | with_reducible refine AW.block ?_ | ((first | ((first | refine arun_nil ?_ | refine arunD_nil ?_); refine hK _ ?_; clear hK K) | refine AW.skip ?_ | refine AW.exit ?_ | refine AW.ret ?_); simp only [thenA_exit, inBlockA_exit, if_true, if_false, Nat.reduceEqDiff, thenA_normal, inBlockA_normal, reduceIte, thenA_ret, inBlockA_ret, endQ_ret, endR_ret, endG_ret, endQ_normal, endR_normal, endG_normal])))
    exact ⟨.agg (one1 (one1 (one1 (one1 (nodeL n))))), by simp [one1, nodeL_eq, ares, aresL, upd, rowsOf_cons, AV.subL, AV.sub, Row.sub], .inl ⟨pur_agg (one1_pur (one1_pur (one1_pur (one1_pur (nodeL_pur n))))), _, one4_wk n, _, list1_sml (list1_sml (list1_sml (list1_sml hn))), rfl, rfl⟩⟩
  · refine AW.hold 100 ?_
    (repeat (first | with_reducible refine AW.seq ?_ | ((first | refine arun_kn 4 rfl (fun C hC => ?_) | refine arunD_kn 4 rfl (fun C hC => ?_)); (repeat ((conv => whnf); simp [ASt.hold, upd, AV.subL, AV.sub])); refine hC _ ?_; clear hC C; simp only [List.drop, Nat.reduceAdd]) | ((first | refine arun_kn 1 rfl (fun C hC => ?_) | refine arunD_kn 1 rfl (fun C hC => ?_)); (repeat ((conv => whnf); simp [ASt.hold, upd, AV.subL, AV.sub])); refine hC _ ?_; clear hC C; simp only [List.drop, Nat.reduceAdd]) | (refine arun_skip ?_ ?_; (focus (simp [awant, ASt.hold, upd, AV.subL, AV.sub]; done))) | (refine AW.regionK [] (fun K hK => ?_)) | (refine AW.regionDK [] (pcs [] []) (by kernel_rfl) (by kernel_rfl) (fun K hK => ?_)) | (refine AW.condT ?_ ?_; (focus (simp [aev, ASt.hold, upd, AV.subL, AV.sub]; done))) | (refine AW.condF ?_ ?_; (focus (simp [aev, ASt.hold, upd, AV.subL, AV.sub]; done))) | with_reducible refine AW.block ?_ | ((first | ((first | refine arun_nil ?_ | refine arunD_nil ?_); refine hK _ ?_; clear hK K) | refine AW.skip ?_ | refine AW.exit ?_ | refine AW.ret ?_); simp only [thenA_exit, inBlockA_exit, if_true, if_false, Nat.reduceEqDiff, thenA_normal, inBlockA_normal, reduceIte, thenA_ret, inBlockA_ret, endQ_ret, endR_ret, endG_ret, endQ_normal, endR_normal, endG_normal])))
    refine AW.adopt 4 4 26 5 ⟨_, tab26, rfl⟩ rfl (by simp [upd]) ?_
    simp only [ASt.adopt, ASt.add]
    refine AW.loopS (fun (x : List Nd × Nat) => mkSt (slots 0 61 [(0, .rdr), (2, .ptr true 5 1 2 0 0), (3, .ptr true 5 1 3 0 0), (4, .own 4 x.1.length), (5, .int .i64 x.1.length)]) [(2, ⟨true, 26, 5, [[.int .i64 0, .int .i64 0, .str ⟨#[]⟩, .view .tight 0 [], .view .tight 0 []]]⟩), (3, ⟨true, 26, 5, [nodeL n]⟩), (4, ⟨false, 26, 5, x.1.map nodeL⟩)] [2, 3, 4] (rd0.map fun _ => x.2)) (fun x => 7 - x.1.length) (fun x => x.1.length ≤ 7 ∧ 10 ≤ x.1.length + x.2 ∧ ∀ k ∈ x.1, Sml k) ([], 19) ?_ ⟨by simp, by simp, fun k hk => by cases hk⟩ ?_
    · rw [nodeL_eq]
      dsimp only [List.map_nil, List.length_nil]
      have hq : A + 30 + 4 * B - (A + 10 + 4 * B) - 1 = 19 := by omega
      exact (less_of (by simp [lessL, mkSt, slots, AV.subL, AV.sub, Row.sub, hq]) (by simp [upd, mkSt, rowsOf_cons, AV.subL, AV.sub, Row.sub, hq]) (by simp [upd, mkSt, usedOf_cons, AV.subL, AV.sub, Row.sub, hq]) (by first | exact rd_less (by omega) | simp [mkSt, AV.subL, AV.sub, Row.sub, hq]) (by simp [slots, in_any, in_int, in_bool, in_str, in_ptr, in_own, in_agg, in_vnil, in_rdr, usedOf_cons, usedOf_nil, strs_in, ints_in, nodes_in, in_tup, AV.subL, AV.sub, Row.sub, hq]) (by simp only [List.forall_mem_cons, List.not_mem_nil, false_implies, implies_true, and_true, true_and, AV.subL, AV.sub, Row.sub, hq]; (repeat (first | with_reducible exact trivial | with_reducible refine And.intro ?_ ?_ | with_reducible exact in_int | with_reducible exact in_str | with_reducible exact in_bool | with_reducible exact strs_in _ | with_reducible exact nodes_in _ | with_reducible exact items_in _ | with_reducible exact in_vnil | with_reducible exact in_any | exact hin _ | with_reducible refine take_in ?_ | with_reducible exact strsE_in _ | with_reducible exact nodesE_in _ | with_reducible exact nodeL_in _ | with_reducible exact itemsE_in _ | with_reducible exact itemL_in _ | with_reducible refine app_in ?_ ?_ | with_reducible refine sing_in ?_ | (focus (simp [in_any, in_int, in_bool, in_str, in_ptr, in_own, in_agg, in_vnil, in_rdr, usedOf_cons, usedOf_nil, strs_in, ints_in, nodes_in, AV.subL, AV.sub, Row.sub, hq]; done)))); done))
    · rintro ⟨ks, b⟩ ⟨hi, hb, hs⟩
      dsimp only at hi hb hs ⊢
      rw [nodeL_eq]
      (repeat (first | with_reducible refine AW.seq ?_ | ((first | refine arun_kn 4 rfl (fun C hC => ?_) | refine arunD_kn 4 rfl (fun C hC => ?_)); (repeat ((conv => whnf); simp)); refine hC _ ?_; clear hC C; simp only [List.drop, Nat.reduceAdd]) | ((first | refine arun_kn 1 rfl (fun C hC => ?_) | refine arunD_kn 1 rfl (fun C hC => ?_)); (repeat ((conv => whnf); simp)); refine hC _ ?_; clear hC C; simp only [List.drop, Nat.reduceAdd]) | (refine arun_skip ?_ ?_; (focus (simp [awant]; done))) | (refine arun_c (1) (pick_AC 2 (by omega) (by omega)) ?_; (rintro _ ⟨v, rfl, hv⟩; obtain ⟨v0, v1⟩ := hv.1 (by omega))) | (refine AW.regionK [] (fun K hK => ?_)) | (refine AW.regionDK [] (pcs [] []) (by kernel_rfl) (by kernel_rfl) (fun K hK => ?_)) | (refine AW.condT ?_ ?_; (focus (simp [aev]; done))) | (refine AW.condF ?_ ?_; (focus (simp [aev]; done))) | with_reducible refine AW.block ?_ | ((first | ((first | refine arun_nil ?_ | refine arunD_nil ?_); refine hK _ ?_; clear hK K) | refine AW.skip ?_ | refine AW.exit ?_ | refine AW.ret ?_); simp only [thenA_exit, inBlockA_exit, if_true, if_false, Nat.reduceEqDiff, thenA_normal, inBlockA_normal, reduceIte, thenA_ret, inBlockA_ret, endQ_ret, endR_ret, endG_ret, endQ_normal, endR_normal, endG_normal])))
      have hw : IntKind.i64.wrap (6 + v) = 6 + v := i64_nat (by omega) (by omega)
      have hl : (ks.map nodeL).length = ks.length := List.length_map _
      rcases Int.lt_or_le (ks.length : Int) (6 + v) with h | h
      · have hw2 : IntKind.i64.wrap ((ks.length : Int) + 1) = (ks.length : Int) + 1 := i64_nat (by omega) (by omega)
        have hb1 : (ks.length + 1) * 80 ≤ 140737488355328 := by omega
        have hb2 : ks.length + 1 ≤ 140737488355328 := by omega
        (repeat (first | with_reducible refine AW.seq ?_ | ((first | refine arun_kn 4 rfl (fun C hC => ?_) | refine arunD_kn 4 rfl (fun C hC => ?_)); (repeat ((conv => whnf); simp [hw, h, hw2, hl, hb1, hb2])); refine hC _ ?_; clear hC C; simp only [List.drop, Nat.reduceAdd]) | ((first | refine arun_kn 1 rfl (fun C hC => ?_) | refine arunD_kn 1 rfl (fun C hC => ?_)); (repeat ((conv => whnf); simp [hw, h, hw2, hl, hb1, hb2])); refine hC _ ?_; clear hC C; simp only [List.drop, Nat.reduceAdd]) | (refine arun_skip ?_ ?_; (focus (simp [awant, hw, h, hw2, hl, hb1, hb2]; done))) | (refine arun_c0 (copyNode_AC n hn .loose) ?_; rintro _ rfl) | (refine AW.regionK [] (fun K hK => ?_)) | (refine AW.regionDK [] (pcs [] []) (by kernel_rfl) (by kernel_rfl) (fun K hK => ?_)) | (refine AW.condT ?_ ?_; (focus (simp [aev, hw, h, hw2, hl, hb1, hb2]; done))) | (refine AW.condF ?_ ?_; (focus (simp [aev, hw, h, hw2, hl, hb1, hb2]; done))) | with_reducible refine AW.block ?_ | ((first | ((first | refine arun_nil ?_ | refine arunD_nil ?_); refine hK _ ?_; clear hK K) | refine AW.skip ?_ | refine AW.exit ?_ | refine AW.ret ?_); simp only [thenA_exit, inBlockA_exit, if_true, if_false, Nat.reduceEqDiff, thenA_normal, inBlockA_normal, reduceIte, thenA_ret, inBlockA_ret, endQ_ret, endR_ret, endG_ret, endQ_normal, endR_normal, endG_normal])))
        refine ⟨(ks ++ [n], b - 1), by simp only [List.length_append, List.length_cons, List.length_nil]; omega, ⟨by simp only [List.length_append, List.length_cons, List.length_nil]; omega, by simp only [List.length_append, List.length_cons, List.length_nil]; omega, ?_⟩, ?_⟩
        · intro x hx
          rcases List.mem_append.1 hx with hx | hx
          · exact hs x hx
          · rw [List.mem_singleton.1 hx]; exact hn
        · dsimp only
          rw [List.map_append]
          exact (less_of (by simp [lessL, mkSt, slots, nodeL_eq]) (by simp [upd, mkSt, rowsOf_cons, nodeL_eq]) (by simp [upd, mkSt, usedOf_cons, nodeL_eq]) (by first | exact rd_less (by omega) | simp [mkSt, nodeL_eq]) (by simp [slots, in_any, in_int, in_bool, in_str, in_ptr, in_own, in_agg, in_vnil, in_rdr, usedOf_cons, usedOf_nil, strs_in, ints_in, nodes_in, in_tup, nodeL_eq]) (by simp only [List.forall_mem_cons, List.not_mem_nil, false_implies, implies_true, and_true, true_and, nodeL_eq]; (repeat (first | with_reducible exact trivial | with_reducible refine And.intro ?_ ?_ | with_reducible exact in_int | with_reducible exact in_str | with_reducible exact in_bool | with_reducible exact strs_in _ | with_reducible exact nodes_in _ | with_reducible exact items_in _ | with_reducible exact in_vnil | with_reducible exact in_any | exact hin _ | with_reducible refine take_in ?_ | with_reducible exact strsE_in _ | with_reducible exact nodesE_in _ | with_reducible exact nodeL_in _ | with_reducible exact itemsE_in _ | with_reducible exact itemL_in _ | with_reducible refine app_in ?_ ?_ | with_reducible refine sing_in ?_ | (focus (simp [in_any, in_int, in_bool, in_str, in_ptr, in_own, in_agg, in_vnil, in_rdr, usedOf_cons, usedOf_nil, strs_in, ints_in, nodes_in, nodeL_eq]; done)))); done))
      · refine AW.hold 4 ?_
        have h' : ¬ ((ks.length : Int) < 6 + v) := by omega
        (repeat (first | with_reducible refine AW.seq ?_ | ((first | refine arun_kn 4 rfl (fun C hC => ?_) | refine arunD_kn 4 rfl (fun C hC => ?_)); (repeat ((conv => whnf); simp [hw, h', ASt.hold, AV.subL, AV.sub, rowsOf_cons])); refine hC _ ?_; clear hC C; simp only [List.drop, Nat.reduceAdd]) | ((first | refine arun_kn 1 rfl (fun C hC => ?_) | refine arunD_kn 1 rfl (fun C hC => ?_)); (repeat ((conv => whnf); simp [hw, h', ASt.hold, AV.subL, AV.sub, rowsOf_cons])); refine hC _ ?_; clear hC C; simp only [List.drop, Nat.reduceAdd]) | (refine arun_skip ?_ ?_; (focus (simp [awant, hw, h', ASt.hold, AV.subL, AV.sub, rowsOf_cons]; done))) | (refine AW.regionK [] (fun K hK => ?_)) | (refine AW.regionDK [] (pcs [] []) (by kernel_rfl) (by kernel_rfl) (fun K hK => ?_)) | (refine AW.condT ?_ ?_; (focus (simp [aev, hw, h', ASt.hold, AV.subL, AV.sub, rowsOf_cons]; done))) | (refine AW.condF ?_ ?_; (focus (simp [aev, hw, h', ASt.hold, AV.subL, AV.sub, rowsOf_cons]; done))) | with_reducible refine AW.block ?_ | ((first | ((first | refine arun_nil ?_ | refine arunD_nil ?_); refine hK _ ?_; clear hK K) | refine AW.skip ?_ | refine AW.exit ?_ | refine AW.ret ?_); simp only [thenA_exit, inBlockA_exit, if_true, if_false, Nat.reduceEqDiff, thenA_normal, inBlockA_normal, reduceIte, thenA_ret, inBlockA_ret, endQ_ret, endR_ret, endG_ret, endQ_normal, endR_normal, endG_normal])))
        exact ⟨.agg [.int .i64 3, .int .i64 0, .str ⟨#[]⟩, .view .tight 0 [], .view .loose 5 (ks.map nodeL)], by simp [ares, aresL, upd, rowsOf_cons, AV.subL, AV.sub, Row.sub], .inl ⟨pur_agg (by
          simp only [List.forall_mem_cons, List.not_mem_nil, false_implies, implies_true, and_true]
          exact ⟨pur_int, pur_int, pur_str, pur_view (by decide) (fun e he => by cases he), nodes_pur _ (by decide)⟩), _, kids_wk ks, _, .mk ⟨3, 0, ⟨#[]⟩, [], ks⟩ (by simp) (by dsimp only; omega) hs, rfl, rfl⟩⟩
  · (repeat (first | with_reducible refine AW.seq ?_ | ((first | refine arun_kn 4 rfl (fun C hC => ?_) | refine arunD_kn 4 rfl (fun C hC => ?_)); (repeat ((conv => whnf); simp [e0, e1, e2, e3, e4, e5])); refine hC _ ?_; clear hC C; simp only [List.drop, Nat.reduceAdd]) | ((first | refine arun_kn 1 rfl (fun C hC => ?_) | refine arunD_kn 1 rfl (fun C hC => ?_)); (repeat ((conv => whnf); simp [e0, e1, e2, e3, e4, e5])); refine hC _ ?_; clear hC C; simp only [List.drop, Nat.reduceAdd]) | (refine arun_skip ?_ ?_; (focus (simp [awant, e0, e1, e2, e3, e4, e5]; done))) | (refine AW.regionK [] (fun K hK => ?_)) | (refine AW.regionDK [] (pcs [] []) (by kernel_rfl) (by kernel_rfl) (fun K hK => ?_)) | (refine AW.condT ?_ ?_; (focus (simp [aev, e0, e1, e2, e3, e4, e5]; done))) | (refine AW.condF ?_ ?_; (focus (simp [aev, e0, e1, e2, e3, e4, e5]; done))) | with_reducible refine AW.block ?_ | ((first | ((first | refine arun_nil ?_ | refine arunD_nil ?_); refine hK _ ?_; clear hK K) | refine AW.skip ?_ | refine AW.exit ?_ | refine AW.ret ?_); simp only [thenA_exit, inBlockA_exit, if_true, if_false, Nat.reduceEqDiff, thenA_normal, inBlockA_normal, reduceIte, thenA_ret, inBlockA_ret, endQ_ret, endR_ret, endG_ret, endQ_normal, endR_normal, endG_normal])))
    exact ⟨nodeN n 100, by simp [nodeN, ares, aresL, upd, rowsOf_cons], r1_end n 100 hn (by simp [upd, namesRow])⟩
theorem repL2_inv {w : World} {ρ : Cx} {a b : AV} {vs : List Value} (h : RepL w ρ [a, b] vs) : ∃ v0 v1, vs = [v0, v1] ∧ Rep w ρ a v0 ∧ Rep w ρ b v1 := by
  unfold RepL at h; obtain ⟨v0, vs, rfl, h0, h⟩ := h
  unfold RepL at h; obtain ⟨v1, vs, rfl, h1, h⟩ := h
  unfold RepL at h; subst h
  exact ⟨_, _, rfl, h0, h1⟩
theorem repL1_inv {w : World} {ρ : Cx} {a : AV} {vs : List Value} (h : RepL w ρ [a] vs) : ∃ v0, vs = [v0] ∧ Rep w ρ a v0 := by
  unfold RepL at h; obtain ⟨v0, vs, rfl, h0, h⟩ := h
  unfold RepL at h; subst h
  exact ⟨_, rfl, h0⟩
theorem repL2 {w : World} {ρ : Cx} {a b : AV} {v0 v1 : Value} (h0 : Rep w ρ a v0) (h1 : Rep w ρ b v1) : RepL w ρ [a, b] [v0, v1] := by
  unfold RepL; refine ⟨_, _, rfl, h0, ?_⟩
  unfold RepL; refine ⟨_, _, rfl, h1, ?_⟩
  unfold RepL; rfl
theorem ValidNode_AC (n : Nd) (t : VC) : AC Tryd.prog 25 [nodeT t n] 0 (fun r => r = .bool (validB n)) := by
  refine AC.ofGrow (enters_of Tryd.func25 (by kernel_rfl) (by kernel_rfl)) (fun w L S rb vs h => ?_)
  obtain ⟨v, rfl, h1⟩ := repL1_inv h
  refine (ValidNode_ok n v w (node_of_rep h1)).mono ?_
  rintro e w' ⟨rfl, hg⟩
  exact ⟨_, _, rfl, hg, rep_bool.2 rfl, rfl⟩
theorem shapeL_mem : ∀ {l : List Nd} {d : Nat}, shapeL l d = true → ∀ k ∈ l, shapeB k d = true
  | [], _, _, k, hk => by cases hk
  | x :: l, d, h, k, hk => by
    simp only [shapeL, Bool.and_eq_true] at h
    rcases List.mem_cons.1 hk with rfl | hk
    · exact h.1
    · exact shapeL_mem h.2 k hk
theorem shape_sml : ∀ n, ∀ d, shapeB n d = true → Sml n := Nd.ind' _ (fun n ih d h => by
  rw [shapeB_eq] at h
  simp only [Bool.and_eq_true] at h
  have hp := parts_len h.1.2
  exact .mk n (by omega) (by omega) (fun k hk => ih k hk (d - 1) (shapeL_mem h.2 k hk)))
theorem eqs_iff {a b : ByteArray} : eqs a b = true ↔ a = b := by
  rw [eqs_def, beq_iff_eq]
  exact ⟨toList_inj, fun h => by rw [h]⟩
theorem tup2_pur {a b : AV} (h : Pur a) (k : Pur b) : Pur (.tup [a, b]) := pur_tup (by
  simp only [List.forall_mem_cons, List.not_mem_nil, false_implies, implies_true, and_true]
  exact ⟨h, k⟩)
def ByteL (zs : List Int) : Prop := ∀ z ∈ zs, 0 ≤ z ∧ z ≤ 255
theorem bytes_clo {t : VC} (zs : List Int) : Clo (.view t 1 (bytesE zs)) := clo_view (by
  intro e he c hc
  obtain ⟨z, _, rfl⟩ := List.mem_map.1 he
  rw [List.mem_singleton.1 hc]; exact clo_int)
theorem bytesE_len (zs : List Int) : (bytesE zs).length = zs.length := by unfold bytesE; rw [List.length_map]
def eqT : List ByteArray → List ByteArray → Bool
  | [], [] => true
  | x :: xs, y :: ys => eqs x y && eqT xs ys
  | _, _ => false
theorem eqT_len : ∀ {xs ys : List ByteArray}, eqT xs ys = true → xs.length = ys.length
  | [], [], _ => rfl
  | x :: xs, y :: ys, h => by unfold eqT at h; rw [Bool.and_eq_true] at h; simp [eqT_len h.2]
  | [], _ :: _, h => by cases h
  | _ :: _, [], h => by cases h
theorem eqT_refl : ∀ xs : List ByteArray, eqT xs xs = true
  | [] => rfl
  | x :: xs => by unfold eqT; rw [eqs_iff.2 rfl, eqT_refl xs]; rfl
theorem eqT_of_ne {xs ys : List ByteArray} (h : xs.length ≠ ys.length) : eqT xs ys = false := by
  cases hb : eqT xs ys
  · rfl
  · exact absurd (eqT_len hb) h
theorem equalTexts_AC (t t' : VC) (xs ys : List ByteArray) (hb : xs.length ≤ 1000000) : AC Tryd.prog 15 [.view t 1 (strsE xs), .view t' 1 (strsE ys)] 0 (fun r => r = .bool (eqT xs ys)) := by
  refine AC.of tab_ok mixed_ok Tryd.func15 (by rfl) (by kernel_rfl) ?_; rintro ⟨P, T, hT, hm, w0, S0, rd0, k0⟩ hP hTT; dsimp only at hP hTT; subst hP hTT; unfold initSt; rw [Tryd.ntmps15]
  by_cases hlen : xs.length = ys.length
  · have hlen' : ((xs.length : Int) != (ys.length : Int)) = false := by rw [hlen]; simp
    (repeat (first | with_reducible refine AW.seq ?_ | ((first | refine arun_kn 4 rfl (fun C hC => ?_) | refine arunD_kn 4 rfl (fun C hC => ?_)); (repeat ((conv => whnf); simp [strsE_len, hlen'])); refine hC _ ?_; clear hC C; simp only [List.drop, Nat.reduceAdd]) | ((first | refine arun_kn 1 rfl (fun C hC => ?_) | refine arunD_kn 1 rfl (fun C hC => ?_)); (repeat ((conv => whnf); simp [strsE_len, hlen'])); refine hC _ ?_; clear hC C; simp only [List.drop, Nat.reduceAdd]) | (refine arun_skip ?_ ?_; (focus (simp [awant, strsE_len, hlen']; done))) | (refine AW.regionK [] (fun K hK => ?_)) | (refine AW.regionDK [] (pcs [] []) (by kernel_rfl) (by kernel_rfl) (fun K hK => ?_)) | (refine AW.condT ?_ ?_; (focus (simp [aev, strsE_len, hlen']; done))) | (refine AW.condF ?_ ?_; (focus (simp [aev, strsE_len, hlen']; done))) | with_reducible refine AW.block ?_ | ((first | ((first | refine arun_nil ?_ | refine arunD_nil ?_); refine hK _ ?_; clear hK K) | refine AW.skip ?_ | refine AW.exit ?_ | refine AW.ret ?_); simp only [thenA_exit, inBlockA_exit, if_true, if_false, Nat.reduceEqDiff, thenA_normal, inBlockA_normal, reduceIte, thenA_ret, inBlockA_ret, endQ_ret, endR_ret, endG_ret, endQ_normal, endR_normal, endG_normal])))
    refine AW.loopS (fun (i : Nat) => mkSt (slots 0 26 [(0, .view t 1 (strsE xs)), (1, .view t' 1 (strsE ys)), (5, .int .i64 i)]) [] [] (rd0.map fun _ => 0)) (fun i => xs.length - i) (fun i => i ≤ xs.length ∧ eqT xs ys = eqT (xs.drop i) (ys.drop i)) 0 ?_ ⟨Nat.zero_le _, rfl⟩ ?_
    · exact less_a
    · rintro i ⟨hi, hf⟩
      by_cases hlt : i < xs.length
      · have hlt2 : i < ys.length := by omega
        have hw : IntKind.i64.wrap ((i : Int) + 1) = (i : Int) + 1 := i64_nat (by omega) (by omega)
        rw [List.drop_eq_getElem_cons hlt, List.drop_eq_getElem_cons hlt2, eqT] at hf
        cases h2 : eqs xs[i] ys[i] <;> rw [h2] at hf
        · (repeat (first | with_reducible refine AW.seq ?_ | ((first | refine arun_kn 4 rfl (fun C hC => ?_) | refine arunD_kn 4 rfl (fun C hC => ?_)); (repeat ((conv => whnf); simp [hlt, hlt2, hw, h2, strsE_len])); refine hC _ ?_; clear hC C; simp only [List.drop, Nat.reduceAdd]) | ((first | refine arun_kn 1 rfl (fun C hC => ?_) | refine arunD_kn 1 rfl (fun C hC => ?_)); (repeat ((conv => whnf); simp [hlt, hlt2, hw, h2, strsE_len])); refine hC _ ?_; clear hC C; simp only [List.drop, Nat.reduceAdd]) | (refine arun_skip ?_ ?_; (focus (simp [awant, hlt, hlt2, hw, h2, strsE_len]; done))) | (refine AW.regionK [] (fun K hK => ?_)) | (refine AW.regionDK [] (pcs [] []) (by kernel_rfl) (by kernel_rfl) (fun K hK => ?_)) | (refine AW.condT ?_ ?_; (focus (simp [aev, hlt, hlt2, hw, h2, strsE_len]; done))) | (refine AW.condF ?_ ?_; (focus (simp [aev, hlt, hlt2, hw, h2, strsE_len]; done))) | with_reducible refine AW.block ?_ | ((first | ((first | refine arun_nil ?_ | refine arunD_nil ?_); refine hK _ ?_; clear hK K) | refine AW.skip ?_ | refine AW.exit ?_ | refine AW.ret ?_); simp only [thenA_exit, inBlockA_exit, if_true, if_false, Nat.reduceEqDiff, thenA_normal, inBlockA_normal, reduceIte, thenA_ret, inBlockA_ret, endQ_ret, endR_ret, endG_ret, endQ_normal, endR_normal, endG_normal])))
          exact ⟨.bool false, by simp [ares, aresL], pur_bool, by rw [hf]; rfl⟩
        · (repeat (first | with_reducible refine AW.seq ?_ | ((first | refine arun_kn 4 rfl (fun C hC => ?_) | refine arunD_kn 4 rfl (fun C hC => ?_)); (repeat ((conv => whnf); simp [hlt, hlt2, hw, h2, strsE_len])); refine hC _ ?_; clear hC C; simp only [List.drop, Nat.reduceAdd]) | ((first | refine arun_kn 1 rfl (fun C hC => ?_) | refine arunD_kn 1 rfl (fun C hC => ?_)); (repeat ((conv => whnf); simp [hlt, hlt2, hw, h2, strsE_len])); refine hC _ ?_; clear hC C; simp only [List.drop, Nat.reduceAdd]) | (refine arun_skip ?_ ?_; (focus (simp [awant, hlt, hlt2, hw, h2, strsE_len]; done))) | (refine AW.regionK [] (fun K hK => ?_)) | (refine AW.regionDK [] (pcs [] []) (by kernel_rfl) (by kernel_rfl) (fun K hK => ?_)) | (refine AW.condT ?_ ?_; (focus (simp [aev, hlt, hlt2, hw, h2, strsE_len]; done))) | (refine AW.condF ?_ ?_; (focus (simp [aev, hlt, hlt2, hw, h2, strsE_len]; done))) | with_reducible refine AW.block ?_ | ((first | ((first | refine arun_nil ?_ | refine arunD_nil ?_); refine hK _ ?_; clear hK K) | refine AW.skip ?_ | refine AW.exit ?_ | refine AW.ret ?_); simp only [thenA_exit, inBlockA_exit, if_true, if_false, Nat.reduceEqDiff, thenA_normal, inBlockA_normal, reduceIte, thenA_ret, inBlockA_ret, endQ_ret, endR_ret, endG_ret, endQ_normal, endR_normal, endG_normal])))
          exact ⟨i + 1, by omega, ⟨by omega, by rw [hf]; rfl⟩, less_a⟩
      · rw [List.drop_eq_nil_of_le (by omega), List.drop_eq_nil_of_le (by omega)] at hf
        (repeat (first | with_reducible refine AW.seq ?_ | ((first | refine arun_kn 4 rfl (fun C hC => ?_) | refine arunD_kn 4 rfl (fun C hC => ?_)); (repeat ((conv => whnf); simp [hlt, strsE_len])); refine hC _ ?_; clear hC C; simp only [List.drop, Nat.reduceAdd]) | ((first | refine arun_kn 1 rfl (fun C hC => ?_) | refine arunD_kn 1 rfl (fun C hC => ?_)); (repeat ((conv => whnf); simp [hlt, strsE_len])); refine hC _ ?_; clear hC C; simp only [List.drop, Nat.reduceAdd]) | (refine arun_skip ?_ ?_; (focus (simp [awant, hlt, strsE_len]; done))) | (refine AW.regionK [] (fun K hK => ?_)) | (refine AW.regionDK [] (pcs [] []) (by kernel_rfl) (by kernel_rfl) (fun K hK => ?_)) | (refine AW.condT ?_ ?_; (focus (simp [aev, hlt, strsE_len]; done))) | (refine AW.condF ?_ ?_; (focus (simp [aev, hlt, strsE_len]; done))) | with_reducible refine AW.block ?_ | ((first | ((first | refine arun_nil ?_ | refine arunD_nil ?_); refine hK _ ?_; clear hK K) | refine AW.skip ?_ | refine AW.exit ?_ | refine AW.ret ?_); simp only [thenA_exit, inBlockA_exit, if_true, if_false, Nat.reduceEqDiff, thenA_normal, inBlockA_normal, reduceIte, thenA_ret, inBlockA_ret, endQ_ret, endR_ret, endG_ret, endQ_normal, endR_normal, endG_normal])))
        exact ⟨.bool true, by simp [ares, aresL], pur_bool, by rw [hf]; rfl⟩
  · have hlen' : ((xs.length : Int) != (ys.length : Int)) = true := by rw [bne_iff_ne]; omega
    (repeat (first | with_reducible refine AW.seq ?_ | ((first | refine arun_kn 4 rfl (fun C hC => ?_) | refine arunD_kn 4 rfl (fun C hC => ?_)); (repeat ((conv => whnf); simp [strsE_len, hlen'])); refine hC _ ?_; clear hC C; simp only [List.drop, Nat.reduceAdd]) | ((first | refine arun_kn 1 rfl (fun C hC => ?_) | refine arunD_kn 1 rfl (fun C hC => ?_)); (repeat ((conv => whnf); simp [strsE_len, hlen'])); refine hC _ ?_; clear hC C; simp only [List.drop, Nat.reduceAdd]) | (refine arun_skip ?_ ?_; (focus (simp [awant, strsE_len, hlen']; done))) | (refine AW.regionK [] (fun K hK => ?_)) | (refine AW.regionDK [] (pcs [] []) (by kernel_rfl) (by kernel_rfl) (fun K hK => ?_)) | (refine AW.condT ?_ ?_; (focus (simp [aev, strsE_len, hlen']; done))) | (refine AW.condF ?_ ?_; (focus (simp [aev, strsE_len, hlen']; done))) | with_reducible refine AW.block ?_ | ((first | ((first | refine arun_nil ?_ | refine arunD_nil ?_); refine hK _ ?_; clear hK K) | refine AW.skip ?_ | refine AW.exit ?_ | refine AW.ret ?_); simp only [thenA_exit, inBlockA_exit, if_true, if_false, Nat.reduceEqDiff, thenA_normal, inBlockA_normal, reduceIte, thenA_ret, inBlockA_ret, endQ_ret, endR_ret, endG_ret, endQ_normal, endR_normal, endG_normal])))
    exact ⟨.bool false, by simp [ares, aresL], pur_bool, by rw [eqT_of_ne hlen]⟩
def pathsE (l : List (List ByteArray)) : List (List AV) := l.map fun xs => [.view .loose 1 (strsE xs)]
theorem pathsE_len (l : List (List ByteArray)) : (pathsE l).length = l.length := by unfold pathsE; rw [List.length_map]
theorem pathsE_get (l : List (List ByteArray)) (i : Nat) : (pathsE l)[i]? = (l[i]?).map fun xs => [.view .loose 1 (strsE xs)] := by unfold pathsE; rw [List.getElem?_map]
theorem pathsE_at (l : List (List ByteArray)) (i : Nat) (h : i < (pathsE l).length) : (pathsE l)[i] = [.view .loose 1 (strsE (l[i]'(by rw [pathsE_len] at h; exact h)))] := Option.some.inj (by rw [← List.getElem?_eq_getElem h, pathsE_get, List.getElem?_eq_getElem (by rw [pathsE_len] at h; exact h)]; rfl)
theorem pathsE_pur (l : List (List ByteArray)) : ∀ e ∈ pathsE l, ∀ c ∈ e, Pur c := fun e he c hc => by
  obtain ⟨k, _, rfl⟩ := List.mem_map.1 he
  rw [List.mem_singleton.1 hc]; exact strs_pur _ (by decide)
theorem pathsE_clo (l : List (List ByteArray)) : ∀ e ∈ pathsE l, ∀ c ∈ e, Clo c := fun e he c hc => (pathsE_pur l e he c hc).clo
theorem pathsE_in {U : Nat → Bool} (l : List (List ByteArray)) : ∀ e ∈ pathsE l, ∀ c ∈ e, AV.In U c := fun e he c hc => by
  obtain ⟨k, _, rfl⟩ := List.mem_map.1 he
  rw [List.mem_singleton.1 hc]; exact strs_in _
theorem paths_clo {t : VC} (l : List (List ByteArray)) : Clo (.view t 1 (pathsE l)) := clo_view (pathsE_clo l)
theorem paths_pur {t : VC} (l : List (List ByteArray)) (h : t ≠ .lent) : Pur (.view t 1 (pathsE l)) := pur_view h (pathsE_pur l)
theorem paths_in {U : Nat → Bool} {t : VC} (l : List (List ByteArray)) : AV.In U (.view t 1 (pathsE l)) := in_view.2 (pathsE_in l)
theorem eqs_self' (a : ByteArray) : eqs a a = true := eqs_iff.2 rfl
theorem in_paths {U : Nat → Bool} {t : VC} {l : List (List ByteArray)} : AV.In U (.view t 1 (pathsE l)) := in_view.2 (pathsE_in l)
def cN : Nat := nC 3 + 30 + 4 * nC 2
end Go.Proofs.YtmjbbakendnmmaaDoor.Eng
namespace Go.Proofs.YtmjbbakendnmmaaDoor
open Go.RowKit Go.ChangeShapes Go.WideShapes Go.Deep
section
variable {H : Type} {enc : TypeId × Value → H} {W : World} {base : Nat} {sp : Nat → Bool} {held : Bool}
theorem addr_spot {w : World} {a : Addr} {v : Value} (h : w.cell? a = some v) : ∃ b o, a = ⟨b, o, none⟩ := by
  have := World.cell?_spot h
  exact ⟨a.block, a.off, by cases a; simp_all⟩
theorem add_mk (b o i : Nat) : (⟨b, o, none⟩ : Addr).add i = ⟨b, o + i, none⟩ := by
  unfold Addr.add; split
  · rename_i h; subst h; rfl
  · rfl
end
end Go.Proofs.YtmjbbakendnmmaaDoor
namespace Go.Proofs.YtmjbbakendnmmaaDoor
open Go.RowKit Go.ChangeShapes Go.WideShapes Go.Deep
def BytesR (W : World) (zs : List Int) (v : Value) : Prop := ∃ a c, v = .slice a zs.length c ∧ zs.length ≤ c ∧ zs.length ≤ big ∧ (zs = [] ∨ ∃ b o, a = some ⟨b, o, none⟩ ∧ ∀ i (h : i < zs.length), W.cell? ⟨b, o + i, none⟩ = some (.int .u8 zs[i])) ∧ Eng.ByteL zs
section
variable {H : Type} {enc : TypeId × Value → H} {W : World} {base : Nat} {sp : Nat → Bool} {held : Bool}
theorem rv_bytes {fuel : Nat} {v : Value} {x : DataW H × List MemPlace} (h : DataW.trod enc Tryd.prog W base sp held fuel 22 [v] = some x) : ∃ zs, BytesR W zs v := by
  rcases open_slice Tryd.underlying22 h with ⟨e, _⟩ | ⟨a, len, cap, m, n, D, Pl, e, _, hl, hm, hmm, _, hi⟩
  · cases e
    exact ⟨[], none, 0, rfl, by simp, by simp, .inl rfl, fun z hz => by cases hz⟩
  · cases e
    have hlm : len ≤ m := by rw [hmm]; split <;> omega
    have hel : ∀ i, i < len → ∃ z : Int, W.cell? (a.add i) = some (.int .u8 z) ∧ (0 ≤ z ∧ z ≤ 255) := fun i hi' => by
      obtain ⟨cs', h1, h2⟩ := hi i (by omega)
      have hc : Tryd.prog.cellsOf 5 = 1 := by kernel_rfl
      rw [hc] at h1
      obtain ⟨_, hlen, hat⟩ := World.cells?_some h1
      obtain ⟨z, rfl, _, hz⟩ := DataW.trod_int Tryd.underlying5 h2
      have := hat 0 (by omega)
      refine ⟨z, by simpa [Go.Deep.add_add] using this, ?_⟩
      simp only [Lit.wf, Bool.and_eq_true, decide_eq_true_eq] at hz
      simpa [IntKind.min, IntKind.max, IntKind.signed, IntKind.bits] using hz
    have : Inhabited Int := ⟨0⟩
    obtain ⟨f, hf⟩ := choose_lt hel
    have hkl : ((List.range len).map f).length = len := by simp
    refine ⟨(List.range len).map f, some a, cap, by rw [hkl], by rw [hkl]; exact hl, by rw [hkl]; unfold maxLen at hm; unfold big; omega, ?_, ?_⟩
    · by_cases h0 : len = 0
      · subst h0; exact .inl rfl
      · obtain ⟨b, o, ha⟩ := addr_spot (hf 0 (by omega)).1
        have ha' : a = ⟨b, o, none⟩ := by simpa [Addr.add] using ha
        subst ha'
        refine .inr ⟨b, o, rfl, fun i hi' => ?_⟩
        simp at hi'
        have := (hf i hi').1
        rw [add_mk] at this
        simpa using this
    · intro z hz
      obtain ⟨i, hi', rfl⟩ := List.mem_map.1 hz
      exact (hf i (List.mem_range.1 hi')).2
end
theorem law_bytes {f : FuncId} {zs : List Int} {v : Value} (h : Eng.ByteL zs → Eng.AC0 Tryd.prog f [.view .loose 1 (Eng.bytesE zs)] (fun r => r = .bool true)) (W : World) (hv : BytesR W zs v) :
    Calls Tryd.prog f #[v] W fun e W' => e = .returned (.bool true) ∧ Grow W W' := by
  obtain ⟨a, c, rfl, h1, h2, h3, h4⟩ := hv
  refine ((h h4).2 W nil (fun b => b < W.heap.size) [.slice a zs.length c] (fun b hb => hb.elim) (fun b hb => hb) ?_).mono ?_
  · unfold Eng.RepL
    refine ⟨_, _, rfl, ?_, by unfold Eng.RepL; rfl⟩
    refine Eng.rep_view.2 ⟨a, c, by rw [Eng.bytesE_len], fun h => (by cases h), by rw [Eng.bytesE_len]; exact h1, by rw [Eng.bytesE_len]; exact h2, fun e he => ?_, ?_⟩
    · obtain ⟨k, _, rfl⟩ := List.mem_map.1 he; rfl
    · rcases h3 with rfl | ⟨b, o, ha, hc⟩
      · exact .inl rfl
      · by_cases hz : zs = []
        · subst hz; exact .inl rfl
        · have hb : b < W.heap.size := lt_of_cell (hc 0 (List.length_pos_iff.2 hz))
          refine .inr ⟨b, o, ha, hb, Eng.RepE.of_get (sz := 1) (fun e he => ?_) (fun i e he => ?_)⟩
          · obtain ⟨k, _, rfl⟩ := List.mem_map.1 he; rfl
          · unfold Eng.bytesE at he
            rw [List.getElem?_map, Option.map_eq_some_iff] at he
            obtain ⟨x, hx, rfl⟩ := he
            obtain ⟨hi, rfl⟩ := List.getElem?_eq_some_iff.1 hx
            refine Eng.RepC.of_get (fun j d hd => ?_)
            have hj := (List.getElem?_eq_some_iff.1 hd).1
            simp only [List.length_cons, List.length_nil] at hj
            obtain rfl : j = 0 := by omega
            simp only [List.getElem?_cons_zero, Option.some.injEq] at hd
            subst hd
            exact ⟨_, by simpa using hc i hi, rfl, Eng.rep_int.2 rfl⟩
  · rintro e w' ⟨u, r, S', rfl, hg, _, _, hr, rfl⟩
    rw [Eng.rep_bool.1 hr]
    exact ⟨rfl, hg⟩
end Go.Proofs.YtmjbbakendnmmaaDoor
namespace Go.Proofs.YtmjbbakendnmmaaDoor.Eng
open Go Go.RowKit
attribute [local simp] big size_mk ASt.pay Option.map_map Function.comp_def awant aop acall ado aev ofVal ofVal0 ASt.put ASt.add ASt.turn ASt.kill abox aalloc astore aload ASt.at cellsTo afieldAddr afield aindexAddr aindex alen abin aint acmp astr aun apick aextract anil aslice abound abuild afill abuildSlice asCells aps avCells over upd aappend asrc amax amin aconv mkSt slots rowsOf_cons rowsOf_nil usedOf_cons usedOf_nil ZK.av List.replicate ASt.back ASt.addL ASt.killL nodeA nodeT nodeTL_eq nodeL_eq strsE_get strsE_len intsE_get intsE_len strsE_at intsE_at tab2 tab3 tab4 tab5 tab6 tab7 tab8 tab9 tab10 tab11 tab12 tab13 tab14 tab15 tab16 tab17 tab18 tab19 tab21 tab22 tab23 tab24 tab25 tab26 tab28 tab33 tab34 tab35 tab51 tab52 tab55 tab56 tab61 tab78 tab79 tab80 tab98 tab104 tab110 tab117 tab118 tab123 tab124 tab126 tab127 tab128
theorem dig_cut (k : Nat) (h : k < 10) : (⟨#[48, 49, 50, 51, 52, 53, 54, 55, 56, 57, 97, 98, 99, 100, 101, 102, 103, 104, 105, 106, 107, 108, 109, 110, 111, 112, 113, 114, 115, 116, 117, 118, 119, 120, 121, 122]⟩ : ByteArray).extract k (k + 1) = txt (dig1 k) := by
  have : ∀ k, k < 10 → (⟨#[48, 49, 50, 51, 52, 53, 54, 55, 56, 57, 97, 98, 99, 100, 101, 102, 103, 104, 105, 106, 107, 108, 109, 110, 111, 112, 113, 114, 115, 116, 117, 118, 119, 120, 121, 122]⟩ : ByteArray).extract k (k + 1) = txt (dig1 k) := by decide +kernel
  exact this k h
theorem small_AC (k : Nat) (hk : k < 10) : AC Tryd.prog 111 [.int .i64 (k : Int)] 0 (fun r => r = .str (txt (dig1 k))) := by
  have h10 : (k : Int) < 10 := by omega
  have hw : IntKind.i64.wrap ((k : Int) + 1) = (k : Int) + 1 := i64_nat (by omega) (by omega)
  have h1 : (0 : Int) ≤ (k : Int) + 1 := by omega
  have h2 : (k : Int) + 1 ≤ 36 := by omega
  have h3 : (k : Int) ≤ (k : Int) + 1 := by omega
  have h4 : ((k : Int) + 1).toNat = k + 1 := by omega
  have h5 : (0 : Int) ≤ (k : Int) := by omega
  refine AC.of tab_ok mixed_ok Tryd.func111 (by rfl) (by kernel_rfl) ?_; rintro ⟨P, T, hT, hm, w0, S0, rd0, k0⟩ hP hTT; dsimp only at hP hTT; subst hP hTT; unfold initSt; rw [Tryd.ntmps111]
  (repeat (first | with_reducible refine AW.seq ?_ | ((first | refine arun_kn 4 rfl (fun C hC => ?_) | refine arunD_kn 4 rfl (fun C hC => ?_)); (repeat ((conv => whnf); simp [h10, hw, h1, h2, h3, h4, h5, dig_cut k hk])); refine hC _ ?_; clear hC C; simp only [List.drop, Nat.reduceAdd]) | ((first | refine arun_kn 1 rfl (fun C hC => ?_) | refine arunD_kn 1 rfl (fun C hC => ?_)); (repeat ((conv => whnf); simp [h10, hw, h1, h2, h3, h4, h5, dig_cut k hk])); refine hC _ ?_; clear hC C; simp only [List.drop, Nat.reduceAdd]) | (refine arun_skip ?_ ?_; (focus (simp [awant, h10, hw, h1, h2, h3, h4, h5, dig_cut k hk]; done))) | (refine AW.regionK [] (fun K hK => ?_)) | (refine AW.regionDK [] (pcs [] []) (by kernel_rfl) (by kernel_rfl) (fun K hK => ?_)) | (refine AW.condT ?_ ?_; (focus (simp [aev, h10, hw, h1, h2, h3, h4, h5, dig_cut k hk]; done))) | (refine AW.condF ?_ ?_; (focus (simp [aev, h10, hw, h1, h2, h3, h4, h5, dig_cut k hk]; done))) | with_reducible refine AW.block ?_ | ((first | ((first | refine arun_nil ?_ | refine arunD_nil ?_); refine hK _ ?_; clear hK K) | refine AW.skip ?_ | refine AW.exit ?_ | refine AW.ret ?_); simp only [thenA_exit, inBlockA_exit, if_true, if_false, Nat.reduceEqDiff, thenA_normal, inBlockA_normal, reduceIte, thenA_ret, inBlockA_ret, endQ_ret, endR_ret, endG_ret, endQ_normal, endR_normal, endG_normal])))
  exact ⟨.str (txt (dig1 k)), by simp [ares, aresL], pur_str, rfl⟩
theorem FormatInt_AC (k : Nat) (hk : k < 10) : AC Tryd.prog 109 [.int .i64 (k : Int), .int .i64 10] 0 (fun r => r = .str (txt (dig1 k))) := by
  have h10 : (k : Int) < 100 := by omega
  have h5 : (0 : Int) ≤ (k : Int) := by omega
  refine AC.of tab_ok mixed_ok Tryd.func109 (by rfl) (by kernel_rfl) ?_; rintro ⟨P, T, hT, hm, w0, S0, rd0, k0⟩ hP hTT; dsimp only at hP hTT; subst hP hTT; unfold initSt; rw [Tryd.ntmps109]
  (repeat (first | with_reducible refine AW.seq ?_ | ((first | refine arun_kn 4 rfl (fun C hC => ?_) | refine arunD_kn 4 rfl (fun C hC => ?_)); (repeat ((conv => whnf); simp [h10, h5])); refine hC _ ?_; clear hC C; simp only [List.drop, Nat.reduceAdd]) | ((first | refine arun_kn 1 rfl (fun C hC => ?_) | refine arunD_kn 1 rfl (fun C hC => ?_)); (repeat ((conv => whnf); simp [h10, h5])); refine hC _ ?_; clear hC C; simp only [List.drop, Nat.reduceAdd]) | (refine arun_skip ?_ ?_; (focus (simp [awant, h10, h5]; done))) | (refine arun_c0 (small_AC k hk) ?_; rintro _ rfl) | (refine AW.regionK [] (fun K hK => ?_)) | (refine AW.regionDK [] (pcs [] []) (by kernel_rfl) (by kernel_rfl) (fun K hK => ?_)) | (refine AW.condT ?_ ?_; (focus (simp [aev, h10, h5]; done))) | (refine AW.condF ?_ ?_; (focus (simp [aev, h10, h5]; done))) | with_reducible refine AW.block ?_ | ((first | ((first | refine arun_nil ?_ | refine arunD_nil ?_); refine hK _ ?_; clear hK K) | refine AW.skip ?_ | refine AW.exit ?_ | refine AW.ret ?_); simp only [thenA_exit, inBlockA_exit, if_true, if_false, Nat.reduceEqDiff, thenA_normal, inBlockA_normal, reduceIte, thenA_ret, inBlockA_ret, endQ_ret, endR_ret, endG_ret, endQ_normal, endR_normal, endG_normal])))
  exact ⟨.str (txt (dig1 k)), by simp [ares, aresL], pur_str, rfl⟩
theorem Itoa0_AC (k : Nat) (hk : k < 10) : AC Tryd.prog 102 [.int .i64 (k : Int)] 0 (fun r => r = .str (txt (dig1 k))) := by
  refine AC.of tab_ok mixed_ok Tryd.func102 (by rfl) (by kernel_rfl) ?_; rintro ⟨P, T, hT, hm, w0, S0, rd0, k0⟩ hP hTT; dsimp only at hP hTT; subst hP hTT; unfold initSt; rw [Tryd.ntmps102]
  (repeat (first | with_reducible refine AW.seq ?_ | ((first | refine arun_kn 4 rfl (fun C hC => ?_) | refine arunD_kn 4 rfl (fun C hC => ?_)); (repeat ((conv => whnf); simp)); refine hC _ ?_; clear hC C; simp only [List.drop, Nat.reduceAdd]) | ((first | refine arun_kn 1 rfl (fun C hC => ?_) | refine arunD_kn 1 rfl (fun C hC => ?_)); (repeat ((conv => whnf); simp)); refine hC _ ?_; clear hC C; simp only [List.drop, Nat.reduceAdd]) | (refine arun_skip ?_ ?_; (focus (simp [awant]; done))) | (refine arun_c0 (FormatInt_AC k hk) ?_; rintro _ rfl) | (refine AW.regionK [] (fun K hK => ?_)) | (refine AW.regionDK [] (pcs [] []) (by kernel_rfl) (by kernel_rfl) (fun K hK => ?_)) | (refine AW.condT ?_ ?_; (focus (simp [aev]; done))) | (refine AW.condF ?_ ?_; (focus (simp [aev]; done))) | with_reducible refine AW.block ?_ | ((first | ((first | refine arun_nil ?_ | refine arunD_nil ?_); refine hK _ ?_; clear hK K) | refine AW.skip ?_ | refine AW.exit ?_ | refine AW.ret ?_); simp only [thenA_exit, inBlockA_exit, if_true, if_false, Nat.reduceEqDiff, thenA_normal, inBlockA_normal, reduceIte, thenA_ret, inBlockA_ret, endQ_ret, endR_ret, endG_ret, endQ_normal, endR_normal, endG_normal])))
  exact ⟨.str (txt (dig1 k)), by simp [ares, aresL], pur_str, rfl⟩
theorem Itoa_AC (k : Nat) (hk : k < 10) : AC Tryd.prog 89 [.int .i64 (k : Int)] 0 (fun r => r = .str (txt (dig1 k))) := by
  refine AC.of tab_ok mixed_ok Tryd.func89 (by rfl) (by kernel_rfl) ?_; rintro ⟨P, T, hT, hm, w0, S0, rd0, k0⟩ hP hTT; dsimp only at hP hTT; subst hP hTT; unfold initSt; rw [Tryd.ntmps89]
  (repeat (first | with_reducible refine AW.seq ?_ | ((first | refine arun_kn 4 rfl (fun C hC => ?_) | refine arunD_kn 4 rfl (fun C hC => ?_)); (repeat ((conv => whnf); simp)); refine hC _ ?_; clear hC C; simp only [List.drop, Nat.reduceAdd]) | ((first | refine arun_kn 1 rfl (fun C hC => ?_) | refine arunD_kn 1 rfl (fun C hC => ?_)); (repeat ((conv => whnf); simp)); refine hC _ ?_; clear hC C; simp only [List.drop, Nat.reduceAdd]) | (refine arun_skip ?_ ?_; (focus (simp [awant]; done))) | (refine arun_c0 (Itoa0_AC k hk) ?_; rintro _ rfl) | (refine AW.regionK [] (fun K hK => ?_)) | (refine AW.regionDK [] (pcs [] []) (by kernel_rfl) (by kernel_rfl) (fun K hK => ?_)) | (refine AW.condT ?_ ?_; (focus (simp [aev]; done))) | (refine AW.condF ?_ ?_; (focus (simp [aev]; done))) | with_reducible refine AW.block ?_ | ((first | ((first | refine arun_nil ?_ | refine arunD_nil ?_); refine hK _ ?_; clear hK K) | refine AW.skip ?_ | refine AW.exit ?_ | refine AW.ret ?_); simp only [thenA_exit, inBlockA_exit, if_true, if_false, Nat.reduceEqDiff, thenA_normal, inBlockA_normal, reduceIte, thenA_ret, inBlockA_ret, endQ_ret, endR_ret, endG_ret, endQ_normal, endR_normal, endG_normal])))
  exact ⟨.str (txt (dig1 k)), by simp [ares, aresL], pur_str, rfl⟩
end Go.Proofs.YtmjbbakendnmmaaDoor.Eng
namespace Go.Proofs.YtmjbbakendnmmaaDoor.Eng
open Go Go.RowKit
def stp (kind : Int) (names : List ByteArray) (i : Nat) : ByteArray := if kind = 4 then (names[i]?).getD ⟨#[]⟩ else txt (dig1 i)
mutual
def allS : Nd → List (List ByteArray)
  | ⟨k, _, _, ns, ks⟩ => [] :: allL k ns ks 0
def allL (k : Int) (ns : List ByteArray) : List Nd → Nat → List (List ByteArray)
  | [], _ => []
  | x :: xs, i => (allS x).map (stp k ns i :: ·) ++ allL k ns xs (i + 1)
end
theorem allS_eq (n : Nd) : allS n = [] :: allL n.kind n.names n.kids 0 := by cases n; rw [allS]
theorem allL_drop {k : Int} {ns : List ByteArray} {ks : List Nd} {i : Nat} (h : i < ks.length) : allL k ns (ks.drop i) i = (allS ks[i]).map (stp k ns i :: ·) ++ allL k ns (ks.drop (i + 1)) (i + 1) := by
  rw [List.drop_eq_getElem_cons h, allL]
theorem allL_end {k : Int} {ns : List ByteArray} {ks : List Nd} {i : Nat} (h : ¬ i < ks.length) : allL k ns (ks.drop i) i = [] := by
  rw [List.drop_eq_nil_of_le (by omega), allL]
theorem map_step (p : List ByteArray) (st : ByteArray) (l : List (List ByteArray)) : (l.map (st :: ·)).map (p ++ ·) = l.map ((p ++ [st]) ++ ·) := by
  rw [List.map_map]
  refine List.map_congr_left (fun x _ => ?_)
  simp
mutual
theorem allS_len : ∀ n : Nd, (allS n).length = n.count
  | ⟨k, _, _, ns, ks⟩ => by rw [allS, Nd.count, List.length_cons, allL_len k ns ks 0]; omega
theorem allL_len (k : Int) (ns : List ByteArray) : ∀ (ks : List Nd) (i : Nat), (allL k ns ks i).length = countL ks
  | [], _ => by rw [allL, countL]; rfl
  | x :: xs, i => by rw [allL, countL, List.length_append, List.length_map, allS_len x, allL_len k ns xs (i + 1)]
end
inductive Way : Nd → Prop where
  | mk (n : Nd) (h1 : n.kind = 4 → n.kids.length ≤ n.names.length) (h2 : n.kids.length ≤ 6) (h3 : ∀ k ∈ n.kids, Way k) : Way n
theorem Way.names {n : Nd} : Way n → n.kind = 4 → n.kids.length ≤ n.names.length | .mk _ h _ _ => h
theorem Way.kids {n : Nd} : Way n → n.kids.length ≤ 6 | .mk _ _ h _ => h
theorem Way.kid {n : Nd} : Way n → ∀ k ∈ n.kids, Way k | .mk _ _ _ h => h
theorem count_mem : ∀ {ks : List Nd} {k : Nd}, k ∈ ks → k.count ≤ countL ks
  | [], _, h => by cases h
  | x :: xs, k, h => by
    rw [countL]
    rcases List.mem_cons.1 h with rfl | h
    · omega
    · have := count_mem h; omega
end Go.Proofs.YtmjbbakendnmmaaDoor.Eng
namespace Go.Proofs.YtmjbbakendnmmaaDoor.Eng
open Go Go.RowKit
attribute [local simp] big size_mk ASt.pay Option.map_map Function.comp_def awant aop acall ado aev ofVal ofVal0 ASt.put ASt.add ASt.turn ASt.kill abox aalloc astore aload ASt.at cellsTo afieldAddr afield aindexAddr aindex alen abin aint acmp astr aun apick aextract anil aslice abound abuild afill abuildSlice asCells aps avCells over upd aappend asrc amax amin aconv mkSt slots rowsOf_cons rowsOf_nil usedOf_cons usedOf_nil ZK.av List.replicate ASt.back ASt.addL ASt.killL nodeA nodeT nodeTL_eq nodeL_eq strsE_get strsE_len intsE_get intsE_len strsE_at intsE_at tab2 tab3 tab4 tab5 tab6 tab7 tab8 tab9 tab10 tab11 tab12 tab13 tab14 tab15 tab16 tab17 tab18 tab19 tab21 tab22 tab23 tab24 tab25 tab26 tab28 tab33 tab34 tab35 tab51 tab52 tab55 tab56 tab61 tab78 tab79 tab80 tab98 tab104 tab110 tab117 tab118 tab123 tab124 tab126 tab127 tab128
def nodeRR (n : Nd) (a b : Nat) : AV := .agg [.int .i64 n.kind, .int .i64 n.num, .str n.text, .own a n.names.length, .own b n.kids.length]
def namesR (xs : List ByteArray) : Row := ⟨false, 9, 1, strsE xs⟩
def nodesR (ks : List Nd) : Row := ⟨false, 26, 5, ks.map nodeL⟩
def zeroN : List AV := [.int .i64 0, .int .i64 0, .str ⟨#[]⟩, .view .tight 0 [], .view .tight 0 []]
def part (ks : List Nd) (i : Nat) : List (List AV) := (ks.take i).map nodeL ++ List.replicate (ks.length - i) zeroN
theorem part_len (ks : List Nd) (i : Nat) (h : i ≤ ks.length) : (part ks i).length = ks.length := by unfold part; simp; omega
theorem part_zero (ks : List Nd) : part ks 0 = List.replicate ks.length zeroN := by unfold part; simp
theorem part_all (ks : List Nd) : part ks ks.length = ks.map nodeL := by unfold part; simp
theorem part_get (ks : List Nd) (i : Nat) (h : i < ks.length) : (part ks i)[i]? = some [.int .i64 0, .int .i64 0, .str ⟨#[]⟩, .view .tight 0 [], .view .tight 0 []] := by
  unfold part
  have : ((ks.take i).map nodeL).length = i := by simp; omega
  rw [List.getElem?_append_right (by omega), this, Nat.sub_self, List.getElem?_replicate, if_pos (by omega)]
  rfl
theorem part_set (ks : List Nd) (i : Nat) (h : i < ks.length) : (part ks i).set i (nodeL ks[i]) = part ks (i + 1) := by
  unfold part
  have hl : ((ks.take i).map nodeL).length = i := by simp; omega
  rw [List.set_append_right _ _ (by omega), hl, Nat.sub_self, List.take_add_one, List.getElem?_eq_getElem h]
  have : ks.length - i = (ks.length - (i + 1)) + 1 := by omega
  rw [this, List.replicate_succ, List.set_cons_zero, List.map_append, List.append_assoc]
  rfl
theorem part_in {U : Nat → Bool} (ks : List Nd) (i : Nat) : ∀ e ∈ part ks i, ∀ c ∈ e, AV.In U c := by
  intro e he c hc
  unfold part at he
  rcases List.mem_append.1 he with he | he
  · exact nodesE_in (ks.take i) e he c hc
  · rw [List.eq_of_mem_replicate he] at hc
    simp only [zeroN, List.mem_cons, List.not_mem_nil, or_false] at hc
    rcases hc with rfl | rfl | rfl | rfl | rfl
    · exact in_int
    · exact in_int
    · exact in_str
    · exact in_vnil
    · exact in_vnil
theorem implCopy_step (n : Nd) (hs : Sml n) (ih : ∀ k ∈ n.kids, AC Tryd.prog 55 [nodeA k] 0 (fun r => r = nodeA k)) : ACG Tryd.prog 55 [nodeA n] [] 0 (fun r l => r = nodeRR n 20 34 ∧ l = [(20, namesR n.names), (34, nodesR n.kids)]) := by
  have hs1 := hs.names
  have hs2 := hs.kids
  unfold nodeA
  rw [nodeL_eq]
  refine ACG.of tab_ok mixed_ok Tryd.func55 (by rfl) (by kernel_rfl) (by simp) ?_; rintro ⟨P, T, hT, hm, w0, S0, rd0, k0⟩ hP hTT; dsimp only at hP hTT; subst hP hTT; unfold initStG; rw [Tryd.ntmps55]
  refine AW.seq ?_
  (refine AW.regionK [] (fun K hK => ?_); (repeat (refine arun_ks 4 rfl (fun C hC => ?_); (repeat ((conv => whnf); simp)); refine hC _ ?_; clear hC C; simp only [List.drop_succ_cons, List.drop_zero, List.drop_nil])); refine arun_nil ?_; refine hK _ ?_; clear hK K; simp only [thenA_normal, inBlockA_normal, endQ_normal, endR_normal])
  refine AW.seq ?_
  (refine AW.regionK [] (fun K hK => ?_); (repeat (refine arun_ks 4 rfl (fun C hC => ?_); (repeat ((conv => whnf); simp)); refine hC _ ?_; clear hC C; simp only [List.drop_succ_cons, List.drop_zero, List.drop_nil])); refine arun_nil ?_; refine hK _ ?_; clear hK K; simp only [thenA_normal, inBlockA_normal, endQ_normal, endR_normal])
  refine AW.seq ?_
  refine AW.cutN (fun (_ : Unit) => mkSt (slots 0 52 [(1, .ptr true 5 1 1 0 0), (2, .ptr true 5 1 2 0 0), (3, .ptr true 5 1 3 0 0)]) [(1, ⟨true, 26, 5, [[.int .i64 n.kind, .int .i64 n.num, .str n.text, .view .loose 1 (strsE n.names), .view .loose 5 (n.kids.map nodeL)]]⟩), (2, ⟨true, 26, 5, [zeroN]⟩), (3, ⟨true, 26, 5, [[.int .i64 n.kind, .int .i64 n.num, .str n.text, .own 20 n.names.length, .view .tight 0 []]]⟩), (20, namesR n.names)] [1, 2, 3, 20] (rd0.map fun _ => 0)) (fun _ => True) ?_ ?_
  · by_cases hn0 : 0 < n.names.length
    · (repeat (first | with_reducible refine AW.seq ?_ | ((first | refine arun_kn 4 rfl (fun C hC => ?_) | refine arunD_kn 4 rfl (fun C hC => ?_)); (repeat ((conv => whnf); simp [hn0])); refine hC _ ?_; clear hC C; simp only [List.drop, Nat.reduceAdd]) | ((first | refine arun_kn 1 rfl (fun C hC => ?_) | refine arunD_kn 1 rfl (fun C hC => ?_)); (repeat ((conv => whnf); simp [hn0])); refine hC _ ?_; clear hC C; simp only [List.drop, Nat.reduceAdd]) | (refine arun_skip ?_ ?_; (focus (simp [awant, hn0]; done))) | (refine AW.regionK [] (fun K hK => ?_)) | (refine AW.regionDK [] (pcs [] []) (by kernel_rfl) (by kernel_rfl) (fun K hK => ?_)) | (refine AW.condT ?_ ?_; (focus (simp [aev, hn0]; done))) | (refine AW.condF ?_ ?_; (focus (simp [aev, hn0]; done))) | with_reducible refine AW.block ?_ | ((first | ((first | refine arun_nil ?_ | refine arunD_nil ?_); refine hK _ ?_; clear hK K) | refine AW.skip ?_ | refine AW.exit ?_ | refine AW.ret ?_); simp only [thenA_exit, inBlockA_exit, if_true, if_false, Nat.reduceEqDiff, thenA_normal, inBlockA_normal, reduceIte, thenA_ret, inBlockA_ret, endQ_ret, endR_ret, endG_ret, endQ_normal, endR_normal, endG_normal])))
      refine arun_make 20 rfl (by simp [awant]) rfl tab23 tab9 (by decide) rfl (by dsimp only; omega) (by unfold maxLen; omega) (by simp [upd]) ?_
      (repeat (first | with_reducible refine AW.seq ?_ | ((first | refine arun_kn 4 rfl (fun C hC => ?_) | refine arunD_kn 4 rfl (fun C hC => ?_)); (repeat ((conv => whnf); simp [hn0])); refine hC _ ?_; clear hC C; simp only [List.drop, Nat.reduceAdd]) | ((first | refine arun_kn 1 rfl (fun C hC => ?_) | refine arunD_kn 1 rfl (fun C hC => ?_)); (repeat ((conv => whnf); simp [hn0])); refine hC _ ?_; clear hC C; simp only [List.drop, Nat.reduceAdd]) | (refine arun_skip ?_ ?_; (focus (simp [awant, hn0]; done))) | (refine AW.regionK [] (fun K hK => ?_)) | (refine AW.regionDK [] (pcs [] []) (by kernel_rfl) (by kernel_rfl) (fun K hK => ?_)) | (refine AW.condT ?_ ?_; (focus (simp [aev, hn0]; done))) | (refine AW.condF ?_ ?_; (focus (simp [aev, hn0]; done))) | with_reducible refine AW.block ?_ | ((first | ((first | refine arun_nil ?_ | refine arunD_nil ?_); refine hK _ ?_; clear hK K) | refine AW.skip ?_ | refine AW.exit ?_ | refine AW.ret ?_); simp only [thenA_exit, inBlockA_exit, if_true, if_false, Nat.reduceEqDiff, thenA_normal, inBlockA_normal, reduceIte, thenA_ret, inBlockA_ret, endQ_ret, endR_ret, endG_ret, endQ_normal, endR_normal, endG_normal])))
      refine arun_copyAll (r := ⟨false, 9, 1, List.replicate n.names.length [AV.str ⟨#[]⟩]⟩) rfl (by simp [awant]) rfl (by simp [upd]) rfl rfl List.length_replicate rfl (strsE_len _) tab23 tab9 rfl ?_
      (repeat (first | with_reducible refine AW.seq ?_ | ((first | refine arun_kn 4 rfl (fun C hC => ?_) | refine arunD_kn 4 rfl (fun C hC => ?_)); (repeat ((conv => whnf); simp [hn0])); refine hC _ ?_; clear hC C; simp only [List.drop, Nat.reduceAdd]) | ((first | refine arun_kn 1 rfl (fun C hC => ?_) | refine arunD_kn 1 rfl (fun C hC => ?_)); (repeat ((conv => whnf); simp [hn0])); refine hC _ ?_; clear hC C; simp only [List.drop, Nat.reduceAdd]) | (refine arun_skip ?_ ?_; (focus (simp [awant, hn0]; done))) | (refine AW.regionK [] (fun K hK => ?_)) | (refine AW.regionDK [] (pcs [] []) (by kernel_rfl) (by kernel_rfl) (fun K hK => ?_)) | (refine AW.condT ?_ ?_; (focus (simp [aev, hn0]; done))) | (refine AW.condF ?_ ?_; (focus (simp [aev, hn0]; done))) | with_reducible refine AW.block ?_ | ((first | ((first | refine arun_nil ?_ | refine arunD_nil ?_); refine hK _ ?_; clear hK K) | refine AW.skip ?_ | refine AW.exit ?_ | refine AW.ret ?_); simp only [thenA_exit, inBlockA_exit, if_true, if_false, Nat.reduceEqDiff, thenA_normal, inBlockA_normal, reduceIte, thenA_ret, inBlockA_ret, endQ_ret, endR_ret, endG_ret, endQ_normal, endR_normal, endG_normal])))
      exact ⟨(), trivial, (less_of (by simp [lessL, mkSt, slots, namesR, zeroN]) (by simp [upd, mkSt, rowsOf_cons, namesR, zeroN]) (by simp [upd, mkSt, usedOf_cons, namesR, zeroN]) (by first | exact rd_less (by omega) | simp [mkSt, namesR, zeroN]) (by simp [slots, in_any, in_int, in_bool, in_str, in_ptr, in_own, in_agg, in_vnil, in_rdr, usedOf_cons, usedOf_nil, strs_in, ints_in, nodes_in, in_tup, namesR, zeroN]) (by simp only [List.forall_mem_cons, List.not_mem_nil, false_implies, implies_true, and_true, true_and, namesR, zeroN]; (repeat (first | with_reducible exact trivial | with_reducible refine And.intro ?_ ?_ | with_reducible exact in_int | with_reducible exact in_str | with_reducible exact in_bool | with_reducible exact strs_in _ | with_reducible exact nodes_in _ | with_reducible exact items_in _ | with_reducible exact in_vnil | with_reducible exact in_any | exact hin _ | with_reducible refine take_in ?_ | with_reducible exact strsE_in _ | with_reducible exact nodesE_in _ | with_reducible exact nodeL_in _ | with_reducible exact itemsE_in _ | with_reducible exact itemL_in _ | with_reducible refine app_in ?_ ?_ | with_reducible refine sing_in ?_ | (focus (simp [in_any, in_int, in_bool, in_str, in_ptr, in_own, in_agg, in_vnil, in_rdr, usedOf_cons, usedOf_nil, strs_in, ints_in, nodes_in, namesR, zeroN]; done)))); done))⟩
    · have hl0 : n.names.length = 0 := by omega
      have he0 : n.names = [] := List.length_eq_zero_iff.1 hl0
      refine AW.adoptB 3 3 20 9 1 ⟨_, tab9, rfl⟩ (by simp [upd]; rfl) rfl rfl (by simp [upd]) ?_
      simp only [ASt.adoptB]
      (repeat (first | with_reducible refine AW.seq ?_ | ((first | refine arun_kn 4 rfl (fun C hC => ?_) | refine arunD_kn 4 rfl (fun C hC => ?_)); (repeat ((conv => whnf); simp [hl0])); refine hC _ ?_; clear hC C; simp only [List.drop, Nat.reduceAdd]) | ((first | refine arun_kn 1 rfl (fun C hC => ?_) | refine arunD_kn 1 rfl (fun C hC => ?_)); (repeat ((conv => whnf); simp [hl0])); refine hC _ ?_; clear hC C; simp only [List.drop, Nat.reduceAdd]) | (refine arun_skip ?_ ?_; (focus (simp [awant, hl0]; done))) | (refine AW.regionK [] (fun K hK => ?_)) | (refine AW.regionDK [] (pcs [] []) (by kernel_rfl) (by kernel_rfl) (fun K hK => ?_)) | (refine AW.condT ?_ ?_; (focus (simp [aev, hl0]; done))) | (refine AW.condF ?_ ?_; (focus (simp [aev, hl0]; done))) | with_reducible refine AW.block ?_ | ((first | ((first | refine arun_nil ?_ | refine arunD_nil ?_); refine hK _ ?_; clear hK K) | refine AW.skip ?_ | refine AW.exit ?_ | refine AW.ret ?_); simp only [thenA_exit, inBlockA_exit, if_true, if_false, Nat.reduceEqDiff, thenA_normal, inBlockA_normal, reduceIte, thenA_ret, inBlockA_ret, endQ_ret, endR_ret, endG_ret, endQ_normal, endR_normal, endG_normal])))
      exact ⟨(), trivial, (less_of (by simp [lessL, mkSt, slots, namesR, zeroN, he0, strsE]) (by simp [upd, mkSt, rowsOf_cons, namesR, zeroN, he0, strsE]) (by simp [upd, mkSt, usedOf_cons, namesR, zeroN, he0, strsE]) (by first | exact rd_less (by omega) | simp [mkSt, namesR, zeroN, he0, strsE]) (by simp [slots, in_any, in_int, in_bool, in_str, in_ptr, in_own, in_agg, in_vnil, in_rdr, usedOf_cons, usedOf_nil, strs_in, ints_in, nodes_in, in_tup, namesR, zeroN, he0, strsE]) (by simp only [List.forall_mem_cons, List.not_mem_nil, false_implies, implies_true, and_true, true_and, namesR, zeroN, he0, strsE]; (repeat (first | with_reducible exact trivial | with_reducible refine And.intro ?_ ?_ | with_reducible exact in_int | with_reducible exact in_str | with_reducible exact in_bool | with_reducible exact strs_in _ | with_reducible exact nodes_in _ | with_reducible exact items_in _ | with_reducible exact in_vnil | with_reducible exact in_any | exact hin _ | with_reducible refine take_in ?_ | with_reducible exact strsE_in _ | with_reducible exact nodesE_in _ | with_reducible exact nodeL_in _ | with_reducible exact itemsE_in _ | with_reducible exact itemL_in _ | with_reducible refine app_in ?_ ?_ | with_reducible refine sing_in ?_ | (focus (simp [in_any, in_int, in_bool, in_str, in_ptr, in_own, in_agg, in_vnil, in_rdr, usedOf_cons, usedOf_nil, strs_in, ints_in, nodes_in, namesR, zeroN, he0, strsE]; done)))); done))⟩
  rintro ⟨⟩ s' - hls
  refine AW.less _ hls ?_
  clear hls s'
  refine AW.seq ?_
  refine AW.cutN (fun (_ : Unit) => mkSt (slots 0 52 [(2, .ptr true 5 1 2 0 0), (3, .ptr true 5 1 3 0 0)]) [(2, ⟨true, 26, 5, [zeroN]⟩), (3, ⟨true, 26, 5, [[.int .i64 n.kind, .int .i64 n.num, .str n.text, .own 20 n.names.length, .own 34 n.kids.length]]⟩), (20, namesR n.names), (34, nodesR n.kids)] [2, 3, 20, 34] (rd0.map fun _ => 0)) (fun _ => True) ?_ ?_
  · by_cases hn0 : 0 < n.kids.length
    · (repeat (first | with_reducible refine AW.seq ?_ | ((first | refine arun_kn 4 rfl (fun C hC => ?_) | refine arunD_kn 4 rfl (fun C hC => ?_)); (repeat ((conv => whnf); simp [hn0])); refine hC _ ?_; clear hC C; simp only [List.drop, Nat.reduceAdd]) | ((first | refine arun_kn 1 rfl (fun C hC => ?_) | refine arunD_kn 1 rfl (fun C hC => ?_)); (repeat ((conv => whnf); simp [hn0])); refine hC _ ?_; clear hC C; simp only [List.drop, Nat.reduceAdd]) | (refine arun_skip ?_ ?_; (focus (simp [awant, hn0]; done))) | (refine AW.regionK [] (fun K hK => ?_)) | (refine AW.regionDK [] (pcs [] []) (by kernel_rfl) (by kernel_rfl) (fun K hK => ?_)) | (refine AW.condT ?_ ?_; (focus (simp [aev, hn0]; done))) | (refine AW.condF ?_ ?_; (focus (simp [aev, hn0]; done))) | with_reducible refine AW.block ?_ | ((first | ((first | refine arun_nil ?_ | refine arunD_nil ?_); refine hK _ ?_; clear hK K) | refine AW.skip ?_ | refine AW.exit ?_ | refine AW.ret ?_); simp only [thenA_exit, inBlockA_exit, if_true, if_false, Nat.reduceEqDiff, thenA_normal, inBlockA_normal, reduceIte, thenA_ret, inBlockA_ret, endQ_ret, endR_ret, endG_ret, endQ_normal, endR_normal, endG_normal])))
      refine arun_make 34 rfl (by simp [awant]) rfl tab24 tab26 (by decide) rfl (by dsimp only; omega) (by unfold maxLen; omega) (by simp [upd]) ?_
      (repeat (first | with_reducible refine AW.seq ?_ | ((first | refine arun_kn 4 rfl (fun C hC => ?_) | refine arunD_kn 4 rfl (fun C hC => ?_)); (repeat ((conv => whnf); simp [hn0])); refine hC _ ?_; clear hC C; simp only [List.drop, Nat.reduceAdd]) | ((first | refine arun_kn 1 rfl (fun C hC => ?_) | refine arunD_kn 1 rfl (fun C hC => ?_)); (repeat ((conv => whnf); simp [hn0])); refine hC _ ?_; clear hC C; simp only [List.drop, Nat.reduceAdd]) | (refine arun_skip ?_ ?_; (focus (simp [awant, hn0]; done))) | (refine AW.regionK [] (fun K hK => ?_)) | (refine AW.regionDK [] (pcs [] []) (by kernel_rfl) (by kernel_rfl) (fun K hK => ?_)) | (refine AW.condT ?_ ?_; (focus (simp [aev, hn0]; done))) | (refine AW.condF ?_ ?_; (focus (simp [aev, hn0]; done))) | with_reducible refine AW.block ?_ | ((first | ((first | refine arun_nil ?_ | refine arunD_nil ?_); refine hK _ ?_; clear hK K) | refine AW.skip ?_ | refine AW.exit ?_ | refine AW.ret ?_); simp only [thenA_exit, inBlockA_exit, if_true, if_false, Nat.reduceEqDiff, thenA_normal, inBlockA_normal, reduceIte, thenA_ret, inBlockA_ret, endQ_ret, endR_ret, endG_ret, endQ_normal, endR_normal, endG_normal])))
      refine AW.loopS (fun (i : Nat) => mkSt (slots 0 52 [(1, .ptr true 5 1 1 0 0), (2, .ptr true 5 1 2 0 0), (3, .ptr true 5 1 3 0 0), (37, .view .loose 5 (n.kids.map nodeL)), (38, .int .i64 n.kids.length), (39, .int .i64 i)]) [(1, ⟨true, 26, 5, [[.int .i64 n.kind, .int .i64 n.num, .str n.text, .view .loose 1 (strsE n.names), .view .loose 5 (n.kids.map nodeL)]]⟩), (2, ⟨true, 26, 5, [zeroN]⟩), (3, ⟨true, 26, 5, [[.int .i64 n.kind, .int .i64 n.num, .str n.text, .own 20 n.names.length, .own 34 n.kids.length]]⟩), (20, namesR n.names), (34, ⟨false, 26, 5, part n.kids i⟩)] [1, 2, 3, 20, 34] (rd0.map fun _ => 0)) (fun i => n.kids.length - i) (fun i => i ≤ n.kids.length) 0 ?_ (Nat.zero_le _) ?_
      · have hin : ∀ U : Nat → Bool, ∀ e ∈ part n.kids 0, ∀ c ∈ e, AV.In U c := fun U => part_in _ _
        rw [part_zero] at hin ⊢
        exact (less_of (by simp [lessL, mkSt, slots, namesR, zeroN]) (by simp [upd, mkSt, rowsOf_cons, namesR, zeroN]) (by simp [upd, mkSt, usedOf_cons, namesR, zeroN]) (by first | exact rd_less (by omega) | simp [mkSt, namesR, zeroN]) (by simp [slots, in_any, in_int, in_bool, in_str, in_ptr, in_own, in_agg, in_vnil, in_rdr, usedOf_cons, usedOf_nil, strs_in, ints_in, nodes_in, in_tup, namesR, zeroN]) (by simp only [List.forall_mem_cons, List.not_mem_nil, false_implies, implies_true, and_true, true_and, namesR, zeroN]; (repeat (first | with_reducible exact trivial | with_reducible refine And.intro ?_ ?_ | with_reducible exact in_int | with_reducible exact in_str | with_reducible exact in_bool | with_reducible exact strs_in _ | with_reducible exact nodes_in _ | with_reducible exact items_in _ | with_reducible exact in_vnil | with_reducible exact in_any | exact hin _ | with_reducible refine take_in ?_ | with_reducible exact strsE_in _ | with_reducible exact nodesE_in _ | with_reducible exact nodeL_in _ | with_reducible exact itemsE_in _ | with_reducible exact itemL_in _ | with_reducible refine app_in ?_ ?_ | with_reducible refine sing_in ?_ | (focus (simp [in_any, in_int, in_bool, in_str, in_ptr, in_own, in_agg, in_vnil, in_rdr, usedOf_cons, usedOf_nil, strs_in, ints_in, nodes_in, namesR, zeroN]; done)))); done))
      · intro i hi
        have hpl := part_len n.kids i hi
        by_cases hlt : i < n.kids.length
        · have hw : IntKind.i64.wrap ((i : Int) + 1) = (i : Int) + 1 := i64_nat (by omega) (by omega)
          have hg := part_get n.kids i hlt
          have hgd : ∀ h, (part n.kids i)[i]'h = [.int .i64 0, .int .i64 0, .str ⟨#[]⟩, .view .tight 0 [], .view .tight 0 []] := fun h => by
            rw [List.getElem?_eq_getElem h] at hg; exact Option.some.inj hg
          have hset := part_set n.kids i hlt
          rw [nodeL_eq] at hset
          have hin : ∀ U : Nat → Bool, ∀ e ∈ part n.kids (i + 1), ∀ c ∈ e, AV.In U c := fun U => part_in _ _
          (repeat (first | with_reducible refine AW.seq ?_ | ((first | refine arun_kn 4 rfl (fun C hC => ?_) | refine arunD_kn 4 rfl (fun C hC => ?_)); (repeat ((conv => whnf); simp [hlt, hw, hpl, hg, hgd])); refine hC _ ?_; clear hC C; simp only [List.drop, Nat.reduceAdd]) | ((first | refine arun_kn 1 rfl (fun C hC => ?_) | refine arunD_kn 1 rfl (fun C hC => ?_)); (repeat ((conv => whnf); simp [hlt, hw, hpl, hg, hgd])); refine hC _ ?_; clear hC C; simp only [List.drop, Nat.reduceAdd]) | (refine arun_skip ?_ ?_; (focus (simp [awant, hlt, hw, hpl, hg, hgd]; done))) | (refine arun_c0 (ih n.kids[i] (List.getElem_mem hlt)) ?_; rintro _ rfl) | (refine arunD_c (0) (ih n.kids[i] (List.getElem_mem hlt)) ?_; rintro _ rfl; intro _) | (refine AW.regionK [] (fun K hK => ?_)) | (refine AW.regionDK [] (pcs [(4, 0, fun r => r = nodeA n.kids[i])] []) (by kernel_rfl) (by kernel_rfl) (fun K hK => ?_)) | (refine AW.condT ?_ ?_; (focus (simp [aev, hlt, hw, hpl, hg, hgd]; done))) | (refine AW.condF ?_ ?_; (focus (simp [aev, hlt, hw, hpl, hg, hgd]; done))) | with_reducible refine AW.block ?_ | ((first | ((first | refine arun_nil ?_ | refine arunD_nil ?_); refine hK _ ?_; clear hK K) | refine AW.skip ?_ | refine AW.exit ?_ | refine AW.ret ?_); simp only [thenA_exit, inBlockA_exit, if_true, if_false, Nat.reduceEqDiff, thenA_normal, inBlockA_normal, reduceIte, thenA_ret, inBlockA_ret, endQ_ret, endR_ret, endG_ret, endQ_normal, endR_normal, endG_normal])))
          refine ⟨i + 1, by omega, by omega, ?_⟩
          exact (less_of (by simp [lessL, mkSt, slots, namesR, zeroN, hset]) (by simp [upd, mkSt, rowsOf_cons, namesR, zeroN, hset]) (by simp [upd, mkSt, usedOf_cons, namesR, zeroN, hset]) (by first | exact rd_less (by omega) | simp [mkSt, namesR, zeroN, hset]) (by simp [slots, in_any, in_int, in_bool, in_str, in_ptr, in_own, in_agg, in_vnil, in_rdr, usedOf_cons, usedOf_nil, strs_in, ints_in, nodes_in, in_tup, namesR, zeroN, hset]) (by simp only [List.forall_mem_cons, List.not_mem_nil, false_implies, implies_true, and_true, true_and, namesR, zeroN, hset]; (repeat (first | with_reducible exact trivial | with_reducible refine And.intro ?_ ?_ | with_reducible exact in_int | with_reducible exact in_str | with_reducible exact in_bool | with_reducible exact strs_in _ | with_reducible exact nodes_in _ | with_reducible exact items_in _ | with_reducible exact in_vnil | with_reducible exact in_any | exact hin _ | with_reducible refine take_in ?_ | with_reducible exact strsE_in _ | with_reducible exact nodesE_in _ | with_reducible exact nodeL_in _ | with_reducible exact itemsE_in _ | with_reducible exact itemL_in _ | with_reducible refine app_in ?_ ?_ | with_reducible refine sing_in ?_ | (focus (simp [in_any, in_int, in_bool, in_str, in_ptr, in_own, in_agg, in_vnil, in_rdr, usedOf_cons, usedOf_nil, strs_in, ints_in, nodes_in, namesR, zeroN, hset]; done)))); done))
        · obtain rfl : i = n.kids.length := by omega
          (repeat (first | with_reducible refine AW.seq ?_ | ((first | refine arun_kn 4 rfl (fun C hC => ?_) | refine arunD_kn 4 rfl (fun C hC => ?_)); (repeat ((conv => whnf); simp)); refine hC _ ?_; clear hC C; simp only [List.drop, Nat.reduceAdd]) | ((first | refine arun_kn 1 rfl (fun C hC => ?_) | refine arunD_kn 1 rfl (fun C hC => ?_)); (repeat ((conv => whnf); simp)); refine hC _ ?_; clear hC C; simp only [List.drop, Nat.reduceAdd]) | (refine arun_skip ?_ ?_; (focus (simp [awant]; done))) | (refine AW.regionK [] (fun K hK => ?_)) | (refine AW.regionDK [] (pcs [] []) (by kernel_rfl) (by kernel_rfl) (fun K hK => ?_)) | (refine AW.condT ?_ ?_; (focus (simp [aev]; done))) | (refine AW.condF ?_ ?_; (focus (simp [aev]; done))) | with_reducible refine AW.block ?_ | ((first | ((first | refine arun_nil ?_ | refine arunD_nil ?_); refine hK _ ?_; clear hK K) | refine AW.skip ?_ | refine AW.exit ?_ | refine AW.ret ?_); simp only [thenA_exit, inBlockA_exit, if_true, if_false, Nat.reduceEqDiff, thenA_normal, inBlockA_normal, reduceIte, thenA_ret, inBlockA_ret, endQ_ret, endR_ret, endG_ret, endQ_normal, endR_normal, endG_normal])))
          refine ⟨(), trivial, ?_⟩
          rw [part_all]
          exact (less_of (by simp [lessL, mkSt, slots, namesR, nodesR, zeroN]) (by simp [upd, mkSt, rowsOf_cons, namesR, nodesR, zeroN]) (by simp [upd, mkSt, usedOf_cons, namesR, nodesR, zeroN]) (by first | exact rd_less (by omega) | simp [mkSt, namesR, nodesR, zeroN]) (by simp [slots, in_any, in_int, in_bool, in_str, in_ptr, in_own, in_agg, in_vnil, in_rdr, usedOf_cons, usedOf_nil, strs_in, ints_in, nodes_in, in_tup, namesR, nodesR, zeroN]) (by simp only [List.forall_mem_cons, List.not_mem_nil, false_implies, implies_true, and_true, true_and, namesR, nodesR, zeroN]; (repeat (first | with_reducible exact trivial | with_reducible refine And.intro ?_ ?_ | with_reducible exact in_int | with_reducible exact in_str | with_reducible exact in_bool | with_reducible exact strs_in _ | with_reducible exact nodes_in _ | with_reducible exact items_in _ | with_reducible exact in_vnil | with_reducible exact in_any | exact hin _ | with_reducible refine take_in ?_ | with_reducible exact strsE_in _ | with_reducible exact nodesE_in _ | with_reducible exact nodeL_in _ | with_reducible exact itemsE_in _ | with_reducible exact itemL_in _ | with_reducible refine app_in ?_ ?_ | with_reducible refine sing_in ?_ | (focus (simp [in_any, in_int, in_bool, in_str, in_ptr, in_own, in_agg, in_vnil, in_rdr, usedOf_cons, usedOf_nil, strs_in, ints_in, nodes_in, namesR, nodesR, zeroN]; done)))); done))
    · have hl0 : n.kids.length = 0 := by omega
      have he0 : n.kids = [] := List.length_eq_zero_iff.1 hl0
      refine AW.adoptB 3 4 34 26 5 ⟨_, tab26, rfl⟩ (by simp [mkSt, rowsOf_cons]; rfl) rfl rfl (by simp [mkSt, usedOf_cons, usedOf_nil]) ?_
      simp only [ASt.adoptB]
      (repeat (first | with_reducible refine AW.seq ?_ | ((first | refine arun_kn 4 rfl (fun C hC => ?_) | refine arunD_kn 4 rfl (fun C hC => ?_)); (repeat ((conv => whnf); simp [hl0])); refine hC _ ?_; clear hC C; simp only [List.drop, Nat.reduceAdd]) | ((first | refine arun_kn 1 rfl (fun C hC => ?_) | refine arunD_kn 1 rfl (fun C hC => ?_)); (repeat ((conv => whnf); simp [hl0])); refine hC _ ?_; clear hC C; simp only [List.drop, Nat.reduceAdd]) | (refine arun_skip ?_ ?_; (focus (simp [awant, hl0]; done))) | (refine AW.regionK [] (fun K hK => ?_)) | (refine AW.regionDK [] (pcs [] []) (by kernel_rfl) (by kernel_rfl) (fun K hK => ?_)) | (refine AW.condT ?_ ?_; (focus (simp [aev, hl0]; done))) | (refine AW.condF ?_ ?_; (focus (simp [aev, hl0]; done))) | with_reducible refine AW.block ?_ | ((first | ((first | refine arun_nil ?_ | refine arunD_nil ?_); refine hK _ ?_; clear hK K) | refine AW.skip ?_ | refine AW.exit ?_ | refine AW.ret ?_); simp only [thenA_exit, inBlockA_exit, if_true, if_false, Nat.reduceEqDiff, thenA_normal, inBlockA_normal, reduceIte, thenA_ret, inBlockA_ret, endQ_ret, endR_ret, endG_ret, endQ_normal, endR_normal, endG_normal])))
      exact ⟨(), trivial, (less_of (by simp [lessL, mkSt, slots, namesR, nodesR, zeroN, he0]) (by simp [upd, mkSt, rowsOf_cons, namesR, nodesR, zeroN, he0]) (by simp [upd, mkSt, usedOf_cons, namesR, nodesR, zeroN, he0]) (by first | exact rd_less (by omega) | simp [mkSt, namesR, nodesR, zeroN, he0]) (by simp [slots, in_any, in_int, in_bool, in_str, in_ptr, in_own, in_agg, in_vnil, in_rdr, usedOf_cons, usedOf_nil, strs_in, ints_in, nodes_in, in_tup, namesR, nodesR, zeroN, he0]) (by simp only [List.forall_mem_cons, List.not_mem_nil, false_implies, implies_true, and_true, true_and, namesR, nodesR, zeroN, he0]; (repeat (first | with_reducible exact trivial | with_reducible refine And.intro ?_ ?_ | with_reducible exact in_int | with_reducible exact in_str | with_reducible exact in_bool | with_reducible exact strs_in _ | with_reducible exact nodes_in _ | with_reducible exact items_in _ | with_reducible exact in_vnil | with_reducible exact in_any | exact hin _ | with_reducible refine take_in ?_ | with_reducible exact strsE_in _ | with_reducible exact nodesE_in _ | with_reducible exact nodeL_in _ | with_reducible exact itemsE_in _ | with_reducible exact itemL_in _ | with_reducible refine app_in ?_ ?_ | with_reducible refine sing_in ?_ | (focus (simp [in_any, in_int, in_bool, in_str, in_ptr, in_own, in_agg, in_vnil, in_rdr, usedOf_cons, usedOf_nil, strs_in, ints_in, nodes_in, namesR, nodesR, zeroN, he0]; done)))); done))⟩
  rintro ⟨⟩ s' - hls
  refine AW.less _ hls ?_
  clear hls s'
  (repeat (first | with_reducible refine AW.seq ?_ | ((first | refine arun_kn 4 rfl (fun C hC => ?_) | refine arunD_kn 4 rfl (fun C hC => ?_)); (repeat ((conv => whnf); simp [zeroN])); refine hC _ ?_; clear hC C; simp only [List.drop, Nat.reduceAdd]) | ((first | refine arun_kn 1 rfl (fun C hC => ?_) | refine arunD_kn 1 rfl (fun C hC => ?_)); (repeat ((conv => whnf); simp [zeroN])); refine hC _ ?_; clear hC C; simp only [List.drop, Nat.reduceAdd]) | (refine arun_skip ?_ ?_; (focus (simp [awant, zeroN]; done))) | (refine AW.regionK [] (fun K hK => ?_)) | (refine AW.regionDK [] (pcs [] []) (by kernel_rfl) (by kernel_rfl) (fun K hK => ?_)) | (refine AW.condT ?_ ?_; (focus (simp [aev, zeroN]; done))) | (refine AW.condF ?_ ?_; (focus (simp [aev, zeroN]; done))) | with_reducible refine AW.block ?_ | ((first | ((first | refine arun_nil ?_ | refine arunD_nil ?_); refine hK _ ?_; clear hK K) | refine AW.skip ?_ | refine AW.exit ?_ | refine AW.ret ?_); simp only [thenA_exit, inBlockA_exit, if_true, if_false, Nat.reduceEqDiff, thenA_normal, inBlockA_normal, reduceIte, thenA_ret, inBlockA_ret, endQ_ret, endR_ret, endG_ret, endQ_normal, endR_normal, endG_normal])))
  refine ⟨nodeRR n 20 34, [(20, namesR n.names), (34, nodesR n.kids)], by simp [ares, aresL, upd, rowsOf_cons, nodeRR], by simp [mkSt, rowsOf_cons], ?_, ?_, ?_, rfl, rfl⟩
  · refine purR_agg ?_
    simp only [List.forall_mem_cons, List.not_mem_nil, false_implies, implies_true, and_true]
    exact ⟨pur_int.purR, pur_int.purR, pur_str.purR, purR_own, purR_own⟩
  · simp only [List.forall_mem_cons, List.not_mem_nil, false_implies, implies_true, and_true]
    exact ⟨fun e he c hc => (strsE_pur _ e he c hc).purR, fun e he c hc => (nodesE_pur _ e he c hc).purR⟩
  · refine ⟨by simp [nodeRR, in_agg, in_int, in_str, in_own, rowsOf_cons], ?_⟩
    simp only [List.forall_mem_cons, List.not_mem_nil, false_implies, implies_true, and_true]
    exact ⟨fun e he c hc => strsE_in _ e he c hc, fun e he c hc => nodesE_in _ e he c hc⟩
theorem sml_ind {p : Nd → Prop} (h : ∀ n, Sml n → (∀ k ∈ n.kids, p k) → p n) : ∀ n, Sml n → p n := Nd.ind' _ (fun n ih hs => h n hs (fun k hk => ih k hk (hs.kid hk)))
theorem implCopy_hd {l : List (Nat × Row)} {n : Nd} (h : l = [(20, namesR n.names), (34, nodesR n.kids)]) : Hd l (nodeRR n 20 34) (nodeA n) := by
  subst h
  refine .base ?_
  unfold nodeRR nodeA
  rw [nodeL_eq]
  refine .agg (.cons (.pur pur_int) (.cons (.pur pur_int) (.cons (.pur pur_str) (.cons ?_ (.cons ?_ .nil)))))
  · exact .own (R := namesR n.names) (t := .loose) rfl rfl (by simp [namesR, strsE]) (strsE_pur _)
  · exact .own (R := nodesR n.kids) (t := .loose) rfl (by simp [rowsOf_cons]) (by simp [nodesR]) (nodesE_pur _)
theorem implCopy_AC : ∀ n, Sml n → AC Tryd.prog 55 [nodeA n] 0 (fun r => r = nodeA n) :=
  sml_ind fun n hs ih => AC.ofG (implCopy_step n hs ih) (fun r l ⟨h1, h2⟩ => ⟨nodeA n, by rw [h1]; exact implCopy_hd h2, rfl⟩)
end Go.Proofs.YtmjbbakendnmmaaDoor.Eng
namespace Go.Proofs.YtmjbbakendnmmaaDoor.Eng
open Go Go.RowKit
section
variable {P : Program} {T : Tab} {w0 : W0} {S0 : Nat → Prop} {rd0 : Option Nat} {k0 : Nat} {w : World} {a : Act} {s : ASt} {ρ : Cx}
theorem makeCap_ok (hT : Tab.Ok P T) (h : SR P w0 S0 rd0 k0 w a s ρ) {o : Oper} {t e : TypeId} {x y : Operand} {n : Nat} {kl kc : IntKind} {sz by' : Nat} {z : List ZK} {i : TI} (ho : o.op = .makeSlice t x y) (hx : aev s x = .int kl 0) (hy : aev s y = .int kc n) (ht : T t = some ⟨sz, by', .slice e, z⟩) (he : T e = some i) (hno : i.d ≠ .other)
    (hby : i.bytes * n ≤ 281474976710656) (hn : n ≤ maxLen) (id : Nat) (hid : s.used id = false) : Leaves P w0 S0 rd0 k0 o a w (.own id 0) (s.add id ⟨false, e, i.size, []⟩) := by
  obtain ⟨d, j, hs⟩ := TI.says (hT _ _ ht)
  have hd := hs.dd
  cases d <;> simp [TD.fits] at hd
  subst hd
  obtain ⟨d2, j2, hs2⟩ := TI.says (hT _ _ he)
  obtain ⟨j', zv, zs, k1, k2, k3, k3', k3'', k4, k5, k6⟩ := zero_ok (w := w) (ρ := ρ) (hT _ _ he) hno
  rw [hs2.inf] at k1; cases k1
  obtain ⟨w', m1, m2, m3⟩ := run_make_own (P := P) w w.heap.size t e j2 zv i.size hs.un hs2.inf k2 hs2.sz kl kc n (by rw [hs2.by']; exact hby) hn (Nat.le_refl _)
  have hg : Grow w w' := ⟨m3.os, m3.tape, m3.output, m3.size, fun k hk _ => m3.block k hk (by simp)⟩
  have hat := RowAt.of_owns m2
  have hat0 : RowAt w' 0 e i.size (.slice (some ⟨w.heap.size, 0, none⟩) 0 n) 0 [] :=
    hat.imp (fun h => h) (fun ⟨g, cap, cur, q1, q2, _, q4⟩ => ⟨g, cap, cur, q1, q2, Nat.zero_le _, q4⟩)
  have hlt : ∀ g, blk (.slice (some ⟨w.heap.size, 0, none⟩) 0 n) = some g → w.heap.size ≤ g := fun g hg => (hat.lt g hg).1
  obtain ⟨q1, q2⟩ := h.new hg id hid ⟨false, e, i.size, []⟩ (.slice (some ⟨w.heap.size, 0, none⟩) 0 n) hlt
    ⟨⟨hs2.cells, hlt⟩, (fun x hx => by cases hx), (fun hb => by cases hb), _, hat0, (by simp [RepL]), fun u hu => by cases hu⟩
  have hev := aev_rep h x
  rw [hx, rep_int] at hev
  have hev2 := aev_rep h y
  rw [hy, rep_int] at hev2
  refine ⟨.slice (some ⟨w.heap.size, 0, none⟩) 0 n, w', _, .inl (by unfold execOp; simp only [ho, hev, hev2, Sem.run_bind, m1, Sem.run_pure, Result.andThen_ok]), q1, rep_own.2 ⟨.inr rfl, by simp [Cx.add, upd_same], ⟨_, _, rfl, .inr ⟨_, rfl⟩⟩, fun u hu _ => by simp [Cx.add, upd_same] at hu; exact hu⟩⟩
end
section
variable {P : Program} {T : Tab} {k0 : Nat} {md : List Nat} {ops : Array Oper} {K : ASt → Prop} {o : Oper} {l : List Oper} {s : ASt}
theorem arun_makeCap {t e : TypeId} {x y : Operand} {n sz by' : Nat} {z : List ZK} {i : TI} {kl kc : IntKind} (id : Nat) (ho : o.op = .makeSlice t x y) (hw : awant ops o s = some true) (hx : aev s x = .int kl 0) (hy : aev s y = .int kc n) (ht : T t = some ⟨sz, by', .slice e, z⟩) (he : T e = some i) (hno : i.d ≠ .other)
    (hby : i.bytes * n ≤ 281474976710656) (hn : n ≤ maxLen) (hid : s.used id = false) (h : ARun P T k0 md ops K l ((s.add id ⟨false, e, i.size, []⟩).put o.dst (.own id 0))) : ARun P T k0 md ops K (o :: l) s :=
  ARun.leaves hw (fun w0 S0 rd0 w a ρ hT hS => makeCap_ok hT hS ho hx hy ht he hno hby hn id hid) h
end
end Go.Proofs.YtmjbbakendnmmaaDoor.Eng
namespace Go.Proofs.YtmjbbakendnmmaaDoor.Eng
open Go Go.RowKit
attribute [local simp] big size_mk ASt.pay Option.map_map Function.comp_def awant aop acall ado aev ofVal ofVal0 ASt.put ASt.add ASt.turn ASt.kill abox aalloc astore aload ASt.at cellsTo afieldAddr afield aindexAddr aindex alen abin aint acmp astr aun apick aextract anil aslice abound abuild afill abuildSlice asCells aps avCells over upd aappend asrc amax amin aconv mkSt slots rowsOf_cons rowsOf_nil usedOf_cons usedOf_nil ZK.av List.replicate ASt.back ASt.addL ASt.killL nodeA nodeT nodeTL_eq nodeL_eq strsE_get strsE_len intsE_get intsE_len strsE_at intsE_at tab2 tab3 tab4 tab5 tab6 tab7 tab8 tab9 tab10 tab11 tab12 tab13 tab14 tab15 tab16 tab17 tab18 tab19 tab21 tab22 tab23 tab24 tab25 tab26 tab28 tab33 tab34 tab35 tab51 tab52 tab55 tab56 tab61 tab78 tab79 tab80 tab98 tab104 tab110 tab117 tab118 tab123 tab124 tab126 tab127 tab128
theorem stepTo_AC (n : Nd) (i : Nat) (hi : i < 10) (h4 : n.kind = 4 → i < n.names.length) : AC Tryd.prog 72 [nodeA n, .int .i64 (i : Int)] 0 (fun r => r = .str (stp n.kind n.names i)) := by
  unfold nodeA stp
  rw [nodeL_eq]
  refine AC.of tab_ok mixed_ok Tryd.func72 (by rfl) (by kernel_rfl) ?_; rintro ⟨P, T, hT, hm, w0, S0, rd0, k0⟩ hP hTT; dsimp only at hP hTT; subst hP hTT; unfold initSt; rw [Tryd.ntmps72]
  by_cases hk : n.kind = 4
  · have hlt := h4 hk
    rw [if_pos hk, List.getElem?_eq_getElem hlt]
    (repeat (first | with_reducible refine AW.seq ?_ | ((first | refine arun_kn 4 rfl (fun C hC => ?_) | refine arunD_kn 4 rfl (fun C hC => ?_)); (repeat ((conv => whnf); simp [hk, hlt])); refine hC _ ?_; clear hC C; simp only [List.drop, Nat.reduceAdd]) | ((first | refine arun_kn 1 rfl (fun C hC => ?_) | refine arunD_kn 1 rfl (fun C hC => ?_)); (repeat ((conv => whnf); simp [hk, hlt])); refine hC _ ?_; clear hC C; simp only [List.drop, Nat.reduceAdd]) | (refine arun_skip ?_ ?_; (focus (simp [awant, hk, hlt]; done))) | (refine AW.regionK [] (fun K hK => ?_)) | (refine AW.regionDK [] (pcs [] []) (by kernel_rfl) (by kernel_rfl) (fun K hK => ?_)) | (refine AW.condT ?_ ?_; (focus (simp [aev, hk, hlt]; done))) | (refine AW.condF ?_ ?_; (focus (simp [aev, hk, hlt]; done))) | with_reducible refine AW.block ?_ | ((first | ((first | refine arun_nil ?_ | refine arunD_nil ?_); refine hK _ ?_; clear hK K) | refine AW.skip ?_ | refine AW.exit ?_ | refine AW.ret ?_); simp only [thenA_exit, inBlockA_exit, if_true, if_false, Nat.reduceEqDiff, thenA_normal, inBlockA_normal, reduceIte, thenA_ret, inBlockA_ret, endQ_ret, endR_ret, endG_ret, endQ_normal, endR_normal, endG_normal])))
    exact ⟨.str n.names[i], by simp [ares, aresL], pur_str, rfl⟩
  · rw [if_neg hk]
    have hk' : (n.kind == 4) = false := by simpa using hk
    (repeat (first | with_reducible refine AW.seq ?_ | ((first | refine arun_kn 4 rfl (fun C hC => ?_) | refine arunD_kn 4 rfl (fun C hC => ?_)); (repeat ((conv => whnf); simp [hk, hk'])); refine hC _ ?_; clear hC C; simp only [List.drop, Nat.reduceAdd]) | ((first | refine arun_kn 1 rfl (fun C hC => ?_) | refine arunD_kn 1 rfl (fun C hC => ?_)); (repeat ((conv => whnf); simp [hk, hk'])); refine hC _ ?_; clear hC C; simp only [List.drop, Nat.reduceAdd]) | (refine arun_skip ?_ ?_; (focus (simp [awant, hk, hk']; done))) | (refine arun_c0 (Itoa_AC i hi) ?_; rintro _ rfl) | (refine AW.regionK [] (fun K hK => ?_)) | (refine AW.regionDK [] (pcs [] []) (by kernel_rfl) (by kernel_rfl) (fun K hK => ?_)) | (refine AW.condT ?_ ?_; (focus (simp [aev, hk, hk']; done))) | (refine AW.condF ?_ ?_; (focus (simp [aev, hk, hk']; done))) | with_reducible refine AW.block ?_ | ((first | ((first | refine arun_nil ?_ | refine arunD_nil ?_); refine hK _ ?_; clear hK K) | refine AW.skip ?_ | refine AW.exit ?_ | refine AW.ret ?_); simp only [thenA_exit, inBlockA_exit, if_true, if_false, Nat.reduceEqDiff, thenA_normal, inBlockA_normal, reduceIte, thenA_ret, inBlockA_ret, endQ_ret, endR_ret, endG_ret, endQ_normal, endR_normal, endG_normal])))
    exact ⟨.str (txt (dig1 i)), by simp [ares, aresL], pur_str, rfl⟩
theorem stepBehind_ACR (t : VC) (p : List ByteArray) (st : ByteArray) (hp : p.length ≤ 1000) : ACR Tryd.prog 71 [.view t 1 (strsE p), .str st] 0 (fun _ => False) (fun f R => f = (fun id => .own id (p.length + 1)) ∧ R = namesR (p ++ [st])) := by
  have hw : IntKind.i64.wrap ((p.length : Int) + 1) = (p.length : Int) + 1 := i64_nat (by omega) (by omega)
  have hb1 : p.length * 16 ≤ 140737488355328 := by omega
  have hb2 : p.length ≤ 140737488355328 := by omega
  have hb3 : (p.length + 1) * 16 ≤ 140737488355328 := by omega
  have hb4 : p.length + 1 ≤ 140737488355328 := by omega
  refine ACR.of tab_ok mixed_ok Tryd.func71 (by rfl) (by kernel_rfl) ?_; rintro ⟨P, T, hT, hm, w0, S0, rd0, k0⟩ hP hTT; dsimp only at hP hTT; subst hP hTT; unfold initSt; rw [Tryd.ntmps71]
  (repeat (first | with_reducible refine AW.seq ?_ | ((first | refine arun_kn 4 rfl (fun C hC => ?_) | refine arunD_kn 4 rfl (fun C hC => ?_)); (repeat ((conv => whnf); simp [hw, strsE_len])); refine hC _ ?_; clear hC C; simp only [List.drop, Nat.reduceAdd]) | ((first | refine arun_kn 1 rfl (fun C hC => ?_) | refine arunD_kn 1 rfl (fun C hC => ?_)); (repeat ((conv => whnf); simp [hw, strsE_len])); refine hC _ ?_; clear hC C; simp only [List.drop, Nat.reduceAdd]) | (refine arun_skip ?_ ?_; (focus (simp [awant, hw, strsE_len]; done))) | (refine AW.regionK [] (fun K hK => ?_)) | (refine AW.regionDK [] (pcs [] []) (by kernel_rfl) (by kernel_rfl) (fun K hK => ?_)) | (refine AW.condT ?_ ?_; (focus (simp [aev, hw, strsE_len]; done))) | (refine AW.condF ?_ ?_; (focus (simp [aev, hw, strsE_len]; done))) | with_reducible refine AW.block ?_ | ((first | ((first | refine arun_nil ?_ | refine arunD_nil ?_); refine hK _ ?_; clear hK K) | refine AW.skip ?_ | refine AW.exit ?_ | refine AW.ret ?_); simp only [thenA_exit, inBlockA_exit, if_true, if_false, Nat.reduceEqDiff, thenA_normal, inBlockA_normal, reduceIte, thenA_ret, inBlockA_ret, endQ_ret, endR_ret, endG_ret, endQ_normal, endR_normal, endG_normal])))
  refine arun_makeCap (kl := .i64) (kc := .i64) (n := p.length + 1) 9 rfl (by simp [awant]) rfl (by simp) tab23 tab9 (by decide) (by dsimp only; omega) (by unfold maxLen; omega) (by simp [upd]) ?_
  clear hp
  (repeat (first | with_reducible refine AW.seq ?_ | ((first | refine arun_kn 4 rfl (fun C hC => ?_) | refine arunD_kn 4 rfl (fun C hC => ?_)); (repeat ((conv => whnf); simp [hw, strsE_len, hb1, hb2, hb3, hb4])); refine hC _ ?_; clear hC C; simp only [List.drop, Nat.reduceAdd]) | ((first | refine arun_kn 1 rfl (fun C hC => ?_) | refine arunD_kn 1 rfl (fun C hC => ?_)); (repeat ((conv => whnf); simp [hw, strsE_len, hb1, hb2, hb3, hb4])); refine hC _ ?_; clear hC C; simp only [List.drop, Nat.reduceAdd]) | (refine arun_skip ?_ ?_; (focus (simp [awant, hw, strsE_len, hb1, hb2, hb3, hb4]; done))) | (refine AW.regionK [] (fun K hK => ?_)) | (refine AW.regionDK [] (pcs [] []) (by kernel_rfl) (by kernel_rfl) (fun K hK => ?_)) | (refine AW.condT ?_ ?_; (focus (simp [aev, hw, strsE_len, hb1, hb2, hb3, hb4]; done))) | (refine AW.condF ?_ ?_; (focus (simp [aev, hw, strsE_len, hb1, hb2, hb3, hb4]; done))) | with_reducible refine AW.block ?_ | ((first | ((first | refine arun_nil ?_ | refine arunD_nil ?_); refine hK _ ?_; clear hK K) | refine AW.skip ?_ | refine AW.exit ?_ | refine AW.ret ?_); simp only [thenA_exit, inBlockA_exit, if_true, if_false, Nat.reduceEqDiff, thenA_normal, inBlockA_normal, reduceIte, thenA_ret, inBlockA_ret, endQ_ret, endR_ret, endG_ret, endQ_normal, endR_normal, endG_normal])))
  exact ⟨.own 9 (p.length + 1), by simp [ares, aresL], .inr ⟨fun id => .own id (p.length + 1), 9, namesR (p ++ [st]), rfl, by simp [upd, namesR, strsE], Res1.own _ _, strsE_pur _, rfl, rfl⟩⟩
theorem names_sub (xs : List ByteArray) {n : Nat} (h : n = xs.length) : AV.sub 0 (namesR xs).es.length (.view .loose (namesR xs).sz (namesR xs).es) (.own 0 n) = .view .loose 1 (strsE xs) := by
  subst h
  simp [AV.sub, namesR, strsE_len]
theorem AC.ofNames {f : FuncId} {args : List AV} {c n : Nat} {xs : List ByteArray} (hn : n = xs.length) (h : ACR Tryd.prog f args c (fun _ => False) (fun f R => f = (fun id => .own id n) ∧ R = namesR xs)) : AC Tryd.prog f args c (fun r => r = .view .loose 1 (strsE xs)) := by
  refine (AC.ofR h ?_).mono ?_
  · rintro r R ⟨rfl, rfl⟩
    rw [names_sub xs hn]; exact strs_in _
  · rintro r (h | ⟨f, R, ⟨rfl, rfl⟩, rfl⟩)
    · exact h.elim
    · exact names_sub xs hn
theorem stepBehind_AC (t : VC) (p : List ByteArray) (st : ByteArray) (hp : p.length ≤ 1000) : AC Tryd.prog 71 [.view t 1 (strsE p), .str st] 0 (fun r => r = .view .loose 1 (strsE (p ++ [st]))) :=
  AC.ofNames (by simp) (stepBehind_ACR t p st hp)
theorem copyTexts_ACR (t : VC) (p : List ByteArray) (hp : p.length ≤ 1000) (h0 : 0 < p.length) : ACR Tryd.prog 70 [.view t 1 (strsE p)] 0 (fun _ => False) (fun f R => f = (fun id => .own id p.length) ∧ R = namesR p) := by
  have h0' : ((p.length : Int) == 0) = false := beq_false_of_ne (by omega)
  refine ACR.of tab_ok mixed_ok Tryd.func70 (by rfl) (by kernel_rfl) ?_; rintro ⟨P, T, hT, hm, w0, S0, rd0, k0⟩ hP hTT; dsimp only at hP hTT; subst hP hTT; unfold initSt; rw [Tryd.ntmps70]
  (repeat (first | with_reducible refine AW.seq ?_ | ((first | refine arun_kn 4 rfl (fun C hC => ?_) | refine arunD_kn 4 rfl (fun C hC => ?_)); (repeat ((conv => whnf); simp [h0', strsE_len])); refine hC _ ?_; clear hC C; simp only [List.drop, Nat.reduceAdd]) | ((first | refine arun_kn 1 rfl (fun C hC => ?_) | refine arunD_kn 1 rfl (fun C hC => ?_)); (repeat ((conv => whnf); simp [h0', strsE_len])); refine hC _ ?_; clear hC C; simp only [List.drop, Nat.reduceAdd]) | (refine arun_skip ?_ ?_; (focus (simp [awant, h0', strsE_len]; done))) | (refine AW.regionK [] (fun K hK => ?_)) | (refine AW.regionDK [] (pcs [] []) (by kernel_rfl) (by kernel_rfl) (fun K hK => ?_)) | (refine AW.condT ?_ ?_; (focus (simp [aev, h0', strsE_len]; done))) | (refine AW.condF ?_ ?_; (focus (simp [aev, h0', strsE_len]; done))) | with_reducible refine AW.block ?_ | ((first | ((first | refine arun_nil ?_ | refine arunD_nil ?_); refine hK _ ?_; clear hK K) | refine AW.skip ?_ | refine AW.exit ?_ | refine AW.ret ?_); simp only [thenA_exit, inBlockA_exit, if_true, if_false, Nat.reduceEqDiff, thenA_normal, inBlockA_normal, reduceIte, thenA_ret, inBlockA_ret, endQ_ret, endR_ret, endG_ret, endQ_normal, endR_normal, endG_normal])))
  refine arun_make 9 rfl (by simp [awant]) rfl tab23 tab9 (by decide) rfl (by dsimp only; omega) (by unfold maxLen; omega) (by simp [upd]) ?_
  (repeat (first | with_reducible refine AW.seq ?_ | ((first | refine arun_kn 4 rfl (fun C hC => ?_) | refine arunD_kn 4 rfl (fun C hC => ?_)); (repeat ((conv => whnf); simp [strsE_len])); refine hC _ ?_; clear hC C; simp only [List.drop, Nat.reduceAdd]) | ((first | refine arun_kn 1 rfl (fun C hC => ?_) | refine arunD_kn 1 rfl (fun C hC => ?_)); (repeat ((conv => whnf); simp [strsE_len])); refine hC _ ?_; clear hC C; simp only [List.drop, Nat.reduceAdd]) | (refine arun_skip ?_ ?_; (focus (simp [awant, strsE_len]; done))) | (refine AW.regionK [] (fun K hK => ?_)) | (refine AW.regionDK [] (pcs [] []) (by kernel_rfl) (by kernel_rfl) (fun K hK => ?_)) | (refine AW.condT ?_ ?_; (focus (simp [aev, strsE_len]; done))) | (refine AW.condF ?_ ?_; (focus (simp [aev, strsE_len]; done))) | with_reducible refine AW.block ?_ | ((first | ((first | refine arun_nil ?_ | refine arunD_nil ?_); refine hK _ ?_; clear hK K) | refine AW.skip ?_ | refine AW.exit ?_ | refine AW.ret ?_); simp only [thenA_exit, inBlockA_exit, if_true, if_false, Nat.reduceEqDiff, thenA_normal, inBlockA_normal, reduceIte, thenA_ret, inBlockA_ret, endQ_ret, endR_ret, endG_ret, endQ_normal, endR_normal, endG_normal])))
  refine arun_copyAll (r := ⟨false, 9, 1, List.replicate p.length [AV.str ⟨#[]⟩]⟩) rfl (by simp [awant]) rfl (by simp [upd]) rfl rfl List.length_replicate rfl (strsE_len _) tab23 tab9 rfl ?_
  (repeat (first | with_reducible refine AW.seq ?_ | ((first | refine arun_kn 4 rfl (fun C hC => ?_) | refine arunD_kn 4 rfl (fun C hC => ?_)); (repeat ((conv => whnf); simp [strsE_len])); refine hC _ ?_; clear hC C; simp only [List.drop, Nat.reduceAdd]) | ((first | refine arun_kn 1 rfl (fun C hC => ?_) | refine arunD_kn 1 rfl (fun C hC => ?_)); (repeat ((conv => whnf); simp [strsE_len])); refine hC _ ?_; clear hC C; simp only [List.drop, Nat.reduceAdd]) | (refine arun_skip ?_ ?_; (focus (simp [awant, strsE_len]; done))) | (refine AW.regionK [] (fun K hK => ?_)) | (refine AW.regionDK [] (pcs [] []) (by kernel_rfl) (by kernel_rfl) (fun K hK => ?_)) | (refine AW.condT ?_ ?_; (focus (simp [aev, strsE_len]; done))) | (refine AW.condF ?_ ?_; (focus (simp [aev, strsE_len]; done))) | with_reducible refine AW.block ?_ | ((first | ((first | refine arun_nil ?_ | refine arunD_nil ?_); refine hK _ ?_; clear hK K) | refine AW.skip ?_ | refine AW.exit ?_ | refine AW.ret ?_); simp only [thenA_exit, inBlockA_exit, if_true, if_false, Nat.reduceEqDiff, thenA_normal, inBlockA_normal, reduceIte, thenA_ret, inBlockA_ret, endQ_ret, endR_ret, endG_ret, endQ_normal, endR_normal, endG_normal])))
  exact ⟨.own 9 p.length, by simp [ares, aresL], .inr ⟨fun id => .own id p.length, 9, namesR p, rfl, by simp [upd, namesR, strsE], Res1.own _ _, strsE_pur _, rfl, rfl⟩⟩
theorem copyTexts_nil (t : VC) : AC Tryd.prog 70 [.view t 1 (strsE [])] 0 (fun r => r = .view .loose 1 (strsE [])) := by
  refine AC.weak ?_
  refine AC.of tab_ok mixed_ok Tryd.func70 (by rfl) (by kernel_rfl) ?_; rintro ⟨P, T, hT, hm, w0, S0, rd0, k0⟩ hP hTT; dsimp only at hP hTT; subst hP hTT; unfold initSt; rw [Tryd.ntmps70]
  (repeat (first | with_reducible refine AW.seq ?_ | ((first | refine arun_kn 4 rfl (fun C hC => ?_) | refine arunD_kn 4 rfl (fun C hC => ?_)); (repeat ((conv => whnf); simp [strsE_len])); refine hC _ ?_; clear hC C; simp only [List.drop, Nat.reduceAdd]) | ((first | refine arun_kn 1 rfl (fun C hC => ?_) | refine arunD_kn 1 rfl (fun C hC => ?_)); (repeat ((conv => whnf); simp [strsE_len])); refine hC _ ?_; clear hC C; simp only [List.drop, Nat.reduceAdd]) | (refine arun_skip ?_ ?_; (focus (simp [awant, strsE_len]; done))) | (refine AW.regionK [] (fun K hK => ?_)) | (refine AW.regionDK [] (pcs [] []) (by kernel_rfl) (by kernel_rfl) (fun K hK => ?_)) | (refine AW.condT ?_ ?_; (focus (simp [aev, strsE_len]; done))) | (refine AW.condF ?_ ?_; (focus (simp [aev, strsE_len]; done))) | with_reducible refine AW.block ?_ | ((first | ((first | refine arun_nil ?_ | refine arunD_nil ?_); refine hK _ ?_; clear hK K) | refine AW.skip ?_ | refine AW.exit ?_ | refine AW.ret ?_); simp only [thenA_exit, inBlockA_exit, if_true, if_false, Nat.reduceEqDiff, thenA_normal, inBlockA_normal, reduceIte, thenA_ret, inBlockA_ret, endQ_ret, endR_ret, endG_ret, endQ_normal, endR_normal, endG_normal])))
  exact ⟨.view .tight 0 [], by simp [ares, aresL], pur_view (by decide) (fun e he => by cases he), _, Wk.nil (fun h => by cases h), rfl⟩
theorem copyTexts_AC (t : VC) (p : List ByteArray) (hp : p.length ≤ 1000) : AC Tryd.prog 70 [.view t 1 (strsE p)] 0 (fun r => r = .view .loose 1 (strsE p)) := by
  rcases Nat.eq_zero_or_pos p.length with h | h
  · have := List.length_eq_zero_iff.1 h
    subst this
    exact copyTexts_nil t
  · exact AC.ofNames rfl (copyTexts_ACR t p hp h)
end Go.Proofs.YtmjbbakendnmmaaDoor.Eng
