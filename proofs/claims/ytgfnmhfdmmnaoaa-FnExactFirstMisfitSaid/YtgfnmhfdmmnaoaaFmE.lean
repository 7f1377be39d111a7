/-
  Texts of this claim, joined.
-/
import Derived.Laws.MakeOwn
import Derived.Lib.Bytealg
import Derived.BigQuiet
import Derived.Test.YtgfnmhfdmmnaoaaFmD

set_option linter.unusedSimpArgs false
set_option linter.unusedVariables false
set_option linter.unnecessarySimpa false
set_option maxRecDepth 100000
set_option maxHeartbeats 16000000
namespace Go.Proofs.Ytgfnmhfdmmnaoaa
open Go.RowKit
theorem shape_other {n : Nd} {d : Nat} (h : n.kind < 0 ∨ 4 < n.kind) : shapeB n (d + 1) = false := by
  have h0 : ¬ n.kind = 0 := by omega
  have h1 : ¬ n.kind = 1 := by omega
  have h2 : ¬ n.kind = 2 := by omega
  have h3 : ¬ n.kind = 3 := by omega
  have h4 : ¬ n.kind = 4 := by omega
  simp [shapeB_eq, partsB, h0, h1, h2, h3, h4]
theorem shape_0 {n : Nd} {d : Nat} (h : n.kind = 0) : shapeB n (d + 1) = (decide (n.num = 0) && n.text.toList.isEmpty && decide (n.names.length = 0) && decide (n.kids.length = 0)) := by
  by_cases hk : n.kids.length = 0 <;> simp [shapeB_eq, partsB, h, hk, shapeL_zero, -List.length_eq_zero_iff]
theorem shape_1 {n : Nd} {d : Nat} (h : n.kind = 1) : shapeB n (d + 1) = (n.text.toList.isEmpty && decide (n.names.length = 0) && (decide (-999999 ≤ n.num) && decide (n.num ≤ 999999)) && decide (n.kids.length = 0)) := by
  by_cases hk : n.kids.length = 0 <;> simp [shapeB_eq, partsB, h, hk, shapeL_zero, -List.length_eq_zero_iff]
theorem shape_2 {n : Nd} {d : Nat} (h : n.kind = 2) : shapeB n (d + 1) = (decide (n.num = 0) && decide (n.names.length = 0) && plainT n.text && decide (n.kids.length = 0)) := by
  by_cases hk : n.kids.length = 0 <;> simp [shapeB_eq, partsB, h, hk, shapeL_zero, -List.length_eq_zero_iff]
theorem shape_3 {n : Nd} {d : Nat} (h : n.kind = 3) : shapeB n (d + 1) = (decide (n.num = 0) && n.text.toList.isEmpty && decide (n.names.length = 0) && decide (n.kids.length ≤ 6) && shapeL n.kids d) := by
  simp [shapeB_eq, partsB, h, -List.length_eq_zero_iff]
theorem shape_4 {n : Nd} {d : Nat} (h : n.kind = 4) : shapeB n (d + 1) = (decide (n.num = 0) && n.text.toList.isEmpty && areNamesB n.names && decide (n.kids.length = n.names.length) && shapeL n.kids d) := by
  simp [shapeB_eq, partsB, h, Bool.and_assoc, -List.length_eq_zero_iff]
theorem shape_long {n : Nd} {d : Nat} (h : 6 < n.kids.length) : shapeB n d = false := by
  cases hp : partsB n
  · simp [shapeB_eq, hp]
  · have := partsB_kids hp; omega
theorem shape_num {n : Nd} {d : Nat} (h1 : n.kind ≠ 1) (h2 : n.num ≠ 0) : shapeB n d = false := by simp [shapeB_eq, partsB, h1, h2]
theorem shape_text {n : Nd} {d : Nat} (h1 : n.kind ≠ 2) (h2 : (!n.text.toList.isEmpty) = true) : shapeB n d = false := by
  have : n.text.toList.isEmpty = false := by simpa using h2
  simp [shapeB_eq, partsB, h1, this]
theorem shape_names {n : Nd} {d : Nat} (h1 : n.kind ≠ 4) (h2 : 0 < n.names.length) : shapeB n d = false := by
  have : ¬ n.names.length = 0 := by omega
  simp [shapeB_eq, partsB, h1, this, -List.length_eq_zero_iff]
theorem shape_ok : ∀ n, ShapeOk n := by
  refine Nd.ind' ShapeOk ?_
  intro n ih d dep v w hd hdep hn
  have Hn := Lib.hid hn
  obtain ⟨na, nc, ka, kc, rfl, hc⟩ := hn
  obtain ⟨htx, hns, hks⟩ := hc.parts
  have hnl : n.names.length ≤ 9223372036854775807 := hns.2.1
  have hkl : n.kids.length ≤ 9223372036854775807 := hks.2.1
  have Hns := Lib.hid hns
  have Htx := Lib.hid htx
  have Ih := Lib.hid ih
  clear hns hks hc htx ih
  unfold nodeV at *
  by_cases hd0 : d = 0
  · subst hd0
    obtain rfl : dep = 0 := by omega
    clear hdep
    have Hf : Hid (shapeB n 0 = false) := Lib.hid (by rw [shapeB_eq]; simp)
    go_enter Try.func133, Try.ntmps133
    go_wp2_with fail
    go_ret
    exact ⟨by simp [Hf.out], (by repeat (first | with_reducible exact Ext.refl _ _ | with_reducible refine Ext.trans ?_ (by assumption) | with_reducible refine Ext.drew ?_ | with_reducible refine Ext.drewN ?_ _ | with_reducible refine Ext.alloc ?_ _ | with_reducible refine Ext.setNew ?_ (by simp; done) _ | with_reducible refine Ext.setNew ?_ (by simp; omega) _))⟩
  · obtain ⟨d, rfl⟩ : ∃ d', d = d' + 1 := ⟨d - 1, by omega⟩
    have hd1 : 1 ≤ dep := by omega
    have hd2 : dep ≤ 5 := by omega
    have hdne : (dep == 0) = false := by rw [ibeq]; simp; omega
    have Hdep := Lib.hid hdep
    have Hd := Lib.hid hd
    clear hd hdep hd0
    obtain ⟨kind, num, text, names, kids⟩ := n
    dsimp only at *
    by_cases h1 : 6 < kids.length
    · have hz : shapeB ⟨kind, num, text, names, kids⟩ (d + 1) = false := shape_long (by exact h1)
      have Hf := Lib.hid hz
      clear hz
      go_enter Try.func133, Try.ntmps133
      go_wp2_with (first | (go_at_call 131; refine (inRange_ok _ _ _ _).mono ?_; rintro e w' ⟨rfl, rfl⟩) | (go_at_call 170; refine (validText_ok _ _ Htx.out).mono ?_; rintro e w' ⟨rfl, rfl⟩) | (go_at_call 132; refine (names_ok _ _ _ _ (Hns.out.ext ((Ext.refl nil w).alloc _) (fun _ _ h => h))).mono ?_; rintro e w' ⟨rfl, hg⟩; have hcc := bcell hg) | (go_at_call 171; refine (kids_of _ Ih.out d _ _ _ (by have := Hd.out; omega) (by have := Hdep.out; omega) (Hn.out.ext (by repeat (first | exact Ext.refl _ _ | refine Ext.trans ?_ (by assumption) | refine Ext.alloc ?_ _)) (fun _ _ h => h))).mono ?_; rintro e w'' ⟨rfl, hg2⟩))
      all_goals (go_ret; refine ⟨?_, (by repeat (first | with_reducible exact Ext.refl _ _ | with_reducible refine Ext.trans ?_ (by assumption) | with_reducible refine Ext.drew ?_ | with_reducible refine Ext.drewN ?_ _ | with_reducible refine Ext.alloc ?_ _ | with_reducible refine Ext.setNew ?_ (by simp; done) _ | with_reducible refine Ext.setNew ?_ (by simp; omega) _))⟩; rw [Hf.out])
      all_goals clear Hn Hns Htx Ih Hdep Hd Hf
      all_goals (simp_all [-List.length_eq_zero_iff])
      all_goals first | omega | rfl | (intro _; exact ⟨by simp only [areNamesB, ‹namesB names = true›]; simp; omega, by omega⟩) | (intro h; exfalso; simp [areNamesB, ‹namesB names = false›] at h)
    have h1 : kids.length ≤ 6 := by omega
    by_cases k1 : kind = 1
    · subst k1
      have he := shape_1 (n := ⟨1, num, text, names, kids⟩) (d := d) rfl
      cases ht : (!text.toList.isEmpty)
      · by_cases h2 : 0 < names.length
        · have := h2
          have Hf := Lib.hid he
          clear he
          go_enter Try.func133, Try.ntmps133
          go_wp2_with (first | (go_at_call 131; refine (inRange_ok _ _ _ _).mono ?_; rintro e w' ⟨rfl, rfl⟩) | (go_at_call 170; refine (validText_ok _ _ Htx.out).mono ?_; rintro e w' ⟨rfl, rfl⟩) | (go_at_call 132; refine (names_ok _ _ _ _ (Hns.out.ext ((Ext.refl nil w).alloc _) (fun _ _ h => h))).mono ?_; rintro e w' ⟨rfl, hg⟩; have hcc := bcell hg) | (go_at_call 171; refine (kids_of _ Ih.out d _ _ _ (by have := Hd.out; omega) (by have := Hdep.out; omega) (Hn.out.ext (by repeat (first | exact Ext.refl _ _ | refine Ext.trans ?_ (by assumption) | refine Ext.alloc ?_ _)) (fun _ _ h => h))).mono ?_; rintro e w'' ⟨rfl, hg2⟩))
          all_goals (go_ret; refine ⟨?_, (by repeat (first | with_reducible exact Ext.refl _ _ | with_reducible refine Ext.trans ?_ (by assumption) | with_reducible refine Ext.drew ?_ | with_reducible refine Ext.drewN ?_ _ | with_reducible refine Ext.alloc ?_ _ | with_reducible refine Ext.setNew ?_ (by simp; done) _ | with_reducible refine Ext.setNew ?_ (by simp; omega) _))⟩; rw [Hf.out])
          all_goals clear Hn Hns Htx Ih Hdep Hd Hf
          all_goals (simp_all [-List.length_eq_zero_iff])
          all_goals first | omega | rfl | (intro _; exact ⟨by simp only [areNamesB, ‹namesB names = true›]; simp; omega, by omega⟩) | (intro h; exfalso; simp [areNamesB, ‹namesB names = false›] at h)
        · have h2 : names.length ≤ 0 := by omega
          by_cases h3 : 0 < kids.length
          · have := h3
            have Hf := Lib.hid he
            clear he
            go_enter Try.func133, Try.ntmps133
            go_wp2_with (first | (go_at_call 131; refine (inRange_ok _ _ _ _).mono ?_; rintro e w' ⟨rfl, rfl⟩) | (go_at_call 170; refine (validText_ok _ _ Htx.out).mono ?_; rintro e w' ⟨rfl, rfl⟩) | (go_at_call 132; refine (names_ok _ _ _ _ (Hns.out.ext ((Ext.refl nil w).alloc _) (fun _ _ h => h))).mono ?_; rintro e w' ⟨rfl, hg⟩; have hcc := bcell hg) | (go_at_call 171; refine (kids_of _ Ih.out d _ _ _ (by have := Hd.out; omega) (by have := Hdep.out; omega) (Hn.out.ext (by repeat (first | exact Ext.refl _ _ | refine Ext.trans ?_ (by assumption) | refine Ext.alloc ?_ _)) (fun _ _ h => h))).mono ?_; rintro e w'' ⟨rfl, hg2⟩))
            all_goals (go_ret; refine ⟨?_, (by repeat (first | with_reducible exact Ext.refl _ _ | with_reducible refine Ext.trans ?_ (by assumption) | with_reducible refine Ext.drew ?_ | with_reducible refine Ext.drewN ?_ _ | with_reducible refine Ext.alloc ?_ _ | with_reducible refine Ext.setNew ?_ (by simp; done) _ | with_reducible refine Ext.setNew ?_ (by simp; omega) _))⟩; rw [Hf.out])
            all_goals clear Hn Hns Htx Ih Hdep Hd Hf
            all_goals (simp_all [-List.length_eq_zero_iff])
            all_goals first | omega | rfl | (intro _; exact ⟨by simp only [areNamesB, ‹namesB names = true›]; simp; omega, by omega⟩) | (intro h; exfalso; simp [areNamesB, ‹namesB names = false›] at h)
          · have h3 : kids.length ≤ 0 := by omega
            have Hf := Lib.hid he
            clear he
            go_enter Try.func133, Try.ntmps133
            go_wp2_with (first | (go_at_call 131; refine (inRange_ok _ _ _ _).mono ?_; rintro e w' ⟨rfl, rfl⟩) | (go_at_call 170; refine (validText_ok _ _ Htx.out).mono ?_; rintro e w' ⟨rfl, rfl⟩) | (go_at_call 132; refine (names_ok _ _ _ _ (Hns.out.ext ((Ext.refl nil w).alloc _) (fun _ _ h => h))).mono ?_; rintro e w' ⟨rfl, hg⟩; have hcc := bcell hg) | (go_at_call 171; refine (kids_of _ Ih.out d _ _ _ (by have := Hd.out; omega) (by have := Hdep.out; omega) (Hn.out.ext (by repeat (first | exact Ext.refl _ _ | refine Ext.trans ?_ (by assumption) | refine Ext.alloc ?_ _)) (fun _ _ h => h))).mono ?_; rintro e w'' ⟨rfl, hg2⟩))
            all_goals (go_ret; refine ⟨?_, (by repeat (first | with_reducible exact Ext.refl _ _ | with_reducible refine Ext.trans ?_ (by assumption) | with_reducible refine Ext.drew ?_ | with_reducible refine Ext.drewN ?_ _ | with_reducible refine Ext.alloc ?_ _ | with_reducible refine Ext.setNew ?_ (by simp; done) _ | with_reducible refine Ext.setNew ?_ (by simp; omega) _))⟩; rw [Hf.out])
            all_goals clear Hn Hns Htx Ih Hdep Hd Hf
            all_goals (simp_all [-List.length_eq_zero_iff])
            all_goals first | omega | rfl | (intro _; exact ⟨by simp only [areNamesB, ‹namesB names = true›]; simp; omega, by omega⟩) | (intro h; exfalso; simp [areNamesB, ‹namesB names = false›] at h)
      · have := ht
        have Hf := Lib.hid he
        clear he
        go_enter Try.func133, Try.ntmps133
        go_wp2_with (first | (go_at_call 131; refine (inRange_ok _ _ _ _).mono ?_; rintro e w' ⟨rfl, rfl⟩) | (go_at_call 170; refine (validText_ok _ _ Htx.out).mono ?_; rintro e w' ⟨rfl, rfl⟩) | (go_at_call 132; refine (names_ok _ _ _ _ (Hns.out.ext ((Ext.refl nil w).alloc _) (fun _ _ h => h))).mono ?_; rintro e w' ⟨rfl, hg⟩; have hcc := bcell hg) | (go_at_call 171; refine (kids_of _ Ih.out d _ _ _ (by have := Hd.out; omega) (by have := Hdep.out; omega) (Hn.out.ext (by repeat (first | exact Ext.refl _ _ | refine Ext.trans ?_ (by assumption) | refine Ext.alloc ?_ _)) (fun _ _ h => h))).mono ?_; rintro e w'' ⟨rfl, hg2⟩))
        all_goals (go_ret; refine ⟨?_, (by repeat (first | with_reducible exact Ext.refl _ _ | with_reducible refine Ext.trans ?_ (by assumption) | with_reducible refine Ext.drew ?_ | with_reducible refine Ext.drewN ?_ _ | with_reducible refine Ext.alloc ?_ _ | with_reducible refine Ext.setNew ?_ (by simp; done) _ | with_reducible refine Ext.setNew ?_ (by simp; omega) _))⟩; rw [Hf.out])
        all_goals clear Hn Hns Htx Ih Hdep Hd Hf
        all_goals (simp_all [-List.length_eq_zero_iff])
        all_goals first | omega | rfl | (intro _; exact ⟨by simp only [areNamesB, ‹namesB names = true›]; simp; omega, by omega⟩) | (intro h; exfalso; simp [areNamesB, ‹namesB names = false›] at h)
    have k1 : (kind != 1) = true := by simpa using k1
    by_cases hnum : num = 0
    rotate_left
    · have hnum : (num != 0) = true := by simpa using hnum
      have hz : shapeB ⟨kind, num, text, names, kids⟩ (d + 1) = false := shape_num (by simpa using k1) (by simpa using hnum)
      have Hf := Lib.hid hz
      clear hz
      go_enter Try.func133, Try.ntmps133
      go_wp2_with (first | (go_at_call 131; refine (inRange_ok _ _ _ _).mono ?_; rintro e w' ⟨rfl, rfl⟩) | (go_at_call 170; refine (validText_ok _ _ Htx.out).mono ?_; rintro e w' ⟨rfl, rfl⟩) | (go_at_call 132; refine (names_ok _ _ _ _ (Hns.out.ext ((Ext.refl nil w).alloc _) (fun _ _ h => h))).mono ?_; rintro e w' ⟨rfl, hg⟩; have hcc := bcell hg) | (go_at_call 171; refine (kids_of _ Ih.out d _ _ _ (by have := Hd.out; omega) (by have := Hdep.out; omega) (Hn.out.ext (by repeat (first | exact Ext.refl _ _ | refine Ext.trans ?_ (by assumption) | refine Ext.alloc ?_ _)) (fun _ _ h => h))).mono ?_; rintro e w'' ⟨rfl, hg2⟩))
      all_goals (go_ret; refine ⟨?_, (by repeat (first | with_reducible exact Ext.refl _ _ | with_reducible refine Ext.trans ?_ (by assumption) | with_reducible refine Ext.drew ?_ | with_reducible refine Ext.drewN ?_ _ | with_reducible refine Ext.alloc ?_ _ | with_reducible refine Ext.setNew ?_ (by simp; done) _ | with_reducible refine Ext.setNew ?_ (by simp; omega) _))⟩; rw [Hf.out])
      all_goals clear Hn Hns Htx Ih Hdep Hd Hf
      all_goals (simp_all [-List.length_eq_zero_iff])
      all_goals first | omega | rfl | (intro _; exact ⟨by simp only [areNamesB, ‹namesB names = true›]; simp; omega, by omega⟩) | (intro h; exfalso; simp [areNamesB, ‹namesB names = false›] at h)
    subst hnum
    by_cases k2 : kind = 2
    · subst k2
      have he := shape_2 (n := ⟨2, 0, text, names, kids⟩) (d := d) rfl
      by_cases h2 : 0 < names.length
      · have := h2
        have Hf := Lib.hid he
        clear he
        go_enter Try.func133, Try.ntmps133
        go_wp2_with (first | (go_at_call 131; refine (inRange_ok _ _ _ _).mono ?_; rintro e w' ⟨rfl, rfl⟩) | (go_at_call 170; refine (validText_ok _ _ Htx.out).mono ?_; rintro e w' ⟨rfl, rfl⟩) | (go_at_call 132; refine (names_ok _ _ _ _ (Hns.out.ext ((Ext.refl nil w).alloc _) (fun _ _ h => h))).mono ?_; rintro e w' ⟨rfl, hg⟩; have hcc := bcell hg) | (go_at_call 171; refine (kids_of _ Ih.out d _ _ _ (by have := Hd.out; omega) (by have := Hdep.out; omega) (Hn.out.ext (by repeat (first | exact Ext.refl _ _ | refine Ext.trans ?_ (by assumption) | refine Ext.alloc ?_ _)) (fun _ _ h => h))).mono ?_; rintro e w'' ⟨rfl, hg2⟩))
        all_goals (go_ret; refine ⟨?_, (by repeat (first | with_reducible exact Ext.refl _ _ | with_reducible refine Ext.trans ?_ (by assumption) | with_reducible refine Ext.drew ?_ | with_reducible refine Ext.drewN ?_ _ | with_reducible refine Ext.alloc ?_ _ | with_reducible refine Ext.setNew ?_ (by simp; done) _ | with_reducible refine Ext.setNew ?_ (by simp; omega) _))⟩; rw [Hf.out])
        all_goals clear Hn Hns Htx Ih Hdep Hd Hf
        all_goals (simp_all [-List.length_eq_zero_iff])
        all_goals first | omega | rfl | (intro _; exact ⟨by simp only [areNamesB, ‹namesB names = true›]; simp; omega, by omega⟩) | (intro h; exfalso; simp [areNamesB, ‹namesB names = false›] at h)
      · have h2 : names.length ≤ 0 := by omega
        by_cases h3 : 0 < kids.length
        · have := h3
          have Hf := Lib.hid he
          clear he
          go_enter Try.func133, Try.ntmps133
          go_wp2_with (first | (go_at_call 131; refine (inRange_ok _ _ _ _).mono ?_; rintro e w' ⟨rfl, rfl⟩) | (go_at_call 170; refine (validText_ok _ _ Htx.out).mono ?_; rintro e w' ⟨rfl, rfl⟩) | (go_at_call 132; refine (names_ok _ _ _ _ (Hns.out.ext ((Ext.refl nil w).alloc _) (fun _ _ h => h))).mono ?_; rintro e w' ⟨rfl, hg⟩; have hcc := bcell hg) | (go_at_call 171; refine (kids_of _ Ih.out d _ _ _ (by have := Hd.out; omega) (by have := Hdep.out; omega) (Hn.out.ext (by repeat (first | exact Ext.refl _ _ | refine Ext.trans ?_ (by assumption) | refine Ext.alloc ?_ _)) (fun _ _ h => h))).mono ?_; rintro e w'' ⟨rfl, hg2⟩))
          all_goals (go_ret; refine ⟨?_, (by repeat (first | with_reducible exact Ext.refl _ _ | with_reducible refine Ext.trans ?_ (by assumption) | with_reducible refine Ext.drew ?_ | with_reducible refine Ext.drewN ?_ _ | with_reducible refine Ext.alloc ?_ _ | with_reducible refine Ext.setNew ?_ (by simp; done) _ | with_reducible refine Ext.setNew ?_ (by simp; omega) _))⟩; rw [Hf.out])
          all_goals clear Hn Hns Htx Ih Hdep Hd Hf
          all_goals (simp_all [-List.length_eq_zero_iff])
          all_goals first | omega | rfl | (intro _; exact ⟨by simp only [areNamesB, ‹namesB names = true›]; simp; omega, by omega⟩) | (intro h; exfalso; simp [areNamesB, ‹namesB names = false›] at h)
        · have h3 : kids.length ≤ 0 := by omega
          have Hf := Lib.hid he
          clear he
          go_enter Try.func133, Try.ntmps133
          go_wp2_with (first | (go_at_call 131; refine (inRange_ok _ _ _ _).mono ?_; rintro e w' ⟨rfl, rfl⟩) | (go_at_call 170; refine (validText_ok _ _ Htx.out).mono ?_; rintro e w' ⟨rfl, rfl⟩) | (go_at_call 132; refine (names_ok _ _ _ _ (Hns.out.ext ((Ext.refl nil w).alloc _) (fun _ _ h => h))).mono ?_; rintro e w' ⟨rfl, hg⟩; have hcc := bcell hg) | (go_at_call 171; refine (kids_of _ Ih.out d _ _ _ (by have := Hd.out; omega) (by have := Hdep.out; omega) (Hn.out.ext (by repeat (first | exact Ext.refl _ _ | refine Ext.trans ?_ (by assumption) | refine Ext.alloc ?_ _)) (fun _ _ h => h))).mono ?_; rintro e w'' ⟨rfl, hg2⟩))
          all_goals (go_ret; refine ⟨?_, (by repeat (first | with_reducible exact Ext.refl _ _ | with_reducible refine Ext.trans ?_ (by assumption) | with_reducible refine Ext.drew ?_ | with_reducible refine Ext.drewN ?_ _ | with_reducible refine Ext.alloc ?_ _ | with_reducible refine Ext.setNew ?_ (by simp; done) _ | with_reducible refine Ext.setNew ?_ (by simp; omega) _))⟩; rw [Hf.out])
          all_goals clear Hn Hns Htx Ih Hdep Hd Hf
          all_goals (simp_all [-List.length_eq_zero_iff])
          all_goals first | omega | rfl | (intro _; exact ⟨by simp only [areNamesB, ‹namesB names = true›]; simp; omega, by omega⟩) | (intro h; exfalso; simp [areNamesB, ‹namesB names = false›] at h)
    have k2 : (kind != 2) = true := by simpa using k2
    cases ht : (!text.toList.isEmpty)
    rotate_left
    · have hz : shapeB ⟨kind, 0, text, names, kids⟩ (d + 1) = false := shape_text (by simpa using k2) ht
      have Hf := Lib.hid hz
      clear hz
      go_enter Try.func133, Try.ntmps133
      go_wp2_with (first | (go_at_call 131; refine (inRange_ok _ _ _ _).mono ?_; rintro e w' ⟨rfl, rfl⟩) | (go_at_call 170; refine (validText_ok _ _ Htx.out).mono ?_; rintro e w' ⟨rfl, rfl⟩) | (go_at_call 132; refine (names_ok _ _ _ _ (Hns.out.ext ((Ext.refl nil w).alloc _) (fun _ _ h => h))).mono ?_; rintro e w' ⟨rfl, hg⟩; have hcc := bcell hg) | (go_at_call 171; refine (kids_of _ Ih.out d _ _ _ (by have := Hd.out; omega) (by have := Hdep.out; omega) (Hn.out.ext (by repeat (first | exact Ext.refl _ _ | refine Ext.trans ?_ (by assumption) | refine Ext.alloc ?_ _)) (fun _ _ h => h))).mono ?_; rintro e w'' ⟨rfl, hg2⟩))
      all_goals (go_ret; refine ⟨?_, (by repeat (first | with_reducible exact Ext.refl _ _ | with_reducible refine Ext.trans ?_ (by assumption) | with_reducible refine Ext.drew ?_ | with_reducible refine Ext.drewN ?_ _ | with_reducible refine Ext.alloc ?_ _ | with_reducible refine Ext.setNew ?_ (by simp; done) _ | with_reducible refine Ext.setNew ?_ (by simp; omega) _))⟩; rw [Hf.out])
      all_goals clear Hn Hns Htx Ih Hdep Hd Hf
      all_goals (simp_all [-List.length_eq_zero_iff])
      all_goals first | omega | rfl | (intro _; exact ⟨by simp only [areNamesB, ‹namesB names = true›]; simp; omega, by omega⟩) | (intro h; exfalso; simp [areNamesB, ‹namesB names = false›] at h)
    by_cases k4 : kind = 4
    · subst k4
      have he := shape_4 (n := ⟨4, 0, text, names, kids⟩) (d := d) rfl
      have Hf := Lib.hid he
      clear he
      go_enter Try.func133, Try.ntmps133
      go_wp2_with (first | (go_at_call 131; refine (inRange_ok _ _ _ _).mono ?_; rintro e w' ⟨rfl, rfl⟩) | (go_at_call 170; refine (validText_ok _ _ Htx.out).mono ?_; rintro e w' ⟨rfl, rfl⟩) | (go_at_call 132; refine (names_ok _ _ _ _ (Hns.out.ext ((Ext.refl nil w).alloc _) (fun _ _ h => h))).mono ?_; rintro e w' ⟨rfl, hg⟩; have hcc := bcell hg) | (go_at_call 171; refine (kids_of _ Ih.out d _ _ _ (by have := Hd.out; omega) (by have := Hdep.out; omega) (Hn.out.ext (by repeat (first | exact Ext.refl _ _ | refine Ext.trans ?_ (by assumption) | refine Ext.alloc ?_ _)) (fun _ _ h => h))).mono ?_; rintro e w'' ⟨rfl, hg2⟩))
      all_goals (go_ret; refine ⟨?_, (by repeat (first | with_reducible exact Ext.refl _ _ | with_reducible refine Ext.trans ?_ (by assumption) | with_reducible refine Ext.drew ?_ | with_reducible refine Ext.drewN ?_ _ | with_reducible refine Ext.alloc ?_ _ | with_reducible refine Ext.setNew ?_ (by simp; done) _ | with_reducible refine Ext.setNew ?_ (by simp; omega) _))⟩; rw [Hf.out])
      all_goals clear Hn Hns Htx Ih Hdep Hd Hf
      all_goals (simp_all [-List.length_eq_zero_iff])
      all_goals first | omega | rfl | (intro _; exact ⟨by simp only [areNamesB, ‹namesB names = true›]; simp; omega, by omega⟩) | (intro h; exfalso; simp [areNamesB, ‹namesB names = false›] at h)
    have k4 : (kind != 4) = true := by simpa using k4
    by_cases h2 : 0 < names.length
    · have hz : shapeB ⟨kind, 0, text, names, kids⟩ (d + 1) = false := shape_names (by simpa using k4) h2
      have Hf := Lib.hid hz
      clear hz
      go_enter Try.func133, Try.ntmps133
      go_wp2_with (first | (go_at_call 131; refine (inRange_ok _ _ _ _).mono ?_; rintro e w' ⟨rfl, rfl⟩) | (go_at_call 170; refine (validText_ok _ _ Htx.out).mono ?_; rintro e w' ⟨rfl, rfl⟩) | (go_at_call 132; refine (names_ok _ _ _ _ (Hns.out.ext ((Ext.refl nil w).alloc _) (fun _ _ h => h))).mono ?_; rintro e w' ⟨rfl, hg⟩; have hcc := bcell hg) | (go_at_call 171; refine (kids_of _ Ih.out d _ _ _ (by have := Hd.out; omega) (by have := Hdep.out; omega) (Hn.out.ext (by repeat (first | exact Ext.refl _ _ | refine Ext.trans ?_ (by assumption) | refine Ext.alloc ?_ _)) (fun _ _ h => h))).mono ?_; rintro e w'' ⟨rfl, hg2⟩))
      all_goals (go_ret; refine ⟨?_, (by repeat (first | with_reducible exact Ext.refl _ _ | with_reducible refine Ext.trans ?_ (by assumption) | with_reducible refine Ext.drew ?_ | with_reducible refine Ext.drewN ?_ _ | with_reducible refine Ext.alloc ?_ _ | with_reducible refine Ext.setNew ?_ (by simp; done) _ | with_reducible refine Ext.setNew ?_ (by simp; omega) _))⟩; rw [Hf.out])
      all_goals clear Hn Hns Htx Ih Hdep Hd Hf
      all_goals (simp_all [-List.length_eq_zero_iff])
      all_goals first | omega | rfl | (intro _; exact ⟨by simp only [areNamesB, ‹namesB names = true›]; simp; omega, by omega⟩) | (intro h; exfalso; simp [areNamesB, ‹namesB names = false›] at h)
    have h2 : names.length ≤ 0 := by omega
    by_cases k3 : kind = 3
    · subst k3
      have he := shape_3 (n := ⟨3, 0, text, names, kids⟩) (d := d) rfl
      have Hf := Lib.hid he
      clear he
      go_enter Try.func133, Try.ntmps133
      go_wp2_with (first | (go_at_call 131; refine (inRange_ok _ _ _ _).mono ?_; rintro e w' ⟨rfl, rfl⟩) | (go_at_call 170; refine (validText_ok _ _ Htx.out).mono ?_; rintro e w' ⟨rfl, rfl⟩) | (go_at_call 132; refine (names_ok _ _ _ _ (Hns.out.ext ((Ext.refl nil w).alloc _) (fun _ _ h => h))).mono ?_; rintro e w' ⟨rfl, hg⟩; have hcc := bcell hg) | (go_at_call 171; refine (kids_of _ Ih.out d _ _ _ (by have := Hd.out; omega) (by have := Hdep.out; omega) (Hn.out.ext (by repeat (first | exact Ext.refl _ _ | refine Ext.trans ?_ (by assumption) | refine Ext.alloc ?_ _)) (fun _ _ h => h))).mono ?_; rintro e w'' ⟨rfl, hg2⟩))
      all_goals (go_ret; refine ⟨?_, (by repeat (first | with_reducible exact Ext.refl _ _ | with_reducible refine Ext.trans ?_ (by assumption) | with_reducible refine Ext.drew ?_ | with_reducible refine Ext.drewN ?_ _ | with_reducible refine Ext.alloc ?_ _ | with_reducible refine Ext.setNew ?_ (by simp; done) _ | with_reducible refine Ext.setNew ?_ (by simp; omega) _))⟩; rw [Hf.out])
      all_goals clear Hn Hns Htx Ih Hdep Hd Hf
      all_goals (simp_all [-List.length_eq_zero_iff])
      all_goals first | omega | rfl | (intro _; exact ⟨by simp only [areNamesB, ‹namesB names = true›]; simp; omega, by omega⟩) | (intro h; exfalso; simp [areNamesB, ‹namesB names = false›] at h)
    by_cases k0 : kind = 0
    · subst k0
      have he := shape_0 (n := ⟨0, 0, text, names, kids⟩) (d := d) rfl
      by_cases h3 : 0 < kids.length
      · have := h3
        have Hf := Lib.hid he
        clear he
        go_enter Try.func133, Try.ntmps133
        go_wp2_with (first | (go_at_call 131; refine (inRange_ok _ _ _ _).mono ?_; rintro e w' ⟨rfl, rfl⟩) | (go_at_call 170; refine (validText_ok _ _ Htx.out).mono ?_; rintro e w' ⟨rfl, rfl⟩) | (go_at_call 132; refine (names_ok _ _ _ _ (Hns.out.ext ((Ext.refl nil w).alloc _) (fun _ _ h => h))).mono ?_; rintro e w' ⟨rfl, hg⟩; have hcc := bcell hg) | (go_at_call 171; refine (kids_of _ Ih.out d _ _ _ (by have := Hd.out; omega) (by have := Hdep.out; omega) (Hn.out.ext (by repeat (first | exact Ext.refl _ _ | refine Ext.trans ?_ (by assumption) | refine Ext.alloc ?_ _)) (fun _ _ h => h))).mono ?_; rintro e w'' ⟨rfl, hg2⟩))
        all_goals (go_ret; refine ⟨?_, (by repeat (first | with_reducible exact Ext.refl _ _ | with_reducible refine Ext.trans ?_ (by assumption) | with_reducible refine Ext.drew ?_ | with_reducible refine Ext.drewN ?_ _ | with_reducible refine Ext.alloc ?_ _ | with_reducible refine Ext.setNew ?_ (by simp; done) _ | with_reducible refine Ext.setNew ?_ (by simp; omega) _))⟩; rw [Hf.out])
        all_goals clear Hn Hns Htx Ih Hdep Hd Hf
        all_goals (simp_all [-List.length_eq_zero_iff])
        all_goals first | omega | rfl | (intro _; exact ⟨by simp only [areNamesB, ‹namesB names = true›]; simp; omega, by omega⟩) | (intro h; exfalso; simp [areNamesB, ‹namesB names = false›] at h)
      · have h3 : kids.length ≤ 0 := by omega
        have Hf := Lib.hid he
        clear he
        go_enter Try.func133, Try.ntmps133
        go_wp2_with (first | (go_at_call 131; refine (inRange_ok _ _ _ _).mono ?_; rintro e w' ⟨rfl, rfl⟩) | (go_at_call 170; refine (validText_ok _ _ Htx.out).mono ?_; rintro e w' ⟨rfl, rfl⟩) | (go_at_call 132; refine (names_ok _ _ _ _ (Hns.out.ext ((Ext.refl nil w).alloc _) (fun _ _ h => h))).mono ?_; rintro e w' ⟨rfl, hg⟩; have hcc := bcell hg) | (go_at_call 171; refine (kids_of _ Ih.out d _ _ _ (by have := Hd.out; omega) (by have := Hdep.out; omega) (Hn.out.ext (by repeat (first | exact Ext.refl _ _ | refine Ext.trans ?_ (by assumption) | refine Ext.alloc ?_ _)) (fun _ _ h => h))).mono ?_; rintro e w'' ⟨rfl, hg2⟩))
        all_goals (go_ret; refine ⟨?_, (by repeat (first | with_reducible exact Ext.refl _ _ | with_reducible refine Ext.trans ?_ (by assumption) | with_reducible refine Ext.drew ?_ | with_reducible refine Ext.drewN ?_ _ | with_reducible refine Ext.alloc ?_ _ | with_reducible refine Ext.setNew ?_ (by simp; done) _ | with_reducible refine Ext.setNew ?_ (by simp; omega) _))⟩; rw [Hf.out])
        all_goals clear Hn Hns Htx Ih Hdep Hd Hf
        all_goals (simp_all [-List.length_eq_zero_iff])
        all_goals first | omega | rfl | (intro _; exact ⟨by simp only [areNamesB, ‹namesB names = true›]; simp; omega, by omega⟩) | (intro h; exfalso; simp [areNamesB, ‹namesB names = false›] at h)
    have kk : kind < 0 ∨ 4 < kind := by simp at k1 k2 k4; omega
    have hz : shapeB ⟨kind, 0, text, names, kids⟩ (d + 1) = false := shape_other kk
    rcases kk with kk | kk
    · by_cases h3 : 0 < kids.length
      · have := h3
        have Hf := Lib.hid hz
        clear hz
        go_enter Try.func133, Try.ntmps133
        go_wp2_with (first | (go_at_call 131; refine (inRange_ok _ _ _ _).mono ?_; rintro e w' ⟨rfl, rfl⟩) | (go_at_call 170; refine (validText_ok _ _ Htx.out).mono ?_; rintro e w' ⟨rfl, rfl⟩) | (go_at_call 132; refine (names_ok _ _ _ _ (Hns.out.ext ((Ext.refl nil w).alloc _) (fun _ _ h => h))).mono ?_; rintro e w' ⟨rfl, hg⟩; have hcc := bcell hg) | (go_at_call 171; refine (kids_of _ Ih.out d _ _ _ (by have := Hd.out; omega) (by have := Hdep.out; omega) (Hn.out.ext (by repeat (first | exact Ext.refl _ _ | refine Ext.trans ?_ (by assumption) | refine Ext.alloc ?_ _)) (fun _ _ h => h))).mono ?_; rintro e w'' ⟨rfl, hg2⟩))
        all_goals (go_ret; refine ⟨?_, (by repeat (first | with_reducible exact Ext.refl _ _ | with_reducible refine Ext.trans ?_ (by assumption) | with_reducible refine Ext.drew ?_ | with_reducible refine Ext.drewN ?_ _ | with_reducible refine Ext.alloc ?_ _ | with_reducible refine Ext.setNew ?_ (by simp; done) _ | with_reducible refine Ext.setNew ?_ (by simp; omega) _))⟩; rw [Hf.out])
        all_goals clear Hn Hns Htx Ih Hdep Hd Hf
        all_goals (simp_all [-List.length_eq_zero_iff])
        all_goals first | omega | rfl | (intro _; exact ⟨by simp only [areNamesB, ‹namesB names = true›]; simp; omega, by omega⟩) | (intro h; exfalso; simp [areNamesB, ‹namesB names = false›] at h)
      · have h3 : kids.length ≤ 0 := by omega
        have Hf := Lib.hid hz
        clear hz
        go_enter Try.func133, Try.ntmps133
        go_wp2_with (first | (go_at_call 131; refine (inRange_ok _ _ _ _).mono ?_; rintro e w' ⟨rfl, rfl⟩) | (go_at_call 170; refine (validText_ok _ _ Htx.out).mono ?_; rintro e w' ⟨rfl, rfl⟩) | (go_at_call 132; refine (names_ok _ _ _ _ (Hns.out.ext ((Ext.refl nil w).alloc _) (fun _ _ h => h))).mono ?_; rintro e w' ⟨rfl, hg⟩; have hcc := bcell hg) | (go_at_call 171; refine (kids_of _ Ih.out d _ _ _ (by have := Hd.out; omega) (by have := Hdep.out; omega) (Hn.out.ext (by repeat (first | exact Ext.refl _ _ | refine Ext.trans ?_ (by assumption) | refine Ext.alloc ?_ _)) (fun _ _ h => h))).mono ?_; rintro e w'' ⟨rfl, hg2⟩))
        all_goals (go_ret; refine ⟨?_, (by repeat (first | with_reducible exact Ext.refl _ _ | with_reducible refine Ext.trans ?_ (by assumption) | with_reducible refine Ext.drew ?_ | with_reducible refine Ext.drewN ?_ _ | with_reducible refine Ext.alloc ?_ _ | with_reducible refine Ext.setNew ?_ (by simp; done) _ | with_reducible refine Ext.setNew ?_ (by simp; omega) _))⟩; rw [Hf.out])
        all_goals clear Hn Hns Htx Ih Hdep Hd Hf
        all_goals (simp_all [-List.length_eq_zero_iff])
        all_goals first | omega | rfl | (intro _; exact ⟨by simp only [areNamesB, ‹namesB names = true›]; simp; omega, by omega⟩) | (intro h; exfalso; simp [areNamesB, ‹namesB names = false›] at h)
    · have := kk
      have Hf := Lib.hid hz
      clear hz
      go_enter Try.func133, Try.ntmps133
      go_wp2_with (first | (go_at_call 131; refine (inRange_ok _ _ _ _).mono ?_; rintro e w' ⟨rfl, rfl⟩) | (go_at_call 170; refine (validText_ok _ _ Htx.out).mono ?_; rintro e w' ⟨rfl, rfl⟩) | (go_at_call 132; refine (names_ok _ _ _ _ (Hns.out.ext ((Ext.refl nil w).alloc _) (fun _ _ h => h))).mono ?_; rintro e w' ⟨rfl, hg⟩; have hcc := bcell hg) | (go_at_call 171; refine (kids_of _ Ih.out d _ _ _ (by have := Hd.out; omega) (by have := Hdep.out; omega) (Hn.out.ext (by repeat (first | exact Ext.refl _ _ | refine Ext.trans ?_ (by assumption) | refine Ext.alloc ?_ _)) (fun _ _ h => h))).mono ?_; rintro e w'' ⟨rfl, hg2⟩))
      all_goals (go_ret; refine ⟨?_, (by repeat (first | with_reducible exact Ext.refl _ _ | with_reducible refine Ext.trans ?_ (by assumption) | with_reducible refine Ext.drew ?_ | with_reducible refine Ext.drewN ?_ _ | with_reducible refine Ext.alloc ?_ _ | with_reducible refine Ext.setNew ?_ (by simp; done) _ | with_reducible refine Ext.setNew ?_ (by simp; omega) _))⟩; rw [Hf.out])
      all_goals clear Hn Hns Htx Ih Hdep Hd Hf
      all_goals (simp_all [-List.length_eq_zero_iff])
      all_goals first | omega | rfl | (intro _; exact ⟨by simp only [areNamesB, ‹namesB names = true›]; simp; omega, by omega⟩) | (intro h; exfalso; simp [areNamesB, ‹namesB names = false›] at h)
def CountOk (n : Nd) : Prop := ∀ (v : Value) (w : World), n.count ≤ 1000000 → NodeR w any n v →
    Calls Try.prog 134 #[v] w fun e w' => e = .returned (.int .i64 n.count) ∧ Grow w w'
theorem countL_take (l : List Nd) (k : Nat) : countL (l.take k) ≤ countL l := by
  induction l generalizing k with
  | nil => simp
  | cons a l ih => cases k with
    | zero => simp [countL]
    | succ k => simp only [List.take_succ_cons, countL]; have := ih k; omega
theorem count_ok : ∀ n, CountOk n := by
  refine Nd.ind' CountOk ?_
  intro n ih v w hb hn
  have hb' : countL n.kids ≤ 1000000 := by rw [Nd.count_eq] at hb; omega
  have Ih := Lib.hid ih
  have Hb := Lib.hid hb
  clear ih hb
  obtain ⟨na, nc, ka, kc, rfl, hc⟩ := hn
  obtain ⟨htx, hns, hks⟩ := hc.parts
  have hkl : n.kids.length ≤ 9223372036854775807 := hks.2.1
  have Hks := Lib.hid hks
  clear htx hns hks hc
  unfold nodeV at *
  go_enter Try.func134, Try.ntmps134
  go_wp2
  go_loopw [3, 4] (fun t i wr => Grow (w.alloc (.cells #[.int .i64 n.kind, .int .i64 n.num, .string n.text, .slice na n.names.length nc, .slice ka n.kids.length kc] 30)) wr ∧ ∃ k : Nat, k ≤ n.kids.length ∧ i = .int .i64 k ∧ t = .int .i64 ((1 + countL (n.kids.take k) : Nat) : Int)) (fun _ i _ => n.kids.length - (intOf i).toNat)
  case atStart => exact ⟨Ext.refl _ _, 0, Nat.zero_le _, rfl, by simp [countL]⟩
  case round =>
    obtain ⟨hg, k, hk, rfl, rfl⟩ := hrel
    have hcc := bcell hg
    have hg0 : Grow w wr := ((Ext.refl _ _).alloc _).trans hg
    have hct := countL_take n.kids k
    by_cases hlt : k < n.kids.length
    · obtain ⟨_, _, hks⟩ := (Hks.out).ext hg0 (fun _ _ h => h)
      rcases hks with hks | ⟨bk, ok, rfl, _, hkr⟩
      · simp [hks] at hlt
      obtain ⟨na', nc', ka', kc', c0, c1, c2, c3, c4, hkc⟩ := hkr.get k hlt
      have Hkc : Hid (NodeR wr any n.kids[k] (nodeV n.kids[k] na' nc' ka' kc')) := Lib.hid ⟨_, _, _, _, rfl, hkc⟩
      have hct' := countL_take n.kids (k + 1)
      rw [take_snoc' _ _ hlt, countL_snoc] at hct'
      clear hkr hkc
      go_wp2_with (go_at_call 134; refine (Ih.out _ (List.getElem_mem hlt) _ _ (by omega) Hkc.out).mono ?_; rintro e w2 ⟨rfl, hg2⟩)
      go_roundw
      case rel => exact ⟨hg.trans hg2, k + 1, by omega, by go_num, by rw [take_snoc' _ _ hlt, countL_snoc]; go_num⟩
      case measure => simp [intOf]; omega
    · have hke : k = n.kids.length := by omega
      have Hke := Lib.hid hke
      clear hke
      go_wp2
      go_ret
      exact ⟨by rw [Nd.count_eq, Hke.out]; simp, hg0⟩
theorem validNode_ok (n : Nd) (v : Value) (w : World) (hn : NodeR w any n v) :
    Calls Try.prog 62 #[v] w fun e w' => e = .returned (.bool (validB n)) ∧ Grow w w' := by
  have Hn := Lib.hid hn
  obtain ⟨na, nc, ka, kc, rfl, hc⟩ := hn
  clear hc
  unfold nodeV at *
  cases hs : shapeB n 5
  · have Hs := Lib.hid hs
    have Hv : Hid (validB n = false) := Lib.hid (by simp [validB, hs])
    clear hs
    go_enter Try.func62, Try.ntmps62
    go_wp2_with (go_at_call 133; refine (shape_ok n 5 _ _ _ (by omega) (by omega) ((Hn.out).ext ((Ext.refl nil w).alloc _) (fun _ _ h => h))).mono ?_; rintro e w2 ⟨rfl, hg2⟩; simp only [Hs.out])
    go_ret
    exact ⟨by simp [Hv.out], (by repeat (first | with_reducible exact Ext.refl _ _ | with_reducible refine Ext.trans ?_ (by assumption) | with_reducible refine Ext.drew ?_ | with_reducible refine Ext.drewN ?_ _ | with_reducible refine Ext.alloc ?_ _ | with_reducible refine Ext.setNew ?_ (by simp; done) _ | with_reducible refine Ext.setNew ?_ (by simp; omega) _))⟩
  · have Hs := Lib.hid hs
    have hcn : n.count ≤ 1555 := Nat.le_trans (count_le 5 n hs) (cb_le 5 (by omega))
    have Hv : Hid (validB n = decide (n.count ≤ 40)) := Lib.hid (by simp [validB, hs])
    clear hs
    go_enter Try.func62, Try.ntmps62
    go_wp2_with (first | (go_at_call 133; refine (shape_ok n 5 _ _ _ (by omega) (by omega) ((Hn.out).ext ((Ext.refl nil w).alloc _) (fun _ _ h => h))).mono ?_; rintro e w2 ⟨rfl, hg2⟩; simp only [Hs.out]; have hcc := bcell hg2) | (go_at_call 134; refine (count_ok n _ _ (by omega) ((Hn.out).grow (by repeat (first | with_reducible exact Ext.refl _ _ | with_reducible refine Ext.trans ?_ (by assumption) | with_reducible refine Ext.drew ?_ | with_reducible refine Ext.drewN ?_ _ | with_reducible refine Ext.alloc ?_ _ | with_reducible refine Ext.setNew ?_ (by simp; done) _ | with_reducible refine Ext.setNew ?_ (by simp; omega) _)))).mono ?_; rintro e w3 ⟨rfl, hg3⟩))
    all_goals go_ret
    all_goals exact ⟨by rw [Hv.out]; simp; omega, (by repeat (first | with_reducible exact Ext.refl _ _ | with_reducible refine Ext.trans ?_ (by assumption) | with_reducible refine Ext.drew ?_ | with_reducible refine Ext.drewN ?_ _ | with_reducible refine Ext.alloc ?_ _ | with_reducible refine Ext.setNew ?_ (by simp; done) _ | with_reducible refine Ext.setNew ?_ (by simp; omega) _))⟩
end Go.Proofs.Ytgfnmhfdmmnaoaa
namespace Go.Proofs.Ytgfnmhfdmmnaoaa.Eng
open Go Go.RowKit
attribute [local simp] big size_mk ASt.pay Option.map_map Function.comp_def awant aop acall ado aev ofVal ofVal0 ASt.put ASt.add ASt.turn ASt.kill abox aalloc astore aload aloadD astoreD idOf ASt.at cellsTo afieldAddr afield aindexAddr aindex alen abin aint acmp astr aun apick aextract anil aslice abound abuild afill abuildSlice asCells aps avCells over upd aappend asrc amax amin aconv mkSt slots rowsOf_cons rowsOf_nil usedOf_cons usedOf_nil ZK.av List.replicate ASt.back ASt.addL ASt.killL nodeA nodeT nodeTL_eq nodeL_eq strsE_get strsE_len intsE_get intsE_len strsE_at intsE_at tab2 tab3 tab4 tab5 tab6 tab7 tab8 tab9 tab10 tab11 tab12 tab13 tab14 tab15 tab16 tab17 tab18 tab19 tab21 tab22 tab23 tab24 tab25 tab26 tab27 tab28 tab29 tab30 tab39 tab40 tab41 tab42 tab43 tab47 tab48 tab55 tab56 tab57 tab60 tab61 tab62 tab73 tab74 tab75 tab85 tab92 tab115 tab116 tab143 tab144 tab145 tab154 tab155 tab170 tab175 tab182 tab197 tab198 tab203 tab204 tab205 tab207 tab208 tab209
theorem repL5 {w : World} {ρ : Cx} {a b c d e : AV} {v0 v1 v2 v3 v4 : Value} (h0 : Rep w ρ a v0) (h1 : Rep w ρ b v1) (h2 : Rep w ρ c v2) (h3 : Rep w ρ d v3) (h4 : Rep w ρ e v4) : RepL w ρ [a, b, c, d, e] [v0, v1, v2, v3, v4] := by
  unfold RepL; refine ⟨_, _, rfl, h0, ?_⟩
  unfold RepL; refine ⟨_, _, rfl, h1, ?_⟩
  unfold RepL; refine ⟨_, _, rfl, h2, ?_⟩
  unfold RepL; refine ⟨_, _, rfl, h3, ?_⟩
  unfold RepL; refine ⟨_, _, rfl, h4, ?_⟩
  unfold RepL; rfl
theorem repL5_inv {w : World} {ρ : Cx} {a b c d e : AV} {vs : List Value} (h : RepL w ρ [a, b, c, d, e] vs) : ∃ v0 v1 v2 v3 v4, vs = [v0, v1, v2, v3, v4] ∧ Rep w ρ a v0 ∧ Rep w ρ b v1 ∧ Rep w ρ c v2 ∧ Rep w ρ d v3 ∧ Rep w ρ e v4 := by
  unfold RepL at h; obtain ⟨v0, vs, rfl, h0, h⟩ := h
  unfold RepL at h; obtain ⟨v1, vs, rfl, h1, h⟩ := h
  unfold RepL at h; obtain ⟨v2, vs, rfl, h2, h⟩ := h
  unfold RepL at h; obtain ⟨v3, vs, rfl, h3, h⟩ := h
  unfold RepL at h; obtain ⟨v4, vs, rfl, h4, h⟩ := h
  unfold RepL at h; subst h
  exact ⟨_, _, _, _, _, rfl, h0, h1, h2, h3, h4⟩
theorem cells_of {t : TypeId} {i : TI} (h : tab t = some i) : (Try.prog).cellsOf t = i.size := by
  obtain ⟨d, j, hs⟩ := TI.says (tab_ok t i h)
  exact hs.cells
theorem ACR.row {f : FuncId} {args : List AV} {c : Nat} {p : Nd → Prop} (h : ACR Try.prog f args c (R0 p) (R1 p)) : ACR Try.prog f args c (fun _ => False) (R1 p) :=
  ⟨h.1, fun w L S rb k vs g0 h1 h2 h3 => (h.2 w L S rb k vs g0 h1 h2 h3).mono fun e w' ⟨v, S', k1, k2, k3, k4, k5, k6⟩ => ⟨v, S', k1, k2, k3, k4, k5, .inr (by
    rcases k6 with ⟨r, q1, n, hs, hn, rfl⟩ | q
    · unfold nodeT at q1
      rw [nodeTL_eq, hn] at q1
      obtain ⟨vs, rfl, hone, hl⟩ := rep_agg.1 q1
      obtain ⟨v0, v1, v2, v3, v4, rfl, r0, r1, r2, r3, r4⟩ := repL5_inv hl
      obtain ⟨a, c', rfl, ht, _⟩ := rep_view.1 r3
      have hc := ht rfl
      simp only [strsE, List.map_nil, List.length_nil] at hc
      subst hc
      have le : ∀ id, Cx.Le w' (pureC nil S' none) w' (oneC S' id (.slice a 0 0) 0) := fun id => ⟨fun b hb => ⟨hb, fun _ => rfl⟩, fun b hb => False.elim hb, fun id' hid' => False.elim hid', fun _ h => by cases h⟩
      refine ⟨nodeN n, namesRow n, .slice a 0 0, fun id => ?_, ⟨⟨cells_of tab9, fun g hg => by cases a <;> simp [blk] at hg⟩, ?_, (fun h => by cases h), [], .inl ?_, ?_, fun u hu => by cases hu⟩, fun g hg => by cases a <;> simp [blk] at hg, n, hs, rfl, rfl⟩
      · have hl0 : (namesRow n).es.length = 0 := by simp [namesRow, hn, strsE]
        rw [hl0]
        unfold nodeN
        rw [hn]
        refine rep_agg.2 ⟨_, rfl, hone, repL5 (r0.le (le id)) (r1.le (le id)) (r2.le (le id)) (rep_own.2 ⟨rfl, by simp [oneC], ⟨a, 0, rfl, .inl rfl⟩, fun u hu _ => by simp [oneC] at hu; exact hu⟩) (r4.le (le id))⟩
      · simp [namesRow, hn, strsE]
      · simp [namesRow, hn, strsE]
      · simp only [namesRow, hn, strsE, List.map_nil, List.flatten_nil]; unfold RepL; rfl
    · exact q)⟩⟩
theorem validNode_AC (n : Nd) (t : VC) : AC Try.prog 62 [nodeT t n] 0 (fun r => r = .bool (validB n)) := by
  refine AC.ofGrow (enters_of Try.func62 (by kernel_rfl) (by kernel_rfl)) (fun w L S rb vs h => ?_)
  unfold RepL at h
  obtain ⟨v, vs', rfl, h1, h2⟩ := h
  unfold RepL at h2
  subst h2
  refine (validNode_ok n v w (node_of_rep h1)).mono ?_
  rintro e w' ⟨rfl, hg⟩
  exact ⟨_, _, rfl, hg, rep_bool.2 rfl, rfl⟩
end Go.Proofs.Ytgfnmhfdmmnaoaa.Eng
namespace Go.Proofs.Ytgfnmhfdmmnaoaa.Eng
open Go Go.RowKit
inductive WkE : List (List AV) → List (List AV) → Prop
  | nil : WkE [] []
  | cons {c d : List AV} {cs ds : List (List AV)} (h : WkL c d) (t : WkE cs ds) : WkE (c :: cs) (d :: ds)
theorem WkL.length {cs ds : List AV} (h : WkL cs ds) : ds.length = cs.length := by
  induction h with
  | nil => rfl
  | cons _ _ ih => simp [ih]
theorem WkE.length {cs ds : List (List AV)} (h : WkE cs ds) : ds.length = cs.length := by
  induction h with
  | nil => rfl
  | cons _ _ ih => simp [ih]
theorem WkE.sz {cs ds : List (List AV)} {n : Nat} (h : WkE cs ds) (hs : ∀ e ∈ cs, e.length = n) : ∀ e ∈ ds, e.length = n := by
  induction h with
  | nil => intro e he; cases he
  | cons h _ ih =>
    intro e he
    rcases List.mem_cons.1 he with rfl | he
    · rw [h.length]; exact hs _ (by simp)
    · exact ih (fun e he => hs e (by simp [he])) e he
theorem WkL.cells {cs ds : List AV} (h : WkL cs ds) : ∀ {w : World} {ρ : Cx} {b o : Nat}, RepC w ρ b o cs → RepC w ρ b o ds := by
  induction h with
  | nil => exact fun h => h
  | cons h _ ih =>
    intro w ρ b o hr
    unfold RepC at hr ⊢
    obtain ⟨⟨v, h1, h2, h3⟩, h4⟩ := hr
    exact ⟨⟨v, h1, h2, h _ _ _ h3⟩, ih h4⟩
theorem WkE.rows {cs ds : List (List AV)} (h : WkE cs ds) : ∀ {w : World} {ρ : Cx} {b o : Nat}, RepE w ρ b o cs → RepE w ρ b o ds := by
  induction h with
  | nil => exact fun h => h
  | cons h _ ih =>
    intro w ρ b o hr
    unfold RepE at hr ⊢
    exact ⟨h.cells hr.1, by rw [h.length]; exact ih hr.2⟩
theorem Wk.view {t : VC} {sz : Nat} {es ds : List (List AV)} (h : t ≠ .lent) (he : WkE es ds) : Wk (.view t sz es) (.view .loose sz ds) := fun _ ρ _ hr => by
  obtain ⟨a, c, h1, h2, h3, h4, h5, h6⟩ := rep_view.1 hr
  refine rep_view.2 ⟨a, c, by rw [he.length]; exact h1, (fun e => by cases e), by rw [he.length]; exact h3, by rw [he.length]; exact h4, he.sz h5, ?_⟩
  rcases h6 with rfl | ⟨b, o, k1, k2, k3⟩
  · cases he; exact .inl rfl
  · exact .inr ⟨b, o, k1, by cases t <;> first | exact absurd rfl h | exact k2 | exact k2.1, he.rows k3⟩
theorem WkE.refl : ∀ (es : List (List AV)), WkE es es
  | [] => .nil
  | e :: es => .cons (WkL.refl e) (WkE.refl es)
theorem WkE.append {a b c d : List (List AV)} (h : WkE a b) (k : WkE c d) : WkE (a ++ c) (b ++ d) := by
  induction h with
  | nil => exact k
  | cons h _ ih => exact .cons h ih
end Go.Proofs.Ytgfnmhfdmmnaoaa.Eng
namespace Go.Proofs.Ytgfnmhfdmmnaoaa.Eng
open Go Go.RowKit
attribute [local simp] big size_mk ASt.pay Option.map_map Function.comp_def awant aop acall ado aev ofVal ofVal0 ASt.put ASt.add ASt.turn ASt.kill abox aalloc astore aload aloadD astoreD idOf ASt.at cellsTo afieldAddr afield aindexAddr aindex alen abin aint acmp astr aun apick aextract anil aslice abound abuild afill abuildSlice asCells aps avCells over upd aappend asrc amax amin aconv mkSt slots rowsOf_cons rowsOf_nil usedOf_cons usedOf_nil ZK.av List.replicate ASt.back ASt.addL ASt.killL nodeA nodeT nodeTL_eq nodeL_eq strsE_get strsE_len intsE_get intsE_len strsE_at intsE_at tab2 tab3 tab4 tab5 tab6 tab7 tab8 tab9 tab10 tab11 tab12 tab13 tab14 tab15 tab16 tab17 tab18 tab19 tab21 tab22 tab23 tab24 tab25 tab26 tab27 tab28 tab29 tab30 tab39 tab40 tab41 tab42 tab43 tab47 tab48 tab55 tab56 tab57 tab60 tab61 tab62 tab73 tab74 tab75 tab85 tab92 tab115 tab116 tab143 tab144 tab145 tab154 tab155 tab170 tab175 tab182 tab197 tab198 tab203 tab204 tab205 tab207 tab208 tab209
theorem repL2_inv {w : World} {ρ : Cx} {a b : AV} {vs : List Value} (h : RepL w ρ [a, b] vs) : ∃ v0 v1, vs = [v0, v1] ∧ Rep w ρ a v0 ∧ Rep w ρ b v1 := by
  unfold RepL at h; obtain ⟨v0, vs, rfl, h0, h⟩ := h
  unfold RepL at h; obtain ⟨v1, vs, rfl, h1, h⟩ := h
  unfold RepL at h; subst h
  exact ⟨_, _, rfl, h0, h1⟩
theorem repL1_inv {w : World} {ρ : Cx} {a : AV} {vs : List Value} (h : RepL w ρ [a] vs) : ∃ v0, vs = [v0] ∧ Rep w ρ a v0 := by
  unfold RepL at h; obtain ⟨v0, vs, rfl, h0, h⟩ := h
  unfold RepL at h; subst h
  exact ⟨_, rfl, h0⟩
theorem repL2 {w : World} {ρ : Cx} {a b : AV} {v0 v1 : Value} (h0 : Rep w ρ a v0) (h1 : Rep w ρ b v1) : RepL w ρ [a, b] [v0, v1] := by
  unfold RepL; refine ⟨_, _, rfl, h0, ?_⟩
  unfold RepL; refine ⟨_, _, rfl, h1, ?_⟩
  unfold RepL; rfl
theorem AC.ofNew {P : Program} {f : FuncId} {args : List AV} {Post : AV → Prop} (he : Enters P f)
    (h : ∀ w L S rb vs, RepL w (pureC L S rb) args vs → Calls P f vs.toArray w fun e w' => ∃ v r, e = .returned v ∧ Grow w w' ∧ Rep w' (pureC nil (fun b => w.heap.size ≤ b ∧ b < w'.heap.size) none) r v ∧ Post r) : AC P f args 0 Post := by
  refine ⟨he, fun w L S rb k vs _ hS hr hargs => (h w L S rb vs hargs).mono ?_⟩
  rintro e w' ⟨v, r, rfl, hg, h1, h2⟩
  refine ⟨v, r, fun b => S b ∨ (w.heap.size ≤ b ∧ b < w'.heap.size), rfl, hg.mono (fun _ h => h.elim), fun _ h => .inl h, fun _ h => h, fun b hb => ((hr b hb).2.moved hg (fun h => h) (fun b hb => ⟨.inl hb, fun h => h⟩)).less (by omega), ?_, h2⟩
  exact Rep.le (ρ := pureC nil (fun b => w.heap.size ≤ b ∧ b < w'.heap.size) none) (ρ' := pureC nil (fun b => S b ∨ (w.heap.size ≤ b ∧ b < w'.heap.size)) none) ⟨fun b hb => ⟨.inr hb, fun _ => rfl⟩, fun b hb => False.elim hb, fun id hid => False.elim hid, fun _ h => by cases h⟩ h1
theorem ValidNode_AC (n : Nd) (t : VC) : AC Try.prog 17 [nodeT t n] 0 (fun r => r = .bool (validB n)) := by
  refine AC.ofGrow (enters_of Try.func17 (by kernel_rfl) (by kernel_rfl)) (fun w L S rb vs h => ?_)
  obtain ⟨v, rfl, h1⟩ := repL1_inv h
  refine (ValidNode_ok n v w (node_of_rep h1)).mono ?_
  rintro e w' ⟨rfl, hg⟩
  exact ⟨_, _, rfl, hg, rep_bool.2 rfl, rfl⟩
theorem free_fresh {B : Nat} {w : World} {fp : List Nat} (h : Free B w fp) : ∀ b ∈ fp, B ≤ b ∧ b < w.heap.size := fun b hb => ⟨(h.2 b hb).1, (h.2 b hb).2.1⟩
theorem tup2_rep {w : World} {ρ : Cx} {a b : AV} {v u : Value} (h0 : Rep w ρ a v) (h1 : Rep w ρ b u) : Rep w ρ (.tup [a, b]) (.tuple #[v, u]) := rep_tup.2 ⟨[v, u], rfl, repL2 h0 h1⟩
theorem shapeL_mem : ∀ {l : List Nd} {d : Nat}, shapeL l d = true → ∀ k ∈ l, shapeB k d = true
  | [], _, _, k, hk => by cases hk
  | x :: l, d, h, k, hk => by
    simp only [shapeL, Bool.and_eq_true] at h
    rcases List.mem_cons.1 hk with rfl | hk
    · exact h.1
    · exact shapeL_mem h.2 k hk
theorem eqs_iff {a b : ByteArray} : eqs a b = true ↔ a = b := by
  rw [eqs_def, beq_iff_eq]
  exact ⟨toList_inj, fun h => by rw [h]⟩
theorem tup2_pur {a b : AV} (h : Pur a) (k : Pur b) : Pur (.tup [a, b]) := pur_tup (by
  simp only [List.forall_mem_cons, List.not_mem_nil, false_implies, implies_true, and_true]
  exact ⟨h, k⟩)
theorem bytes_clo {t : VC} (zs : List Int) : Clo (.view t 1 (bytesE zs)) := clo_view (by
  intro e he c hc
  obtain ⟨z, _, rfl⟩ := List.mem_map.1 he
  rw [List.mem_singleton.1 hc]; exact clo_int)
end Go.Proofs.Ytgfnmhfdmmnaoaa.Eng
namespace Go.Proofs.Ytgfnmhfdmmnaoaa.Eng
open Go Go.RowKit
end Go.Proofs.Ytgfnmhfdmmnaoaa.Eng
namespace Go.Proofs.Ytgfnmhfdmmnaoaa.Eng
open Go Go.RowKit
attribute [local simp] big size_mk ASt.pay Option.map_map Function.comp_def awant aop acall ado aev ofVal ofVal0 ASt.put ASt.add ASt.turn ASt.kill abox aalloc astore aload aloadD astoreD idOf ASt.at cellsTo afieldAddr afield aindexAddr aindex alen abin aint acmp astr aun apick aextract anil aslice abound abuild afill abuildSlice asCells aps avCells over upd aappend asrc amax amin aconv mkSt slots rowsOf_cons rowsOf_nil usedOf_cons usedOf_nil ZK.av List.replicate ASt.back ASt.addL ASt.killL nodeA nodeT nodeTL_eq nodeL_eq strsE_get strsE_len intsE_get intsE_len strsE_at intsE_at tab2 tab3 tab4 tab5 tab6 tab7 tab8 tab9 tab10 tab11 tab12 tab13 tab14 tab15 tab16 tab17 tab18 tab19 tab21 tab22 tab23 tab24 tab25 tab26 tab27 tab28 tab29 tab30 tab39 tab40 tab41 tab42 tab43 tab47 tab48 tab55 tab56 tab57 tab60 tab61 tab62 tab73 tab74 tab75 tab85 tab92 tab115 tab116 tab143 tab144 tab145 tab154 tab155 tab170 tab175 tab182 tab197 tab198 tab203 tab204 tab205 tab207 tab208 tab209
def zeroN : List AV := [.int .i64 0, .int .i64 0, .str ⟨#[]⟩, .view .tight 0 [], .view .tight 0 []]
def part (ks : List Nd) (i : Nat) : List (List AV) := (ks.take i).map nodeL ++ List.replicate (ks.length - i) zeroN
end Go.Proofs.Ytgfnmhfdmmnaoaa.Eng
namespace Go.Proofs.Ytgfnmhfdmmnaoaa.Eng
open Go Go.RowKit
section
variable {P : Program} {T : Tab} {w0 : W0} {S0 : Nat → Prop} {rd0 : Option Nat} {k0 : Nat} {w : World} {a : Act} {s : ASt} {ρ : Cx}
end
section
variable {P : Program} {T : Tab} {k0 : Nat} {md : List Nat} {Av : Nat → Prop} {ops : Array Oper} {K : ASt → Prop} {o : Oper} {l : List Oper} {s : ASt}
end
end Go.Proofs.Ytgfnmhfdmmnaoaa.Eng
namespace Go.Proofs.Ytgfnmhfdmmnaoaa.Eng
open Go Go.RowKit
attribute [local simp] big size_mk ASt.pay Option.map_map Function.comp_def awant aop acall ado aev ofVal ofVal0 ASt.put ASt.add ASt.turn ASt.kill abox aalloc astore aload aloadD astoreD idOf ASt.at cellsTo afieldAddr afield aindexAddr aindex alen abin aint acmp astr aun apick aextract anil aslice abound abuild afill abuildSlice asCells aps avCells over upd aappend asrc amax amin aconv mkSt slots rowsOf_cons rowsOf_nil usedOf_cons usedOf_nil ZK.av List.replicate ASt.back ASt.addL ASt.killL nodeA nodeT nodeTL_eq nodeL_eq strsE_get strsE_len intsE_get intsE_len strsE_at intsE_at tab2 tab3 tab4 tab5 tab6 tab7 tab8 tab9 tab10 tab11 tab12 tab13 tab14 tab15 tab16 tab17 tab18 tab19 tab21 tab22 tab23 tab24 tab25 tab26 tab27 tab28 tab29 tab30 tab39 tab40 tab41 tab42 tab43 tab47 tab48 tab55 tab56 tab57 tab60 tab61 tab62 tab73 tab74 tab75 tab85 tab92 tab115 tab116 tab143 tab144 tab145 tab154 tab155 tab170 tab175 tab182 tab197 tab198 tab203 tab204 tab205 tab207 tab208 tab209
theorem AC.args {P : Program} {f : FuncId} {args args' : List AV} {c : Nat} {Post : AV → Prop} (h : AC P f args c Post) (hw : ∀ w ρ vs, RepL w ρ args' vs → RepL w ρ args vs) : AC P f args' c Post :=
  ⟨h.1, fun w L S rb k vs h0 h1 h2 h3 => h.2 w L S rb k vs h0 h1 h2 (hw w _ vs h3)⟩
theorem ACR.args {P : Program} {f : FuncId} {args args' : List AV} {c : Nat} {Post0 : AV → Prop} {Post : (Nat → AV) → Row → Prop} (h : ACR P f args c Post0 Post) (hw : ∀ w ρ vs, RepL w ρ args' vs → RepL w ρ args vs) : ACR P f args' c Post0 Post :=
  ⟨h.1, fun w L S rb k vs h0 h1 h2 h3 => h.2 w L S rb k vs h0 h1 h2 (hw w _ vs h3)⟩
theorem Less.hold {s : ASt} (id : Nat) : Less s (s.hold id) := fun _ _ _ _ _ _ _ _ hs => by
  obtain ⟨ρ', h, _⟩ := SR.held hs id
  exact ⟨ρ', h⟩
end Go.Proofs.Ytgfnmhfdmmnaoaa.Eng
namespace Go.Proofs.Ytgfnmhfdmmnaoaa.Eng
open Go Go.RowKit
end Go.Proofs.Ytgfnmhfdmmnaoaa.Eng
namespace Go.Proofs.Ytgfnmhfdmmnaoaa
open Go.RowKit
end Go.Proofs.Ytgfnmhfdmmnaoaa
namespace Go.Proofs.Ytgfnmhfdmmnaoaa.Eng
open Go Go.RowKit
theorem placeF_cases (n : Nd) (st : ByteArray) : ∀ f k, (placeF n st f k = -1 ∧ ∀ j, k ≤ j → j < k + f → hitP n st j = false) ∨ (∃ j, k ≤ j ∧ j < k + f ∧ placeF n st f k = (j : Int) ∧ hitP n st j = true)
  | 0, k => .inl ⟨rfl, fun j h1 h2 => by omega⟩
  | f + 1, k => by
    rw [placeF]
    cases hb : hitP n st k
    · rcases placeF_cases n st f (k + 1) with ⟨h1, h2⟩ | ⟨j, h1, h2, h3, h4⟩
      · refine .inl ⟨by simpa using h1, fun j h3 h4 => ?_⟩
        rcases Nat.eq_or_lt_of_le h3 with rfl | h5
        · exact hb
        · exact h2 j (by omega) (by omega)
      · exact .inr ⟨j, by omega, by omega, by simpa using h3, h4⟩
    · exact .inr ⟨k, Nat.le_refl _, by omega, by simp, hb⟩
theorem placeI_cases (n : Nd) (st : ByteArray) : (placeI n st = -1 ∧ ∀ j, j < n.kids.length → hitP n st j = false) ∨ (∃ j, j < n.kids.length ∧ placeI n st = (j : Int) ∧ hitP n st j = true) := by
  rcases placeF_cases n st n.kids.length 0 with ⟨h1, h2⟩ | ⟨j, h1, h2, h3, h4⟩
  · exact .inl ⟨h1, fun j hj => h2 j (Nat.zero_le _) (by omega)⟩
  · exact .inr ⟨j, by omega, h3, h4⟩
def Shp (n : Nd) : Prop := ∃ d, shapeB n d = true
theorem Shp.kid {n : Nd} (h : Shp n) {k : Nd} (hk : k ∈ n.kids) : Shp k := by
  obtain ⟨d, h⟩ := h
  rw [shapeB_eq] at h
  simp only [Bool.and_eq_true] at h
  exact ⟨d - 1, shapeL_mem h.2 k hk⟩
theorem Shp.parts {n : Nd} (h : Shp n) : partsB n = true := by
  obtain ⟨d, h⟩ := h
  rw [shapeB_eq] at h
  simp only [Bool.and_eq_true] at h
  exact h.1.2
theorem Shp.kids {n : Nd} (h : Shp n) : n.kids.length ≤ 6 := partsB_kids h.parts
theorem Shp.map {n : Nd} (h : Shp n) (h4 : n.kind = 4) : areNamesB n.names = true ∧ n.kids.length = n.names.length := by
  have hp := h.parts
  unfold partsB at hp
  simp only [Bool.and_eq_true] at hp
  have hp := hp.2
  rw [h4] at hp
  simp at hp
  exact hp
theorem Shp.asc {n : Nd} (h : Shp n) (h4 : n.kind = 4) : Asc n.names := by
  have := (h.map h4).1
  simp only [areNamesB, Bool.and_eq_true] at this
  exact namesB_asc this.2
theorem Shp.of {n : Nd} (h : validB n = true) : Shp n := by
  unfold validB at h
  rw [Bool.and_eq_true] at h
  exact ⟨5, h.1⟩
theorem lb_at {xs : List ByteArray} (ha : Asc xs) {j : Nat} (hj : j < xs.length) : lbound xs xs[j] = j :=
  lb_of (Nat.le_of_lt hj) (fun t ht htj => ha t j ht hj htj) (fun t ht hjt => by
    rcases Nat.eq_or_lt_of_le hjt with rfl | h
    · exact lt_irr _
    · exact bl_asymm _ _ (ha j t hj ht h))
theorem hit_map {n : Nd} {st : ByteArray} (h4 : n.kind = 4) {j : Nat} (hj : j < n.names.length) : hitP n st j = eqs n.names[j] st := by
  simp [hitP, h4, List.getElem?_eq_getElem hj]
theorem place_map {n : Nd} (h : Shp n) (h4 : n.kind = 4) (st : ByteArray) : placeI n st = if mem n.names st then (lbound n.names st : Int) else -1 := by
  have hl := (h.map h4).2
  have ha := h.asc h4
  rcases placeI_cases n st with ⟨h1, h2⟩ | ⟨j, h1, h2, h3⟩
  · have : mem n.names st = false := mem_no (fun hm => by
      obtain ⟨i, hi, rfl⟩ := List.getElem_of_mem hm
      have := h2 i (by omega)
      rw [hit_map h4 hi, eqs_iff.2 rfl] at this
      cases this)
    rw [this, h1]; rfl
  · have hj : j < n.names.length := by omega
    rw [hit_map h4 hj, eqs_iff] at h3
    subst h3
    rw [lb_at ha hj, mem_iff.2 (List.getElem_mem hj), h2]; rfl
end Go.Proofs.Ytgfnmhfdmmnaoaa.Eng
namespace Go.Proofs.Ytgfnmhfdmmnaoaa.Eng
open Go Go.RowKit
attribute [local simp] big size_mk ASt.pay Option.map_map Function.comp_def awant aop acall ado aev ofVal ofVal0 ASt.put ASt.add ASt.turn ASt.kill abox aalloc astore aload aloadD astoreD idOf ASt.at cellsTo afieldAddr afield aindexAddr aindex alen abin aint acmp astr aun apick aextract anil aslice abound abuild afill abuildSlice asCells aps avCells over upd aappend asrc amax amin aconv mkSt slots rowsOf_cons rowsOf_nil usedOf_cons usedOf_nil ZK.av List.replicate ASt.back ASt.addL ASt.killL nodeA nodeT nodeTL_eq nodeL_eq strsE_get strsE_len intsE_get intsE_len strsE_at intsE_at tab2 tab3 tab4 tab5 tab6 tab7 tab8 tab9 tab10 tab11 tab12 tab13 tab14 tab15 tab16 tab17 tab18 tab19 tab21 tab22 tab23 tab24 tab25 tab26 tab27 tab28 tab29 tab30 tab39 tab40 tab41 tab42 tab43 tab47 tab48 tab55 tab56 tab57 tab60 tab61 tab62 tab73 tab74 tab75 tab85 tab92 tab115 tab116 tab143 tab144 tab145 tab154 tab155 tab170 tab175 tab182 tab197 tab198 tab203 tab204 tab205 tab207 tab208 tab209
end Go.Proofs.Ytgfnmhfdmmnaoaa.Eng
namespace Go.Proofs.Ytgfnmhfdmmnaoaa.Eng
open Go Go.RowKit
end Go.Proofs.Ytgfnmhfdmmnaoaa.Eng
-- EV: rows
namespace Go.Proofs.Ytgfnmhfdmmnaoaa.Eng
open Go Go.RowKit
attribute [local simp] big size_mk ASt.pay Option.map_map Function.comp_def awant aop acall ado aev ofVal ofVal0 ASt.put ASt.add ASt.turn ASt.kill abox aalloc astore aload aloadD astoreD idOf ASt.at cellsTo afieldAddr afield aindexAddr aindex alen abin aint acmp astr aun apick aextract anil aslice abound abuild afill abuildSlice asCells aps avCells over upd aappend asrc amax amin aconv mkSt slots rowsOf_cons rowsOf_nil usedOf_cons usedOf_nil ZK.av List.replicate ASt.back ASt.addL ASt.killL nodeA nodeT nodeTL_eq nodeL_eq strsE_get strsE_len intsE_get intsE_len strsE_at intsE_at nodeN namesRow nodeO kidsRow tab2 tab3 tab4 tab5 tab6 tab7 tab8 tab9 tab10 tab11 tab12 tab13 tab14 tab15 tab16 tab17 tab18 tab19 tab21 tab22 tab23 tab24 tab25 tab26 tab27 tab28 tab29 tab30 tab39 tab40 tab41 tab42 tab43 tab47 tab48 tab55 tab56 tab57 tab60 tab61 tab62 tab73 tab74 tab75 tab85 tab92 tab115 tab116 tab143 tab144 tab145 tab154 tab155 tab170 tab175 tab182 tab197 tab198 tab203 tab204 tab205 tab207 tab208 tab209
end Go.Proofs.Ytgfnmhfdmmnaoaa.Eng
-- EV: rows
namespace Go.Proofs.Ytgfnmhfdmmnaoaa.Eng
open Go Go.RowKit
attribute [local simp] big size_mk ASt.pay Option.map_map Function.comp_def awant aop acall ado aev ofVal ofVal0 ASt.put ASt.add ASt.turn ASt.kill abox aalloc astore aload aloadD astoreD idOf ASt.at cellsTo afieldAddr afield aindexAddr aindex alen abin aint acmp astr aun apick aextract anil aslice abound abuild afill abuildSlice asCells aps avCells over upd aappend asrc amax amin aconv mkSt slots rowsOf_cons rowsOf_nil usedOf_cons usedOf_nil ZK.av List.replicate ASt.back ASt.addL ASt.killL nodeA nodeT nodeTL_eq nodeL_eq strsE_get strsE_len intsE_get intsE_len strsE_at intsE_at nodeN namesRow nodeO kidsRow tab2 tab3 tab4 tab5 tab6 tab7 tab8 tab9 tab10 tab11 tab12 tab13 tab14 tab15 tab16 tab17 tab18 tab19 tab21 tab22 tab23 tab24 tab25 tab26 tab27 tab28 tab29 tab30 tab39 tab40 tab41 tab42 tab43 tab47 tab48 tab55 tab56 tab57 tab60 tab61 tab62 tab73 tab74 tab75 tab85 tab92 tab115 tab116 tab143 tab144 tab145 tab154 tab155 tab170 tab175 tab182 tab197 tab198 tab203 tab204 tab205 tab207 tab208 tab209
end Go.Proofs.Ytgfnmhfdmmnaoaa.Eng
-- EV: rows skip
namespace Go.Proofs.Ytgfnmhfdmmnaoaa.Eng
open Go Go.RowKit
attribute [local simp] big size_mk ASt.pay Option.map_map Function.comp_def awant aop acall ado aev ofVal ofVal0 ASt.put ASt.add ASt.turn ASt.kill abox aalloc astore aload aloadD astoreD idOf ASt.at cellsTo afieldAddr afield aindexAddr aindex alen abin aint acmp astr aun apick aextract anil aslice abound abuild afill abuildSlice asCells aps avCells over upd aappend asrc amax amin aconv mkSt slots rowsOf_cons rowsOf_nil usedOf_cons usedOf_nil ZK.av List.replicate ASt.back ASt.addL ASt.killL nodeA nodeT nodeTL_eq nodeL_eq strsE_get strsE_len intsE_get intsE_len strsE_at intsE_at nodeN namesRow nodeO kidsRow tab2 tab3 tab4 tab5 tab6 tab7 tab8 tab9 tab10 tab11 tab12 tab13 tab14 tab15 tab16 tab17 tab18 tab19 tab21 tab22 tab23 tab24 tab25 tab26 tab27 tab28 tab29 tab30 tab39 tab40 tab41 tab42 tab43 tab47 tab48 tab55 tab56 tab57 tab60 tab61 tab62 tab73 tab74 tab75 tab85 tab92 tab115 tab116 tab143 tab144 tab145 tab154 tab155 tab170 tab175 tab182 tab197 tab198 tab203 tab204 tab205 tab207 tab208 tab209
end Go.Proofs.Ytgfnmhfdmmnaoaa.Eng
-- EV: rows
namespace Go.Proofs.Ytgfnmhfdmmnaoaa.Eng
open Go Go.RowKit
attribute [local simp] big size_mk ASt.pay Option.map_map Function.comp_def awant aop acall ado aev ofVal ofVal0 ASt.put ASt.add ASt.turn ASt.kill abox aalloc astore aload aloadD astoreD idOf ASt.at cellsTo afieldAddr afield aindexAddr aindex alen abin aint acmp astr aun apick aextract anil aslice abound abuild afill abuildSlice asCells aps avCells over upd aappend asrc amax amin aconv mkSt slots rowsOf_cons rowsOf_nil usedOf_cons usedOf_nil ZK.av List.replicate ASt.back ASt.addL ASt.killL nodeA nodeT nodeTL_eq nodeL_eq strsE_get strsE_len intsE_get intsE_len strsE_at intsE_at nodeN namesRow nodeO kidsRow tab2 tab3 tab4 tab5 tab6 tab7 tab8 tab9 tab10 tab11 tab12 tab13 tab14 tab15 tab16 tab17 tab18 tab19 tab21 tab22 tab23 tab24 tab25 tab26 tab27 tab28 tab29 tab30 tab39 tab40 tab41 tab42 tab43 tab47 tab48 tab55 tab56 tab57 tab60 tab61 tab62 tab73 tab74 tab75 tab85 tab92 tab115 tab116 tab143 tab144 tab145 tab154 tab155 tab170 tab175 tab182 tab197 tab198 tab203 tab204 tab205 tab207 tab208 tab209
end Go.Proofs.Ytgfnmhfdmmnaoaa.Eng
-- EV: rows skip
namespace Go.Proofs.Ytgfnmhfdmmnaoaa.Eng
open Go Go.RowKit
attribute [local simp] big size_mk ASt.pay Option.map_map Function.comp_def awant aop acall ado aev ofVal ofVal0 ASt.put ASt.add ASt.turn ASt.kill abox aalloc astore aload aloadD astoreD idOf ASt.at cellsTo afieldAddr afield aindexAddr aindex alen abin aint acmp astr aun apick aextract anil aslice abound abuild afill abuildSlice asCells aps avCells over upd aappend asrc amax amin aconv mkSt slots rowsOf_cons rowsOf_nil usedOf_cons usedOf_nil ZK.av List.replicate ASt.back ASt.addL ASt.killL nodeA nodeT nodeTL_eq nodeL_eq strsE_get strsE_len intsE_get intsE_len strsE_at intsE_at nodeN namesRow nodeO kidsRow tab2 tab3 tab4 tab5 tab6 tab7 tab8 tab9 tab10 tab11 tab12 tab13 tab14 tab15 tab16 tab17 tab18 tab19 tab21 tab22 tab23 tab24 tab25 tab26 tab27 tab28 tab29 tab30 tab39 tab40 tab41 tab42 tab43 tab47 tab48 tab55 tab56 tab57 tab60 tab61 tab62 tab73 tab74 tab75 tab85 tab92 tab115 tab116 tab143 tab144 tab145 tab154 tab155 tab170 tab175 tab182 tab197 tab198 tab203 tab204 tab205 tab207 tab208 tab209
theorem AC.toR {P : Program} {f : FuncId} {args : List AV} {c : Nat} {Q : AV → Prop} (h : AC P f args c Q) : ACR P f args c Q (fun _ _ => False) :=
  ⟨h.1, fun w L S rb k vs h0 h1 h2 h3 => (h.2 w L S rb k vs h0 h1 h2 h3).mono fun _ _ ⟨v, r, S', k1, k2, k3, k4, k5, k6, k7⟩ => ⟨v, S', k1, k2, k3, k4, k5, .inl ⟨r, k6, k7⟩⟩⟩
end Go.Proofs.Ytgfnmhfdmmnaoaa.Eng
-- EV: rows skip
namespace Go.Proofs.Ytgfnmhfdmmnaoaa.Eng
open Go Go.RowKit
attribute [local simp] big size_mk ASt.pay Option.map_map Function.comp_def awant aop acall ado aev ofVal ofVal0 ASt.put ASt.add ASt.turn ASt.kill abox aalloc astore aload aloadD astoreD idOf ASt.at cellsTo afieldAddr afield aindexAddr aindex alen abin aint acmp astr aun apick aextract anil aslice abound abuild afill abuildSlice asCells aps avCells over upd aappend asrc amax amin aconv mkSt slots rowsOf_cons rowsOf_nil usedOf_cons usedOf_nil ZK.av List.replicate ASt.back ASt.addL ASt.killL nodeA nodeT nodeTL_eq nodeL_eq strsE_get strsE_len intsE_get intsE_len strsE_at intsE_at nodeN namesRow nodeO kidsRow tab2 tab3 tab4 tab5 tab6 tab7 tab8 tab9 tab10 tab11 tab12 tab13 tab14 tab15 tab16 tab17 tab18 tab19 tab21 tab22 tab23 tab24 tab25 tab26 tab27 tab28 tab29 tab30 tab39 tab40 tab41 tab42 tab43 tab47 tab48 tab55 tab56 tab57 tab60 tab61 tab62 tab73 tab74 tab75 tab85 tab92 tab115 tab116 tab143 tab144 tab145 tab154 tab155 tab170 tab175 tab182 tab197 tab198 tab203 tab204 tab205 tab207 tab208 tab209
end Go.Proofs.Ytgfnmhfdmmnaoaa.Eng
namespace Go.Proofs.Ytgfnmhfdmmnaoaa
open Go Go.RowKit
structure Shp where
  kind : Int
  names : List ByteArray
  needs : List Bool
  kids : List Shp
theorem Shp.ind' (P : Shp → Prop) (h : ∀ n : Shp, (∀ k ∈ n.kids, P k) → P n) : ∀ n, P n := by
  intro n
  refine Shp.rec (motive_1 := P) (motive_2 := fun l => ∀ k ∈ l, P k) ?_ ?_ ?_ n
  · intro kind names needs kids ih
    exact h ⟨kind, names, needs, kids⟩ ih
  · intro k hk; cases hk
  · intro k ks h1 h2 x hx
    rcases List.mem_cons.1 hx with rfl | hx
    · exact h1
    · exact h2 _ hx
def BoolsR (w : World) (S : Nat → Prop) (a : Option Addr) (c : Nat) (xs : List Bool) : Prop :=
  xs.length ≤ c ∧ xs.length ≤ big ∧ (xs = [] ∨ ∃ b o, a = some ⟨b, o, none⟩ ∧ S b ∧ ∀ i (h : i < xs.length), w.cell? ⟨b, o + i, none⟩ = some (.bool xs[i]))
mutual
def ShapeC (w : World) (S : Nat → Prop) : Shp → Option Addr → Nat → Option Addr → Nat → Option Addr → Nat → Prop
  | ⟨_, names, needs, kids⟩, na, nc, ba, bc, ka, kc => StrsR w S na nc names ∧ BoolsR w S ba bc needs ∧ kids.length ≤ kc ∧ kids.length ≤ big ∧ (kids = [] ∨ ∃ b o, ka = some ⟨b, o, none⟩ ∧ S b ∧ ShpsR w S b o kids)
def ShpsR (w : World) (S : Nat → Prop) (b : Nat) : Nat → List Shp → Prop
  | _, [] => True
  | o, k :: ks => (∃ na nc ba bc ka kc, w.cell? ⟨b, o, none⟩ = some (.int .i64 k.kind) ∧ w.cell? ⟨b, o + 1, none⟩ = some (.slice na k.names.length nc) ∧
      w.cell? ⟨b, o + 2, none⟩ = some (.slice ba k.needs.length bc) ∧ w.cell? ⟨b, o + 3, none⟩ = some (.slice ka k.kids.length kc) ∧ ShapeC w S k na nc ba bc ka kc) ∧ ShpsR w S b (o + 4) ks
end
def shapeV (n : Shp) (na : Option Addr) (nc : Nat) (ba : Option Addr) (bc : Nat) (ka : Option Addr) (kc : Nat) : Value :=
  .agg #[.int .i64 n.kind, .slice na n.names.length nc, .slice ba n.needs.length bc, .slice ka n.kids.length kc]
def ShapeR (w : World) (S : Nat → Prop) (n : Shp) (v : Value) : Prop := ∃ na nc ba bc ka kc, v = shapeV n na nc ba bc ka kc ∧ ShapeC w S n na nc ba bc ka kc
theorem BoolsR.ext {X S : Nat → Prop} {w w' : World} (h : Ext X w w') (hS : ∀ k, S k → ¬ X k) {a : Option Addr} {c : Nat} {xs : List Bool} (hs : BoolsR w S a c xs) : BoolsR w' S a c xs := by
  obtain ⟨h1, h2, h4⟩ := hs
  refine ⟨h1, h2, h4.imp id ?_⟩
  rintro ⟨b, o, rfl, hb, hc⟩
  exact ⟨b, o, rfl, hb, fun i hi => h.some (hc i hi) (hS b hb)⟩
theorem ShapeC.parts {w : World} {S : Nat → Prop} {n : Shp} {na : Option Addr} {nc : Nat} {ba : Option Addr} {bc : Nat} {ka : Option Addr} {kc : Nat} (h : ShapeC w S n na nc ba bc ka kc) :
    StrsR w S na nc n.names ∧ BoolsR w S ba bc n.needs ∧ n.kids.length ≤ kc ∧ n.kids.length ≤ big ∧ (n.kids = [] ∨ ∃ b o, ka = some ⟨b, o, none⟩ ∧ S b ∧ ShpsR w S b o n.kids) := by
  cases n; unfold ShapeC at h; exact h
mutual
theorem ShapeC.ext {X S : Nat → Prop} {w w' : World} (h : Ext X w w') (hS : ∀ k, S k → ¬ X k) : ∀ {n : Shp} {na : Option Addr} {nc : Nat} {ba : Option Addr} {bc : Nat} {ka : Option Addr} {kc : Nat}, ShapeC w S n na nc ba bc ka kc → ShapeC w' S n na nc ba bc ka kc
  | ⟨_, _, _, kids⟩, na, nc, ba, bc, ka, kc, hn => by
    unfold ShapeC at hn ⊢
    obtain ⟨h1, h2, h3, h4, h5⟩ := hn
    refine ⟨h1.ext h hS, h2.ext h hS, h3, h4, h5.imp id ?_⟩
    rintro ⟨b, o, e, hb, hk⟩
    exact ⟨b, o, e, hb, ShpsR.ext h hS (hS b hb) hk⟩
theorem ShpsR.ext {X S : Nat → Prop} {w w' : World} (h : Ext X w w') (hS : ∀ k, S k → ¬ X k) {b : Nat} (hb : ¬ X b) : ∀ {l : List Shp} {o : Nat}, ShpsR w S b o l → ShpsR w' S b o l
  | [], _, _ => by unfold ShpsR; trivial
  | k :: ks, o, hk => by
    unfold ShpsR at hk ⊢
    obtain ⟨⟨na, nc, ba, bc, ka, kc, c0, c1, c2, c3, hn⟩, hr⟩ := hk
    exact ⟨⟨na, nc, ba, bc, ka, kc, h.some c0 hb, h.some c1 hb, h.some c2 hb, h.some c3 hb, ShapeC.ext h hS hn⟩, ShpsR.ext h hS hb hr⟩
end
theorem ShpsR.get {w : World} {S : Nat → Prop} {b : Nat} : ∀ {l : List Shp} {o : Nat}, ShpsR w S b o l → ∀ i (h : i < l.length), ∃ na nc ba bc ka kc,
    w.cell? ⟨b, o + i * 4, none⟩ = some (.int .i64 l[i].kind) ∧ w.cell? ⟨b, o + i * 4 + 1, none⟩ = some (.slice na l[i].names.length nc) ∧
      w.cell? ⟨b, o + i * 4 + 2, none⟩ = some (.slice ba l[i].needs.length bc) ∧ w.cell? ⟨b, o + i * 4 + 3, none⟩ = some (.slice ka l[i].kids.length kc) ∧ ShapeC w S l[i] na nc ba bc ka kc
  | [], _, _, i, h => absurd h (by simp)
  | k :: ks, o, hk, 0, _ => by
    unfold ShpsR at hk
    simpa using hk.1
  | k :: ks, o, hk, i + 1, h => by
    unfold ShpsR at hk
    have := ShpsR.get hk.2 i (by simpa using h)
    simp only [List.getElem_cons_succ]
    have e : o + (i + 1) * 4 = o + 4 + i * 4 := by omega
    rw [e]
    exact this
theorem ShapeR.ext {X S : Nat → Prop} {w w' : World} (h : Ext X w w') (hS : ∀ k, S k → ¬ X k) {n : Shp} {v : Value} (hn : ShapeR w S n v) : ShapeR w' S n v := by
  obtain ⟨na, nc, ba, bc, ka, kc, hv, hc⟩ := hn
  exact ⟨na, nc, ba, bc, ka, kc, hv, hc.ext h hS⟩
theorem ShapeR.grow {S : Nat → Prop} {w w' : World} {n : Shp} {v : Value} (hn : ShapeR w S n v) (h : Grow w w') : ShapeR w' S n v := hn.ext h (fun _ _ h => h)
end Go.Proofs.Ytgfnmhfdmmnaoaa
namespace Go.Proofs.Ytgfnmhfdmmnaoaa
open Go.RowKit
def shapeL' (n : Shp) (na : Option Addr) (nc : Nat) (ba : Option Addr) (bc : Nat) (ka : Option Addr) (kc : Nat) : List Value :=
  [.int .i64 n.kind, .slice na n.names.length nc, .slice ba n.needs.length bc, .slice ka n.kids.length kc]
def shpHead (x : Shp) : Bool :=
  inR x.kind 0 4 && areNamesB x.names && !(decide (0 < x.names.length) && decide (x.kind ≠ 4)) && decide (x.needs.length = x.names.length) && decide (x.kids.length = x.names.length)
mutual
def shpB : Shp → Nat → Bool
  | ⟨kind, names, needs, kids⟩, d => decide (0 < d) && shpHead ⟨kind, names, needs, kids⟩ && shpL kids (d - 1)
def shpL : List Shp → Nat → Bool
  | [], _ => true
  | k :: ks, d => shpB k d && shpL ks d
end
theorem shpB_eq (x : Shp) (d : Nat) : shpB x d = (decide (0 < d) && shpHead x && shpL x.kids (d - 1)) := by cases x; simp [shpB]
theorem shpL_all (l : List Shp) (d : Nat) : shpL l d = l.all fun k => shpB k d := by
  induction l with
  | nil => simp [shpL]
  | cons a l ih => simp [shpL, ih]
end Go.Proofs.Ytgfnmhfdmmnaoaa
namespace Go.Proofs.Ytgfnmhfdmmnaoaa
open Go.RowKit
def IsShpOk (x : Shp) : Prop := ∀ (d : Nat) (v : Value) (w : World), d ≤ 5 → ShapeR w any x v →
    Calls Try.prog 64 #[v, .int .i64 ((6 : Int) - d)] w fun e w' => e = .returned (.bool (shpB x d)) ∧ Grow w w'
theorem isShape_zero (x : Shp) (v : Value) (w : World) (hn : ShapeR w any x v) :
    Calls Try.prog 64 #[v, .int .i64 6] w fun e w' => e = .returned (.bool (shpB x 0)) ∧ Grow w w' := by
  obtain ⟨na, nc, ba, bc, ka, kc, rfl, hc⟩ := hn
  have Hf : Hid (shpB x 0 = false) := Lib.hid (by rw [shpB_eq]; simp)
  clear hc
  unfold shapeV
  go_enter Try.func64, Try.ntmps64
  go_wp2_with fail
  go_ret
  exact ⟨by simp [Hf.out], (by repeat (first | with_reducible exact Ext.refl _ _ | with_reducible refine Ext.trans ?_ (by assumption) | with_reducible refine Ext.drew ?_ | with_reducible refine Ext.drewN ?_ _ | with_reducible refine Ext.alloc ?_ _ | with_reducible refine Ext.setNew ?_ (by simp; done) _ | with_reducible refine Ext.setNew ?_ (by simp; omega) _))⟩
theorem inR_cases' (c : Int) : c < 0 ∨ 4 < c ∨ (0 ≤ c ∧ c ≤ 4 ∧ inR c 0 4 = true) := by
  by_cases h1 : c < 0
  · exact .inl h1
  · by_cases h2 : 4 < c
    · exact .inr (.inl h2)
    · exact .inr (.inr ⟨by omega, by omega, by simp [inR]; omega⟩)
theorem isShape_head (x : Shp) (d : Nat) (hd : d ≤ 5) (h0 : 1 ≤ d) (hf : shpHead x = false) (v : Value) (w : World) (hn : ShapeR w any x v) :
    Calls Try.prog 64 #[v, .int .i64 ((6 : Int) - d)] w fun e w' => e = .returned (.bool (shpB x d)) ∧ Grow w w' := by
  obtain ⟨na, nc, ba, bc, ka, kc, rfl, hc⟩ := hn
  obtain ⟨hns, hnb, hk1, hk2, hk3⟩ := hc.parts
  have hl1 : x.names.length ≤ 9223372036854775807 := hns.2.1
  have hl2 : x.needs.length ≤ 9223372036854775807 := hnb.2.1
  have hl3 : x.kids.length ≤ 9223372036854775807 := hk2
  have Hf : Hid (shpB x d = false) := Lib.hid (by rw [shpB_eq, hf]; simp)
  have Hns := Lib.hid hns
  clear hc hns hnb hk1 hk2 hk3
  unfold shapeV
  unfold shpHead at hf
  rcases inR_cases' x.kind with h1 | h1 | ⟨h1, h1', hi⟩
  · clear hf
    go_enter Try.func64, Try.ntmps64
    go_wp2_with fail
    go_ret
    exact ⟨by simp [Hf.out], (by repeat (first | with_reducible exact Ext.refl _ _ | with_reducible refine Ext.trans ?_ (by assumption) | with_reducible refine Ext.drew ?_ | with_reducible refine Ext.drewN ?_ _ | with_reducible refine Ext.alloc ?_ _ | with_reducible refine Ext.setNew ?_ (by simp; done) _ | with_reducible refine Ext.setNew ?_ (by simp; omega) _))⟩
  · clear hf
    go_enter Try.func64, Try.ntmps64
    go_wp2_with fail
    go_ret
    exact ⟨by simp [Hf.out], (by repeat (first | with_reducible exact Ext.refl _ _ | with_reducible refine Ext.trans ?_ (by assumption) | with_reducible refine Ext.drew ?_ | with_reducible refine Ext.drewN ?_ _ | with_reducible refine Ext.alloc ?_ _ | with_reducible refine Ext.setNew ?_ (by simp; done) _ | with_reducible refine Ext.setNew ?_ (by simp; omega) _))⟩
  cases h2 : areNamesB x.names
  · clear hf hi
    go_enter Try.func64, Try.ntmps64
    go_wp2_with (go_at_call 136; refine (areNames_ok na nc x.names _ any (Hns.out.grow (by repeat (first | with_reducible exact Ext.refl _ _ | with_reducible refine Ext.trans ?_ (by assumption) | with_reducible refine Ext.drew ?_ | with_reducible refine Ext.drewN ?_ _ | with_reducible refine Ext.alloc ?_ _ | with_reducible refine Ext.setNew ?_ (by simp; done) _ | with_reducible refine Ext.setNew ?_ (by simp; omega) _)))).mono ?_; rintro e w2 ⟨rfl, hg2⟩; simp only [h2]; have hcc2 := bcell hg2)
    go_ret
    exact ⟨by simp [Hf.out], (by repeat (first | with_reducible exact Ext.refl _ _ | with_reducible refine Ext.trans ?_ (by assumption) | with_reducible refine Ext.drew ?_ | with_reducible refine Ext.drewN ?_ _ | with_reducible refine Ext.alloc ?_ _ | with_reducible refine Ext.setNew ?_ (by simp; done) _ | with_reducible refine Ext.setNew ?_ (by simp; omega) _))⟩
  by_cases h3 : 0 < x.names.length ∧ ¬ x.kind = 4
  · obtain ⟨h3, h4⟩ := h3
    have hb4 : (x.kind != 4) = true := by simpa using h4
    clear hf hi h4
    go_enter Try.func64, Try.ntmps64
    go_wp2_with (go_at_call 136; refine (areNames_ok na nc x.names _ any (Hns.out.grow (by repeat (first | with_reducible exact Ext.refl _ _ | with_reducible refine Ext.trans ?_ (by assumption) | with_reducible refine Ext.drew ?_ | with_reducible refine Ext.drewN ?_ _ | with_reducible refine Ext.alloc ?_ _ | with_reducible refine Ext.setNew ?_ (by simp; done) _ | with_reducible refine Ext.setNew ?_ (by simp; omega) _)))).mono ?_; rintro e w2 ⟨rfl, hg2⟩; simp only [h2]; have hcc2 := bcell hg2)
    go_ret
    exact ⟨by simp [Hf.out], (by repeat (first | with_reducible exact Ext.refl _ _ | with_reducible refine Ext.trans ?_ (by assumption) | with_reducible refine Ext.drew ?_ | with_reducible refine Ext.drewN ?_ _ | with_reducible refine Ext.alloc ?_ _ | with_reducible refine Ext.setNew ?_ (by simp; done) _ | with_reducible refine Ext.setNew ?_ (by simp; omega) _))⟩
  have Hi := Lib.hid hi
  clear hi
  by_cases h5 : x.needs.length = x.names.length
  rotate_left
  · have hb5 : ((x.needs.length : Int) != (x.names.length : Int)) = true := by rw [ibne]; simp; omega
    clear hf h5
    by_cases hz : x.names.length = 0
    · have hz' : ¬ (0 < (x.names.length : Int)) := by omega
      clear h3 hz
      go_enter Try.func64, Try.ntmps64
      go_wp2_with (go_at_call 136; refine (areNames_ok na nc x.names _ any (Hns.out.grow (by repeat (first | with_reducible exact Ext.refl _ _ | with_reducible refine Ext.trans ?_ (by assumption) | with_reducible refine Ext.drew ?_ | with_reducible refine Ext.drewN ?_ _ | with_reducible refine Ext.alloc ?_ _ | with_reducible refine Ext.setNew ?_ (by simp; done) _ | with_reducible refine Ext.setNew ?_ (by simp; omega) _)))).mono ?_; rintro e w2 ⟨rfl, hg2⟩; simp only [h2]; have hcc2 := bcell hg2)
      go_ret
      exact ⟨by simp [Hf.out], (by repeat (first | with_reducible exact Ext.refl _ _ | with_reducible refine Ext.trans ?_ (by assumption) | with_reducible refine Ext.drew ?_ | with_reducible refine Ext.drewN ?_ _ | with_reducible refine Ext.alloc ?_ _ | with_reducible refine Ext.setNew ?_ (by simp; done) _ | with_reducible refine Ext.setNew ?_ (by simp; omega) _))⟩
    · have hz' : 0 < (x.names.length : Int) := by omega
      have hb4 : (x.kind != 4) = false := by simp; omega
      clear h3 hz
      go_enter Try.func64, Try.ntmps64
      go_wp2_with (go_at_call 136; refine (areNames_ok na nc x.names _ any (Hns.out.grow (by repeat (first | with_reducible exact Ext.refl _ _ | with_reducible refine Ext.trans ?_ (by assumption) | with_reducible refine Ext.drew ?_ | with_reducible refine Ext.drewN ?_ _ | with_reducible refine Ext.alloc ?_ _ | with_reducible refine Ext.setNew ?_ (by simp; done) _ | with_reducible refine Ext.setNew ?_ (by simp; omega) _)))).mono ?_; rintro e w2 ⟨rfl, hg2⟩; simp only [h2]; have hcc2 := bcell hg2)
      go_ret
      exact ⟨by simp [Hf.out], (by repeat (first | with_reducible exact Ext.refl _ _ | with_reducible refine Ext.trans ?_ (by assumption) | with_reducible refine Ext.drew ?_ | with_reducible refine Ext.drewN ?_ _ | with_reducible refine Ext.alloc ?_ _ | with_reducible refine Ext.setNew ?_ (by simp; done) _ | with_reducible refine Ext.setNew ?_ (by simp; omega) _))⟩
  have h6 : ¬ x.kids.length = x.names.length := by
    intro h6
    rw [Hi.out, h2] at hf
    by_cases hz : x.names.length = 0
    · simp [hz, h5, h6] at hf
    · have : x.kind = 4 := by omega
      simp [this, h5, h6] at hf
  have hb5 : ((x.needs.length : Int) != (x.names.length : Int)) = false := by simp [h5]
  have hb6 : ((x.kids.length : Int) != (x.names.length : Int)) = true := by rw [ibne]; simp; omega
  clear hf h5 h6
  by_cases hz : x.names.length = 0
  · have hz' : ¬ (0 < (x.names.length : Int)) := by omega
    clear h3 hz
    go_enter Try.func64, Try.ntmps64
    go_wp2_with (go_at_call 136; refine (areNames_ok na nc x.names _ any (Hns.out.grow (by repeat (first | with_reducible exact Ext.refl _ _ | with_reducible refine Ext.trans ?_ (by assumption) | with_reducible refine Ext.drew ?_ | with_reducible refine Ext.drewN ?_ _ | with_reducible refine Ext.alloc ?_ _ | with_reducible refine Ext.setNew ?_ (by simp; done) _ | with_reducible refine Ext.setNew ?_ (by simp; omega) _)))).mono ?_; rintro e w2 ⟨rfl, hg2⟩; simp only [h2]; have hcc2 := bcell hg2)
    go_ret
    exact ⟨by simp [Hf.out], (by repeat (first | with_reducible exact Ext.refl _ _ | with_reducible refine Ext.trans ?_ (by assumption) | with_reducible refine Ext.drew ?_ | with_reducible refine Ext.drewN ?_ _ | with_reducible refine Ext.alloc ?_ _ | with_reducible refine Ext.setNew ?_ (by simp; done) _ | with_reducible refine Ext.setNew ?_ (by simp; omega) _))⟩
  · have hz' : 0 < (x.names.length : Int) := by omega
    have hb4 : (x.kind != 4) = false := by simp; omega
    clear h3 hz
    go_enter Try.func64, Try.ntmps64
    go_wp2_with (go_at_call 136; refine (areNames_ok na nc x.names _ any (Hns.out.grow (by repeat (first | with_reducible exact Ext.refl _ _ | with_reducible refine Ext.trans ?_ (by assumption) | with_reducible refine Ext.drew ?_ | with_reducible refine Ext.drewN ?_ _ | with_reducible refine Ext.alloc ?_ _ | with_reducible refine Ext.setNew ?_ (by simp; done) _ | with_reducible refine Ext.setNew ?_ (by simp; omega) _)))).mono ?_; rintro e w2 ⟨rfl, hg2⟩; simp only [h2]; have hcc2 := bcell hg2)
    go_ret
    exact ⟨by simp [Hf.out], (by repeat (first | with_reducible exact Ext.refl _ _ | with_reducible refine Ext.trans ?_ (by assumption) | with_reducible refine Ext.drew ?_ | with_reducible refine Ext.drewN ?_ _ | with_reducible refine Ext.alloc ?_ _ | with_reducible refine Ext.setNew ?_ (by simp; done) _ | with_reducible refine Ext.setNew ?_ (by simp; omega) _))⟩
theorem shpHead_parts {x : Shp} (h : shpHead x = true) : 0 ≤ x.kind ∧ x.kind ≤ 4 ∧ areNamesB x.names = true ∧ x.needs.length = x.names.length ∧ x.kids.length = x.names.length ∧ (x.names.length = 0 ∨ x.kind = 4) := by
  unfold shpHead inR at h
  simp only [Bool.and_eq_true, decide_eq_true_eq, Bool.not_eq_true', Bool.and_eq_false_iff, decide_eq_false_iff_not] at h
  obtain ⟨⟨⟨⟨⟨h1, h1'⟩, h2⟩, h3⟩, h4⟩, h5⟩ := h
  refine ⟨h1, h1', h2, h4, h5, ?_⟩
  rcases h3 with h3 | h3
  · left; omega
  · right; omega
theorem shpL_get {l : List Shp} {d : Nat} {k : Nat} (hk : k < l.length) (h : shpB l[k] d = false) : shpL l d = false := by
  rw [shpL_all, List.all_eq_false]
  exact ⟨l[k], List.getElem_mem hk, by simp [h]⟩
theorem isShape_loop (x : Shp) (ih : ∀ k ∈ x.kids, IsShpOk k) (d : Nat) (hd : d + 1 ≤ 5) (hf : shpHead x = true) (v : Value) (w : World) (hn : ShapeR w any x v) :
    Calls Try.prog 64 #[v, .int .i64 ((6 : Int) - ((d + 1 : Nat) : Int))] w fun e w' => e = .returned (.bool (shpB x (d + 1))) ∧ Grow w w' := by
  obtain ⟨na, nc, ba, bc, ka, kc, rfl, hc⟩ := hn
  obtain ⟨hns, hnb, hk1, hk2, hk3⟩ := hc.parts
  have hl1 : x.names.length ≤ 9223372036854775807 := hns.2.1
  have hl2 : x.needs.length ≤ 9223372036854775807 := hnb.2.1
  have hl3 : x.kids.length ≤ 9223372036854775807 := hk2
  have Hf : Hid (shpB x (d + 1) = shpL x.kids d) := Lib.hid (by rw [shpB_eq, hf]; simp)
  have Hns := Lib.hid hns
  have Hk3 := Lib.hid hk3
  have Ih := Lib.hid ih
  obtain ⟨p1, p2, h2, p4, p5, p6⟩ := shpHead_parts hf
  have hb5 : ((x.needs.length : Int) != (x.names.length : Int)) = false := by simp [p4]
  have hb6 : ((x.kids.length : Int) != (x.names.length : Int)) = false := by simp [p5]
  obtain ⟨lev, hlev⟩ : ∃ lev : Int, lev = (6 : Int) - ((d + 1 : Nat) : Int) := ⟨_, rfl⟩
  rw [← hlev]
  have q1 : 1 ≤ lev := by omega
  have q2 : lev ≤ 5 := by omega
  have Hlev := Lib.hid hlev
  have H2 := Lib.hid h2
  clear hc hns hnb hk1 hk2 hk3 hf ih p4 p5 h2 hlev
  unfold shapeV
  rcases p6 with p6 | p6
  · have hz : ¬ (0 < (x.names.length : Int)) := by omega
    clear p6
    go_enter Try.func64, Try.ntmps64
    go_wp2_with (go_at_call 136; refine (areNames_ok na nc x.names _ any (Hns.out.grow (by repeat (first | with_reducible exact Ext.refl _ _ | with_reducible refine Ext.trans ?_ (by assumption) | with_reducible refine Ext.drew ?_ | with_reducible refine Ext.drewN ?_ _ | with_reducible refine Ext.alloc ?_ _ | with_reducible refine Ext.setNew ?_ (by simp; done) _ | with_reducible refine Ext.setNew ?_ (by simp; omega) _)))).mono ?_; rintro e w2 ⟨rfl, hg2⟩; simp only [H2.out]; have hcc2 := bcell hg2)
    (have hg0 : Grow w w2 := (by repeat (first | with_reducible exact Ext.refl _ _ | with_reducible refine Ext.trans ?_ (by assumption) | with_reducible refine Ext.drew ?_ | with_reducible refine Ext.drewN ?_ _ | with_reducible refine Ext.alloc ?_ _ | with_reducible refine Ext.setNew ?_ (by simp; done) _ | with_reducible refine Ext.setNew ?_ (by simp; omega) _))
     clear hg2 hcc2
     go_loopw [4, 53] (fun t4 i wr => t4 = .bool false ∧ Grow w wr ∧ ∃ k : Nat, k ≤ x.kids.length ∧ i = .int .i64 k ∧ shpL x.kids d = shpL (x.kids.drop k) d) (fun _ i _ => x.kids.length - (intOf i).toNat)
     case atStart => exact ⟨rfl, hg0, 0, Nat.zero_le _, rfl, rfl⟩
     case round =>
       obtain ⟨rfl, hgr, k, hk, rfl, hs⟩ := hrel
       have Hs := Lib.hid hs
       clear hs
       by_cases hlt : k < x.kids.length
       · rcases Hk3.out with hks | ⟨bk, ok, rfl, _, hkr⟩
         · simp [hks] at hlt
         obtain ⟨na', nc', ba', bc', ka', kc', c0, c1, c2, c3, hkc⟩ := (hkr.ext hgr (fun _ _ h => h) (fun h => h)).get k hlt
         have Hkc : Hid (ShapeR wr any x.kids[k] (shapeV x.kids[k] na' nc' ba' bc' ka' kc')) := Lib.hid ⟨_, _, _, _, _, _, rfl, hkc⟩
         clear hkr hkc
         cases hsk : shpB x.kids[k] d
         · have Hsk := Lib.hid hsk
           have Hff := Lib.hid (shpL_get hlt hsk)
           clear hsk
           have e1 : Hid (lev + 1 = (6 : Int) - (d : Int)) := Lib.hid (by have := Hlev.out; omega)
           go_wp2_with (go_at_call 64; rw [e1.out]; refine (Ih.out _ (List.getElem_mem hlt) d _ _ (by omega) (Hkc.out.grow (by repeat (first | with_reducible exact Ext.refl _ _ | with_reducible refine Ext.trans ?_ (by assumption) | with_reducible refine Ext.drew ?_ | with_reducible refine Ext.drewN ?_ _ | with_reducible refine Ext.alloc ?_ _ | with_reducible refine Ext.setNew ?_ (by simp; done) _ | with_reducible refine Ext.setNew ?_ (by simp; omega) _)))).mono ?_; rintro e w3 ⟨rfl, hg3⟩; simp only [Hsk.out])
           go_ret
           exact ⟨by simp [Hf.out, Hff.out], (by repeat (first | with_reducible exact Ext.refl _ _ | with_reducible refine Ext.trans ?_ (by assumption) | with_reducible refine Ext.drew ?_ | with_reducible refine Ext.drewN ?_ _ | with_reducible refine Ext.alloc ?_ _ | with_reducible refine Ext.setNew ?_ (by simp; done) _ | with_reducible refine Ext.setNew ?_ (by simp; omega) _))⟩
         · have Hsk := Lib.hid hsk
           clear hsk
           have e1 : Hid (lev + 1 = (6 : Int) - (d : Int)) := Lib.hid (by have := Hlev.out; omega)
           go_wp2_with (go_at_call 64; rw [e1.out]; refine (Ih.out _ (List.getElem_mem hlt) d _ _ (by omega) (Hkc.out.grow (by repeat (first | with_reducible exact Ext.refl _ _ | with_reducible refine Ext.trans ?_ (by assumption) | with_reducible refine Ext.drew ?_ | with_reducible refine Ext.drewN ?_ _ | with_reducible refine Ext.alloc ?_ _ | with_reducible refine Ext.setNew ?_ (by simp; done) _ | with_reducible refine Ext.setNew ?_ (by simp; omega) _)))).mono ?_; rintro e w3 ⟨rfl, hg3⟩; simp only [Hsk.out])
           go_roundw
           case rel => exact ⟨rfl, (by repeat (first | with_reducible exact Ext.refl _ _ | with_reducible refine Ext.trans ?_ (by assumption) | with_reducible refine Ext.drew ?_ | with_reducible refine Ext.drewN ?_ _ | with_reducible refine Ext.alloc ?_ _ | with_reducible refine Ext.setNew ?_ (by simp; done) _ | with_reducible refine Ext.setNew ?_ (by simp; omega) _)), k + 1, by omega, by go_num, by rw [Hs.out, drop_cons _ _ hlt, shpL, Hsk.out]; rfl⟩
           case measure => simp [intOf]; omega
       · go_wp2
         go_ret
         exact ⟨by simp [Hf.out, Hs.out, List.drop_eq_nil_of_le (Nat.le_of_not_lt hlt), shpL], hgr⟩)
  · have hb4 : (x.kind != 4) = false := by simp [p6]
    clear p6
    by_cases hz : 0 < (x.names.length : Int)
    · go_enter Try.func64, Try.ntmps64
      go_wp2_with (go_at_call 136; refine (areNames_ok na nc x.names _ any (Hns.out.grow (by repeat (first | with_reducible exact Ext.refl _ _ | with_reducible refine Ext.trans ?_ (by assumption) | with_reducible refine Ext.drew ?_ | with_reducible refine Ext.drewN ?_ _ | with_reducible refine Ext.alloc ?_ _ | with_reducible refine Ext.setNew ?_ (by simp; done) _ | with_reducible refine Ext.setNew ?_ (by simp; omega) _)))).mono ?_; rintro e w2 ⟨rfl, hg2⟩; simp only [H2.out]; have hcc2 := bcell hg2)
      (have hg0 : Grow w w2 := (by repeat (first | with_reducible exact Ext.refl _ _ | with_reducible refine Ext.trans ?_ (by assumption) | with_reducible refine Ext.drew ?_ | with_reducible refine Ext.drewN ?_ _ | with_reducible refine Ext.alloc ?_ _ | with_reducible refine Ext.setNew ?_ (by simp; done) _ | with_reducible refine Ext.setNew ?_ (by simp; omega) _))
       clear hg2 hcc2
       go_loopw [4, 53] (fun t4 i wr => t4 = .bool false ∧ Grow w wr ∧ ∃ k : Nat, k ≤ x.kids.length ∧ i = .int .i64 k ∧ shpL x.kids d = shpL (x.kids.drop k) d) (fun _ i _ => x.kids.length - (intOf i).toNat)
       case atStart => exact ⟨rfl, hg0, 0, Nat.zero_le _, rfl, rfl⟩
       case round =>
         obtain ⟨rfl, hgr, k, hk, rfl, hs⟩ := hrel
         have Hs := Lib.hid hs
         clear hs
         by_cases hlt : k < x.kids.length
         · rcases Hk3.out with hks | ⟨bk, ok, rfl, _, hkr⟩
           · simp [hks] at hlt
           obtain ⟨na', nc', ba', bc', ka', kc', c0, c1, c2, c3, hkc⟩ := (hkr.ext hgr (fun _ _ h => h) (fun h => h)).get k hlt
           have Hkc : Hid (ShapeR wr any x.kids[k] (shapeV x.kids[k] na' nc' ba' bc' ka' kc')) := Lib.hid ⟨_, _, _, _, _, _, rfl, hkc⟩
           clear hkr hkc
           cases hsk : shpB x.kids[k] d
           · have Hsk := Lib.hid hsk
             have Hff := Lib.hid (shpL_get hlt hsk)
             clear hsk
             have e1 : Hid (lev + 1 = (6 : Int) - (d : Int)) := Lib.hid (by have := Hlev.out; omega)
             go_wp2_with (go_at_call 64; rw [e1.out]; refine (Ih.out _ (List.getElem_mem hlt) d _ _ (by omega) (Hkc.out.grow (by repeat (first | with_reducible exact Ext.refl _ _ | with_reducible refine Ext.trans ?_ (by assumption) | with_reducible refine Ext.drew ?_ | with_reducible refine Ext.drewN ?_ _ | with_reducible refine Ext.alloc ?_ _ | with_reducible refine Ext.setNew ?_ (by simp; done) _ | with_reducible refine Ext.setNew ?_ (by simp; omega) _)))).mono ?_; rintro e w3 ⟨rfl, hg3⟩; simp only [Hsk.out])
             go_ret
             exact ⟨by simp [Hf.out, Hff.out], (by repeat (first | with_reducible exact Ext.refl _ _ | with_reducible refine Ext.trans ?_ (by assumption) | with_reducible refine Ext.drew ?_ | with_reducible refine Ext.drewN ?_ _ | with_reducible refine Ext.alloc ?_ _ | with_reducible refine Ext.setNew ?_ (by simp; done) _ | with_reducible refine Ext.setNew ?_ (by simp; omega) _))⟩
           · have Hsk := Lib.hid hsk
             clear hsk
             have e1 : Hid (lev + 1 = (6 : Int) - (d : Int)) := Lib.hid (by have := Hlev.out; omega)
             go_wp2_with (go_at_call 64; rw [e1.out]; refine (Ih.out _ (List.getElem_mem hlt) d _ _ (by omega) (Hkc.out.grow (by repeat (first | with_reducible exact Ext.refl _ _ | with_reducible refine Ext.trans ?_ (by assumption) | with_reducible refine Ext.drew ?_ | with_reducible refine Ext.drewN ?_ _ | with_reducible refine Ext.alloc ?_ _ | with_reducible refine Ext.setNew ?_ (by simp; done) _ | with_reducible refine Ext.setNew ?_ (by simp; omega) _)))).mono ?_; rintro e w3 ⟨rfl, hg3⟩; simp only [Hsk.out])
             go_roundw
             case rel => exact ⟨rfl, (by repeat (first | with_reducible exact Ext.refl _ _ | with_reducible refine Ext.trans ?_ (by assumption) | with_reducible refine Ext.drew ?_ | with_reducible refine Ext.drewN ?_ _ | with_reducible refine Ext.alloc ?_ _ | with_reducible refine Ext.setNew ?_ (by simp; done) _ | with_reducible refine Ext.setNew ?_ (by simp; omega) _)), k + 1, by omega, by go_num, by rw [Hs.out, drop_cons _ _ hlt, shpL, Hsk.out]; rfl⟩
             case measure => simp [intOf]; omega
         · go_wp2
           go_ret
           exact ⟨by simp [Hf.out, Hs.out, List.drop_eq_nil_of_le (Nat.le_of_not_lt hlt), shpL], hgr⟩)
    · go_enter Try.func64, Try.ntmps64
      go_wp2_with (go_at_call 136; refine (areNames_ok na nc x.names _ any (Hns.out.grow (by repeat (first | with_reducible exact Ext.refl _ _ | with_reducible refine Ext.trans ?_ (by assumption) | with_reducible refine Ext.drew ?_ | with_reducible refine Ext.drewN ?_ _ | with_reducible refine Ext.alloc ?_ _ | with_reducible refine Ext.setNew ?_ (by simp; done) _ | with_reducible refine Ext.setNew ?_ (by simp; omega) _)))).mono ?_; rintro e w2 ⟨rfl, hg2⟩; simp only [H2.out]; have hcc2 := bcell hg2)
      (have hg0 : Grow w w2 := (by repeat (first | with_reducible exact Ext.refl _ _ | with_reducible refine Ext.trans ?_ (by assumption) | with_reducible refine Ext.drew ?_ | with_reducible refine Ext.drewN ?_ _ | with_reducible refine Ext.alloc ?_ _ | with_reducible refine Ext.setNew ?_ (by simp; done) _ | with_reducible refine Ext.setNew ?_ (by simp; omega) _))
       clear hg2 hcc2
       go_loopw [4, 53] (fun t4 i wr => t4 = .bool false ∧ Grow w wr ∧ ∃ k : Nat, k ≤ x.kids.length ∧ i = .int .i64 k ∧ shpL x.kids d = shpL (x.kids.drop k) d) (fun _ i _ => x.kids.length - (intOf i).toNat)
       case atStart => exact ⟨rfl, hg0, 0, Nat.zero_le _, rfl, rfl⟩
       case round =>
         obtain ⟨rfl, hgr, k, hk, rfl, hs⟩ := hrel
         have Hs := Lib.hid hs
         clear hs
         by_cases hlt : k < x.kids.length
         · rcases Hk3.out with hks | ⟨bk, ok, rfl, _, hkr⟩
           · simp [hks] at hlt
           obtain ⟨na', nc', ba', bc', ka', kc', c0, c1, c2, c3, hkc⟩ := (hkr.ext hgr (fun _ _ h => h) (fun h => h)).get k hlt
           have Hkc : Hid (ShapeR wr any x.kids[k] (shapeV x.kids[k] na' nc' ba' bc' ka' kc')) := Lib.hid ⟨_, _, _, _, _, _, rfl, hkc⟩
           clear hkr hkc
           cases hsk : shpB x.kids[k] d
           · have Hsk := Lib.hid hsk
             have Hff := Lib.hid (shpL_get hlt hsk)
             clear hsk
             have e1 : Hid (lev + 1 = (6 : Int) - (d : Int)) := Lib.hid (by have := Hlev.out; omega)
             go_wp2_with (go_at_call 64; rw [e1.out]; refine (Ih.out _ (List.getElem_mem hlt) d _ _ (by omega) (Hkc.out.grow (by repeat (first | with_reducible exact Ext.refl _ _ | with_reducible refine Ext.trans ?_ (by assumption) | with_reducible refine Ext.drew ?_ | with_reducible refine Ext.drewN ?_ _ | with_reducible refine Ext.alloc ?_ _ | with_reducible refine Ext.setNew ?_ (by simp; done) _ | with_reducible refine Ext.setNew ?_ (by simp; omega) _)))).mono ?_; rintro e w3 ⟨rfl, hg3⟩; simp only [Hsk.out])
             go_ret
             exact ⟨by simp [Hf.out, Hff.out], (by repeat (first | with_reducible exact Ext.refl _ _ | with_reducible refine Ext.trans ?_ (by assumption) | with_reducible refine Ext.drew ?_ | with_reducible refine Ext.drewN ?_ _ | with_reducible refine Ext.alloc ?_ _ | with_reducible refine Ext.setNew ?_ (by simp; done) _ | with_reducible refine Ext.setNew ?_ (by simp; omega) _))⟩
           · have Hsk := Lib.hid hsk
             clear hsk
             have e1 : Hid (lev + 1 = (6 : Int) - (d : Int)) := Lib.hid (by have := Hlev.out; omega)
             go_wp2_with (go_at_call 64; rw [e1.out]; refine (Ih.out _ (List.getElem_mem hlt) d _ _ (by omega) (Hkc.out.grow (by repeat (first | with_reducible exact Ext.refl _ _ | with_reducible refine Ext.trans ?_ (by assumption) | with_reducible refine Ext.drew ?_ | with_reducible refine Ext.drewN ?_ _ | with_reducible refine Ext.alloc ?_ _ | with_reducible refine Ext.setNew ?_ (by simp; done) _ | with_reducible refine Ext.setNew ?_ (by simp; omega) _)))).mono ?_; rintro e w3 ⟨rfl, hg3⟩; simp only [Hsk.out])
             go_roundw
             case rel => exact ⟨rfl, (by repeat (first | with_reducible exact Ext.refl _ _ | with_reducible refine Ext.trans ?_ (by assumption) | with_reducible refine Ext.drew ?_ | with_reducible refine Ext.drewN ?_ _ | with_reducible refine Ext.alloc ?_ _ | with_reducible refine Ext.setNew ?_ (by simp; done) _ | with_reducible refine Ext.setNew ?_ (by simp; omega) _)), k + 1, by omega, by go_num, by rw [Hs.out, drop_cons _ _ hlt, shpL, Hsk.out]; rfl⟩
             case measure => simp [intOf]; omega
         · go_wp2
           go_ret
           exact ⟨by simp [Hf.out, Hs.out, List.drop_eq_nil_of_le (Nat.le_of_not_lt hlt), shpL], hgr⟩)
theorem isShape_ok : ∀ x, IsShpOk x := by
  refine Shp.ind' IsShpOk ?_
  intro x ih d v w hd hn
  by_cases h0 : d = 0
  · subst h0
    exact isShape_zero x v w hn
  · cases hf : shpHead x
    · exact isShape_head x d hd (by omega) hf v w hn
    · obtain ⟨d, rfl⟩ : ∃ d', d = d' + 1 := ⟨d - 1, by omega⟩
      exact isShape_loop x ih d hd hf v w hn
end Go.Proofs.Ytgfnmhfdmmnaoaa
namespace Go.Proofs.Ytgfnmhfdmmnaoaa
open Go.RowKit
def VShpOk (x : Shp) : Prop := ∀ (d : Nat) (v : Value) (w : World), d ≤ 5 → ShapeR w any x v →
    Calls Try.prog 61 #[v, .int .i64 (d : Int)] w fun e w' => e = .returned (.bool (shpB x d)) ∧ Grow w w'
theorem validShape_of (x : Shp) (ih : ∀ k ∈ x.kids, VShpOk k) : VShpOk x := by
  intro d v w hd hn
  obtain ⟨na, nc, ba, bc, ka, kc, rfl, hc⟩ := hn
  obtain ⟨hns, hnb, hk1, hk2, hk3⟩ := hc.parts
  have hl1 : x.names.length ≤ 9223372036854775807 := hns.2.1
  have hl2 : x.needs.length ≤ 9223372036854775807 := hnb.2.1
  have hl3 : x.kids.length ≤ 9223372036854775807 := hk2
  have Hns := Lib.hid hns
  have Hk3 := Lib.hid hk3
  have Ih := Lib.hid ih
  clear hc hns hnb hk1 hk2 hk3 ih
  unfold shapeV
  by_cases h0 : d = 0
  · subst h0
    have Hf : Hid (shpB x 0 = false) := Lib.hid (by rw [shpB_eq]; simp)
    go_enter Try.func61, Try.ntmps61
    go_wp2_with fail
    go_ret
    exact ⟨by simp [Hf.out], (by repeat (first | with_reducible exact Ext.refl _ _ | with_reducible refine Ext.trans ?_ (by assumption) | with_reducible refine Ext.drew ?_ | with_reducible refine Ext.drewN ?_ _ | with_reducible refine Ext.alloc ?_ _ | with_reducible refine Ext.setNew ?_ (by simp; done) _ | with_reducible refine Ext.setNew ?_ (by simp; omega) _))⟩
  obtain ⟨d, rfl⟩ : ∃ d', d = d' + 1 := ⟨d - 1, by omega⟩
  obtain ⟨dep, hdep⟩ : ∃ dep : Int, dep = ((d + 1 : Nat) : Int) := ⟨_, rfl⟩
  rw [← hdep]
  have q1 : 1 ≤ dep := by omega
  have q2 : dep ≤ 5 := by omega
  have hb0 : (dep == 0) = false := by rw [ibeq]; simp; omega
  have Hdep := Lib.hid hdep
  clear hdep h0
  have Hf := Lib.hid (shpB_eq x (d + 1))
  cases h1 : inR x.kind 0 4
  · have Hg : Hid (shpB x (d + 1) = false) := Lib.hid (by rw [Hf.out]; simp [shpHead, h1])
    have H1 := Lib.hid h1
    clear h1
    go_enter Try.func61, Try.ntmps61
    go_wp2_with (first | (go_at_call 131; refine (inRange_ok _ _ _ _).mono ?_; rintro e w' ⟨rfl, rfl⟩; simp only [H1.out]) | (go_at_call 132; refine (names_ok na nc x.names _ (Hns.out.grow (by repeat (first | with_reducible exact Ext.refl _ _ | with_reducible refine Ext.trans ?_ (by assumption) | with_reducible refine Ext.drew ?_ | with_reducible refine Ext.drewN ?_ _ | with_reducible refine Ext.alloc ?_ _ | with_reducible refine Ext.setNew ?_ (by simp; done) _ | with_reducible refine Ext.setNew ?_ (by simp; omega) _)))).mono ?_; rintro e w2 ⟨rfl, hg2⟩; simp only [H2.out]; have hcc2 := bcell hg2))
    go_ret
    exact ⟨by simp [Hg.out], (by repeat (first | with_reducible exact Ext.refl _ _ | with_reducible refine Ext.trans ?_ (by assumption) | with_reducible refine Ext.drew ?_ | with_reducible refine Ext.drewN ?_ _ | with_reducible refine Ext.alloc ?_ _ | with_reducible refine Ext.setNew ?_ (by simp; done) _ | with_reducible refine Ext.setNew ?_ (by simp; omega) _))⟩
  cases h2 : namesB x.names
  · have Hg : Hid (shpB x (d + 1) = false) := Lib.hid (by rw [Hf.out]; simp [shpHead, areNamesB, h2])
    have H1 := Lib.hid h1
    have H2 := Lib.hid h2
    clear h1 h2
    go_enter Try.func61, Try.ntmps61
    go_wp2_with (first | (go_at_call 131; refine (inRange_ok _ _ _ _).mono ?_; rintro e w' ⟨rfl, rfl⟩; simp only [H1.out]) | (go_at_call 132; refine (names_ok na nc x.names _ (Hns.out.grow (by repeat (first | with_reducible exact Ext.refl _ _ | with_reducible refine Ext.trans ?_ (by assumption) | with_reducible refine Ext.drew ?_ | with_reducible refine Ext.drewN ?_ _ | with_reducible refine Ext.alloc ?_ _ | with_reducible refine Ext.setNew ?_ (by simp; done) _ | with_reducible refine Ext.setNew ?_ (by simp; omega) _)))).mono ?_; rintro e w2 ⟨rfl, hg2⟩; simp only [H2.out]; have hcc2 := bcell hg2))
    go_ret
    exact ⟨by simp [Hg.out], (by repeat (first | with_reducible exact Ext.refl _ _ | with_reducible refine Ext.trans ?_ (by assumption) | with_reducible refine Ext.drew ?_ | with_reducible refine Ext.drewN ?_ _ | with_reducible refine Ext.alloc ?_ _ | with_reducible refine Ext.setNew ?_ (by simp; done) _ | with_reducible refine Ext.setNew ?_ (by simp; omega) _))⟩
  have H1 := Lib.hid h1
  have H2 := Lib.hid h2
  clear h1 h2
  by_cases h3 : x.kids.length = x.names.length
  rotate_left
  · have Hg : Hid (shpB x (d + 1) = false) := Lib.hid (by rw [Hf.out]; simp [shpHead, h3])
    have b3 : ((x.names.length : Int) != (x.kids.length : Int)) = true := by rw [ibne]; simp; omega
    clear h3
    go_enter Try.func61, Try.ntmps61
    go_wp2_with (first | (go_at_call 131; refine (inRange_ok _ _ _ _).mono ?_; rintro e w' ⟨rfl, rfl⟩; simp only [H1.out]) | (go_at_call 132; refine (names_ok na nc x.names _ (Hns.out.grow (by repeat (first | with_reducible exact Ext.refl _ _ | with_reducible refine Ext.trans ?_ (by assumption) | with_reducible refine Ext.drew ?_ | with_reducible refine Ext.drewN ?_ _ | with_reducible refine Ext.alloc ?_ _ | with_reducible refine Ext.setNew ?_ (by simp; done) _ | with_reducible refine Ext.setNew ?_ (by simp; omega) _)))).mono ?_; rintro e w2 ⟨rfl, hg2⟩; simp only [H2.out]; have hcc2 := bcell hg2))
    go_ret
    exact ⟨by simp [Hg.out], (by repeat (first | with_reducible exact Ext.refl _ _ | with_reducible refine Ext.trans ?_ (by assumption) | with_reducible refine Ext.drew ?_ | with_reducible refine Ext.drewN ?_ _ | with_reducible refine Ext.alloc ?_ _ | with_reducible refine Ext.setNew ?_ (by simp; done) _ | with_reducible refine Ext.setNew ?_ (by simp; omega) _))⟩
  have b3 : ((x.names.length : Int) != (x.kids.length : Int)) = false := by rw [ibne]; simp; omega
  by_cases h4 : x.needs.length = x.names.length
  rotate_left
  · have Hg : Hid (shpB x (d + 1) = false) := Lib.hid (by rw [Hf.out]; simp [shpHead, h4])
    have b4 : ((x.needs.length : Int) != (x.names.length : Int)) = true := by rw [ibne]; simp; omega
    clear h3 h4
    go_enter Try.func61, Try.ntmps61
    go_wp2_with (first | (go_at_call 131; refine (inRange_ok _ _ _ _).mono ?_; rintro e w' ⟨rfl, rfl⟩; simp only [H1.out]) | (go_at_call 132; refine (names_ok na nc x.names _ (Hns.out.grow (by repeat (first | with_reducible exact Ext.refl _ _ | with_reducible refine Ext.trans ?_ (by assumption) | with_reducible refine Ext.drew ?_ | with_reducible refine Ext.drewN ?_ _ | with_reducible refine Ext.alloc ?_ _ | with_reducible refine Ext.setNew ?_ (by simp; done) _ | with_reducible refine Ext.setNew ?_ (by simp; omega) _)))).mono ?_; rintro e w2 ⟨rfl, hg2⟩; simp only [H2.out]; have hcc2 := bcell hg2))
    go_ret
    exact ⟨by simp [Hg.out], (by repeat (first | with_reducible exact Ext.refl _ _ | with_reducible refine Ext.trans ?_ (by assumption) | with_reducible refine Ext.drew ?_ | with_reducible refine Ext.drewN ?_ _ | with_reducible refine Ext.alloc ?_ _ | with_reducible refine Ext.setNew ?_ (by simp; done) _ | with_reducible refine Ext.setNew ?_ (by simp; omega) _))⟩
  have b4 : ((x.needs.length : Int) != (x.names.length : Int)) = false := by rw [ibne]; simp; omega
  by_cases h5 : 6 < x.kids.length
  · have Hg : Hid (shpB x (d + 1) = false) := Lib.hid (by
      have : ¬ x.names.length ≤ 6 := by omega
      rw [Hf.out]; simp [shpHead, areNamesB, this])
    clear h3 h4
    go_enter Try.func61, Try.ntmps61
    go_wp2_with (first | (go_at_call 131; refine (inRange_ok _ _ _ _).mono ?_; rintro e w' ⟨rfl, rfl⟩; simp only [H1.out]) | (go_at_call 132; refine (names_ok na nc x.names _ (Hns.out.grow (by repeat (first | with_reducible exact Ext.refl _ _ | with_reducible refine Ext.trans ?_ (by assumption) | with_reducible refine Ext.drew ?_ | with_reducible refine Ext.drewN ?_ _ | with_reducible refine Ext.alloc ?_ _ | with_reducible refine Ext.setNew ?_ (by simp; done) _ | with_reducible refine Ext.setNew ?_ (by simp; omega) _)))).mono ?_; rintro e w2 ⟨rfl, hg2⟩; simp only [H2.out]; have hcc2 := bcell hg2))
    go_ret
    exact ⟨by simp [Hg.out], (by repeat (first | with_reducible exact Ext.refl _ _ | with_reducible refine Ext.trans ?_ (by assumption) | with_reducible refine Ext.drew ?_ | with_reducible refine Ext.drewN ?_ _ | with_reducible refine Ext.alloc ?_ _ | with_reducible refine Ext.setNew ?_ (by simp; done) _ | with_reducible refine Ext.setNew ?_ (by simp; omega) _))⟩
  have h5 : x.kids.length ≤ 6 := by omega
  by_cases h6 : 0 < x.names.length ∧ ¬ x.kind = 4
  · have Hg : Hid (shpB x (d + 1) = false) := Lib.hid (by rw [Hf.out]; simp [shpHead, h6])
    have b6 : (x.kind != 4) = true := by simpa using h6.2
    have b7 : 0 < (x.names.length : Int) := by omega
    clear h3 h4 h6
    go_enter Try.func61, Try.ntmps61
    go_wp2_with (first | (go_at_call 131; refine (inRange_ok _ _ _ _).mono ?_; rintro e w' ⟨rfl, rfl⟩; simp only [H1.out]) | (go_at_call 132; refine (names_ok na nc x.names _ (Hns.out.grow (by repeat (first | with_reducible exact Ext.refl _ _ | with_reducible refine Ext.trans ?_ (by assumption) | with_reducible refine Ext.drew ?_ | with_reducible refine Ext.drewN ?_ _ | with_reducible refine Ext.alloc ?_ _ | with_reducible refine Ext.setNew ?_ (by simp; done) _ | with_reducible refine Ext.setNew ?_ (by simp; omega) _)))).mono ?_; rintro e w2 ⟨rfl, hg2⟩; simp only [H2.out]; have hcc2 := bcell hg2))
    go_ret
    exact ⟨by simp [Hg.out], (by repeat (first | with_reducible exact Ext.refl _ _ | with_reducible refine Ext.trans ?_ (by assumption) | with_reducible refine Ext.drew ?_ | with_reducible refine Ext.drewN ?_ _ | with_reducible refine Ext.alloc ?_ _ | with_reducible refine Ext.setNew ?_ (by simp; done) _ | with_reducible refine Ext.setNew ?_ (by simp; omega) _))⟩
  have Hg : Hid (shpB x (d + 1) = shpL x.kids d) := Lib.hid (by
      have h7 : x.names.length ≤ 6 := by omega
      have h8 : (decide (0 < x.names.length) && !decide (x.kind = 4)) = false := by
        by_cases h9 : 0 < x.names.length
        · have : x.kind = 4 := by by_cases h10 : x.kind = 4 <;> simp_all
          simp [this]
        · simp [h9]
      rw [Hf.out]; simp only [shpHead, H1.out, areNamesB, H2.out, h3, h4, h7]; simp [h8])
  clear h3 h4
  by_cases b6 : x.kind = 4
  · have b8 : (x.kind != 4) = false := by simp [b6]
    clear h6 b6
    go_enter Try.func61, Try.ntmps61
    go_wp2_with (first | (go_at_call 131; refine (inRange_ok _ _ _ _).mono ?_; rintro e w' ⟨rfl, rfl⟩; simp only [H1.out]) | (go_at_call 132; refine (names_ok na nc x.names _ (Hns.out.grow (by repeat (first | with_reducible exact Ext.refl _ _ | with_reducible refine Ext.trans ?_ (by assumption) | with_reducible refine Ext.drew ?_ | with_reducible refine Ext.drewN ?_ _ | with_reducible refine Ext.alloc ?_ _ | with_reducible refine Ext.setNew ?_ (by simp; done) _ | with_reducible refine Ext.setNew ?_ (by simp; omega) _)))).mono ?_; rintro e w2 ⟨rfl, hg2⟩; simp only [H2.out]; have hcc2 := bcell hg2))
    clear hcc2
    go_loopw [4, 5] (fun t4 i wr => t4 = .bool false ∧ Grow (w.alloc (.cells #[.int .i64 x.kind, .slice na x.names.length nc, .slice ba x.needs.length bc, .slice ka x.kids.length kc] 27)) wr ∧ ∃ k : Nat, k ≤ x.kids.length ∧ i = .int .i64 k ∧ shpL x.kids d = shpL (x.kids.drop k) d) (fun _ i _ => x.kids.length - (intOf i).toNat)
    case atStart => exact ⟨rfl, hg2, 0, Nat.zero_le _, rfl, rfl⟩
    case round =>
      obtain ⟨rfl, hgr, k, hk, rfl, hs⟩ := hrel
      have Hs := Lib.hid hs
      have hcc := bcell hgr
      have hg0 : Grow w wr := ((Ext.refl _ _).alloc _).trans hgr
      clear hs hg2
      by_cases hlt : k < x.kids.length
      · rcases Hk3.out with hks | ⟨bk, ok, rfl, _, hkr⟩
        · simp [hks] at hlt
        obtain ⟨na', nc', ba', bc', ka', kc', c0, c1, c2, c3, hkc⟩ := (hkr.ext hg0 (fun _ _ h => h) (fun h => h)).get k hlt
        have Hkc : Hid (ShapeR wr any x.kids[k] (shapeV x.kids[k] na' nc' ba' bc' ka' kc')) := Lib.hid ⟨_, _, _, _, _, _, rfl, hkc⟩
        clear hkr hkc
        have e1 : Hid (dep - 1 = (d : Int)) := Lib.hid (by have := Hdep.out; omega)
        cases hsk : shpB x.kids[k] d
        · have Hsk := Lib.hid hsk
          have Hff := Lib.hid (shpL_get hlt hsk)
          clear hsk
          go_wp2_with (go_at_call 61; rw [e1.out]; refine (Ih.out _ (List.getElem_mem hlt) d _ _ (by omega) (Hkc.out.grow (by repeat (first | with_reducible exact Ext.refl _ _ | with_reducible refine Ext.trans ?_ (by assumption) | with_reducible refine Ext.drew ?_ | with_reducible refine Ext.drewN ?_ _ | with_reducible refine Ext.alloc ?_ _ | with_reducible refine Ext.setNew ?_ (by simp; done) _ | with_reducible refine Ext.setNew ?_ (by simp; omega) _)))).mono ?_; rintro e w3 ⟨rfl, hg3⟩; simp only [Hsk.out])
          go_ret
          exact ⟨by simp [Hg.out, Hff.out], (by repeat (first | with_reducible exact Ext.refl _ _ | with_reducible refine Ext.trans ?_ (by assumption) | with_reducible refine Ext.drew ?_ | with_reducible refine Ext.drewN ?_ _ | with_reducible refine Ext.alloc ?_ _ | with_reducible refine Ext.setNew ?_ (by simp; done) _ | with_reducible refine Ext.setNew ?_ (by simp; omega) _))⟩
        · have Hsk := Lib.hid hsk
          clear hsk
          go_wp2_with (go_at_call 61; rw [e1.out]; refine (Ih.out _ (List.getElem_mem hlt) d _ _ (by omega) (Hkc.out.grow (by repeat (first | with_reducible exact Ext.refl _ _ | with_reducible refine Ext.trans ?_ (by assumption) | with_reducible refine Ext.drew ?_ | with_reducible refine Ext.drewN ?_ _ | with_reducible refine Ext.alloc ?_ _ | with_reducible refine Ext.setNew ?_ (by simp; done) _ | with_reducible refine Ext.setNew ?_ (by simp; omega) _)))).mono ?_; rintro e w3 ⟨rfl, hg3⟩; simp only [Hsk.out])
          go_roundw
          case rel => exact ⟨rfl, (by repeat (first | with_reducible exact Ext.refl _ _ | with_reducible refine Ext.trans ?_ (by assumption) | with_reducible refine Ext.drew ?_ | with_reducible refine Ext.drewN ?_ _ | with_reducible refine Ext.alloc ?_ _ | with_reducible refine Ext.setNew ?_ (by simp; done) _ | with_reducible refine Ext.setNew ?_ (by simp; omega) _)), k + 1, by omega, by go_num, by rw [Hs.out, drop_cons _ _ hlt, shpL, Hsk.out]; rfl⟩
          case measure => simp [intOf]; omega
      · go_wp2
        go_ret
        exact ⟨by simp [Hg.out, Hs.out, List.drop_eq_nil_of_le (Nat.le_of_not_lt hlt), shpL], hg0⟩
  · have h6 : x.names.length = 0 := by omega
    have b7 : ¬ 0 < (x.names.length : Int) := by omega
    have b8 : (x.kind != 4) = true := by simpa using b6
    clear h6 b6
    go_enter Try.func61, Try.ntmps61
    go_wp2_with (first | (go_at_call 131; refine (inRange_ok _ _ _ _).mono ?_; rintro e w' ⟨rfl, rfl⟩; simp only [H1.out]) | (go_at_call 132; refine (names_ok na nc x.names _ (Hns.out.grow (by repeat (first | with_reducible exact Ext.refl _ _ | with_reducible refine Ext.trans ?_ (by assumption) | with_reducible refine Ext.drew ?_ | with_reducible refine Ext.drewN ?_ _ | with_reducible refine Ext.alloc ?_ _ | with_reducible refine Ext.setNew ?_ (by simp; done) _ | with_reducible refine Ext.setNew ?_ (by simp; omega) _)))).mono ?_; rintro e w2 ⟨rfl, hg2⟩; simp only [H2.out]; have hcc2 := bcell hg2))
    clear hcc2
    go_loopw [4, 5] (fun t4 i wr => t4 = .bool false ∧ Grow (w.alloc (.cells #[.int .i64 x.kind, .slice na x.names.length nc, .slice ba x.needs.length bc, .slice ka x.kids.length kc] 27)) wr ∧ ∃ k : Nat, k ≤ x.kids.length ∧ i = .int .i64 k ∧ shpL x.kids d = shpL (x.kids.drop k) d) (fun _ i _ => x.kids.length - (intOf i).toNat)
    case atStart => exact ⟨rfl, hg2, 0, Nat.zero_le _, rfl, rfl⟩
    case round =>
      obtain ⟨rfl, hgr, k, hk, rfl, hs⟩ := hrel
      have Hs := Lib.hid hs
      have hcc := bcell hgr
      have hg0 : Grow w wr := ((Ext.refl _ _).alloc _).trans hgr
      clear hs hg2
      by_cases hlt : k < x.kids.length
      · rcases Hk3.out with hks | ⟨bk, ok, rfl, _, hkr⟩
        · simp [hks] at hlt
        obtain ⟨na', nc', ba', bc', ka', kc', c0, c1, c2, c3, hkc⟩ := (hkr.ext hg0 (fun _ _ h => h) (fun h => h)).get k hlt
        have Hkc : Hid (ShapeR wr any x.kids[k] (shapeV x.kids[k] na' nc' ba' bc' ka' kc')) := Lib.hid ⟨_, _, _, _, _, _, rfl, hkc⟩
        clear hkr hkc
        have e1 : Hid (dep - 1 = (d : Int)) := Lib.hid (by have := Hdep.out; omega)
        cases hsk : shpB x.kids[k] d
        · have Hsk := Lib.hid hsk
          have Hff := Lib.hid (shpL_get hlt hsk)
          clear hsk
          go_wp2_with (go_at_call 61; rw [e1.out]; refine (Ih.out _ (List.getElem_mem hlt) d _ _ (by omega) (Hkc.out.grow (by repeat (first | with_reducible exact Ext.refl _ _ | with_reducible refine Ext.trans ?_ (by assumption) | with_reducible refine Ext.drew ?_ | with_reducible refine Ext.drewN ?_ _ | with_reducible refine Ext.alloc ?_ _ | with_reducible refine Ext.setNew ?_ (by simp; done) _ | with_reducible refine Ext.setNew ?_ (by simp; omega) _)))).mono ?_; rintro e w3 ⟨rfl, hg3⟩; simp only [Hsk.out])
          go_ret
          exact ⟨by simp [Hg.out, Hff.out], (by repeat (first | with_reducible exact Ext.refl _ _ | with_reducible refine Ext.trans ?_ (by assumption) | with_reducible refine Ext.drew ?_ | with_reducible refine Ext.drewN ?_ _ | with_reducible refine Ext.alloc ?_ _ | with_reducible refine Ext.setNew ?_ (by simp; done) _ | with_reducible refine Ext.setNew ?_ (by simp; omega) _))⟩
        · have Hsk := Lib.hid hsk
          clear hsk
          go_wp2_with (go_at_call 61; rw [e1.out]; refine (Ih.out _ (List.getElem_mem hlt) d _ _ (by omega) (Hkc.out.grow (by repeat (first | with_reducible exact Ext.refl _ _ | with_reducible refine Ext.trans ?_ (by assumption) | with_reducible refine Ext.drew ?_ | with_reducible refine Ext.drewN ?_ _ | with_reducible refine Ext.alloc ?_ _ | with_reducible refine Ext.setNew ?_ (by simp; done) _ | with_reducible refine Ext.setNew ?_ (by simp; omega) _)))).mono ?_; rintro e w3 ⟨rfl, hg3⟩; simp only [Hsk.out])
          go_roundw
          case rel => exact ⟨rfl, (by repeat (first | with_reducible exact Ext.refl _ _ | with_reducible refine Ext.trans ?_ (by assumption) | with_reducible refine Ext.drew ?_ | with_reducible refine Ext.drewN ?_ _ | with_reducible refine Ext.alloc ?_ _ | with_reducible refine Ext.setNew ?_ (by simp; done) _ | with_reducible refine Ext.setNew ?_ (by simp; omega) _)), k + 1, by omega, by go_num, by rw [Hs.out, drop_cons _ _ hlt, shpL, Hsk.out]; rfl⟩
          case measure => simp [intOf]; omega
      · go_wp2
        go_ret
        exact ⟨by simp [Hg.out, Hs.out, List.drop_eq_nil_of_le (Nat.le_of_not_lt hlt), shpL], hg0⟩
theorem validShape_ok : ∀ x, VShpOk x := Shp.ind' VShpOk validShape_of
end Go.Proofs.Ytgfnmhfdmmnaoaa
namespace Go.Proofs.Ytgfnmhfdmmnaoaa
open Go.RowKit
def Good (n : Nd) : Prop := ∃ d, shapeB n d = true
def GoodS (x : Shp) : Prop := ∃ d, d ≤ 5 ∧ shpB x d = true
theorem Good.parts {n : Nd} (h : Good n) : partsB n = true := by
  obtain ⟨d, h⟩ := h
  rw [shapeB_eq] at h
  simp only [Bool.and_eq_true] at h
  exact h.1.2
theorem Good.kid {n k : Nd} (h : Good n) (hk : k ∈ n.kids) : Good k := by
  obtain ⟨d, h⟩ := h
  rw [shapeB_eq, shapeL_all] at h
  simp only [Bool.and_eq_true, List.all_eq_true] at h
  exact ⟨d - 1, h.2 k hk⟩
theorem Good.zero : Good Nd.zero := ⟨1, by simp [shapeB_eq, partsB, Nd.zero, shapeL]⟩
theorem Good.kids6 {n : Nd} (h : Good n) : n.kids.length ≤ 6 := partsB_kids h.parts
theorem Good.map {n : Nd} (h : Good n) (hk : n.kind = 4) : Asc n.names ∧ n.kids.length = n.names.length := by
  have hp := h.parts
  simp only [partsB, hk, Bool.and_eq_true] at hp
  simp [areNamesB] at hp
  exact ⟨namesB_asc hp.2.1.2, hp.2.2⟩
theorem Good.other {n : Nd} (h : Good n) (hk : n.kind ≠ 4) : n.names = [] := by
  have hp := h.parts
  simp only [partsB, hk, Bool.and_eq_true] at hp
  simp at hp
  exact hp.1.2
theorem Good.asc {n : Nd} (h : Good n) : Asc n.names := by
  by_cases hk : n.kind = 4
  · exact (h.map hk).1
  · rw [h.other hk]; intro i j hi; simp at hi
theorem Good.len {n : Nd} (h : Good n) : n.names.length ≤ n.kids.length := by
  by_cases hk : n.kind = 4
  · rw [(h.map hk).2]; exact Nat.le_refl _
  · rw [h.other hk]; exact Nat.zero_le _
theorem Good.kidOf {n : Nd} (h : Good n) (s : ByteArray) : Good (kidOf n s) := by
  cases hm : mem n.names s
  · rw [kidOf_no hm]; exact Good.zero
  · exact h.kid (kidOf_mem h.asc h.len hm)
theorem validB_good {n : Nd} (h : validB n = true) : Good n := by
  simp only [validB, Bool.and_eq_true] at h
  exact ⟨5, h.1⟩
theorem GoodS.head {x : Shp} (h : GoodS x) : shpHead x = true := by
  obtain ⟨d, _, h⟩ := h
  rw [shpB_eq] at h
  simp only [Bool.and_eq_true] at h
  exact h.1.2
theorem GoodS.kid {x k : Shp} (h : GoodS x) (hk : k ∈ x.kids) : GoodS k := by
  obtain ⟨d, hd, h⟩ := h
  rw [shpB_eq, shpL_all] at h
  simp only [Bool.and_eq_true, List.all_eq_true] at h
  exact ⟨d - 1, by omega, h.2 k hk⟩
mutual
def fitB : Shp → Nd → Bool
  | ⟨kind, names, needs, kids⟩, n => (decide (kind = 0) || decide (n.kind = kind)) && fitL names needs kids n
def fitL : List ByteArray → List Bool → List Shp → Nd → Bool
  | nm :: ns, nd :: bs, k :: ks, n => (if mem n.names nm then fitB k (kidOf n nm) else !nd) && fitL ns bs ks n
  | _, _, _, _ => true
end
theorem fitB_eq (x : Shp) (n : Nd) : fitB x n = ((decide (x.kind = 0) || decide (n.kind = x.kind)) && fitL x.names x.needs x.kids n) := by cases x; simp [fitB]
theorem fitL_step {ns : List ByteArray} {bs : List Bool} {ks : List Shp} (n : Nd) {k : Nat} (h1 : k < ns.length) (h2 : k < bs.length) (h3 : k < ks.length) :
    fitL (ns.drop k) (bs.drop k) (ks.drop k) n = ((if mem n.names ns[k] then fitB ks[k] (kidOf n ns[k]) else !bs[k]) && fitL (ns.drop (k + 1)) (bs.drop (k + 1)) (ks.drop (k + 1)) n) := by
  rw [drop_cons _ _ h1, drop_cons _ _ h2, drop_cons _ _ h3, fitL]
theorem fitL_end {ns : List ByteArray} {bs : List Bool} {ks : List Shp} (n : Nd) {k : Nat} (h1 : ¬ k < ns.length) : fitL (ns.drop k) (bs.drop k) (ks.drop k) n = true := by
  rw [List.drop_eq_nil_of_le (by omega)]; simp [fitL]
theorem placeFrom_map {n : Nd} {s : ByteArray} (hk : n.kind = 4) (ha : Asc n.names) (hl : n.kids.length = n.names.length) : ∀ (m i : Nat), m + i = n.kids.length → (∀ t (h : t < n.names.length), t < i → n.names[t] ≠ s) →
    placeFrom n s i m = if mem n.names s then (lbound n.names s : Int) else -1
  | 0, i, h, hno => by
    have : mem n.names s = false := mem_no (fun hm => by
      obtain ⟨t, ht, he⟩ := List.getElem_of_mem hm
      exact hno t ht (by omega) he)
    simp [placeFrom, this]
  | m + 1, i, h, hno => by
    have hi : i < n.names.length := by omega
    rw [placeFrom]
    by_cases e : n.names[i] = s
    · have hm : mem n.names s = true := mem_iff.2 (e ▸ List.getElem_mem hi)
      have hh : hit n s i = true := by simp [hit, hk, hi, e]
      have : lbound n.names s = i := lb_of (Nat.le_of_lt hi) (fun t ht hti => by rw [← e]; exact ha t i ht hi hti) (fun t ht hti => by
        rcases Nat.eq_or_lt_of_le hti with rfl | h'
        · rw [e]; exact lt_irr _
        · rw [← e]; exact bl_asymm _ _ (ha i t hi ht h'))
      simp [hh, hm, this]
    · have hh : hit n s i = false := by simp [hit, hk, hi, e]
      rw [hh]
      exact placeFrom_map hk ha hl m (i + 1) (by omega) (fun t ht hti => by
        rcases Nat.eq_or_lt_of_le (show t ≤ i by omega) with rfl | h'
        · exact e
        · exact hno t ht h')
theorem place_map {n : Nd} (h : Good n) (hk : n.kind = 4) (s : ByteArray) : placeOf n s = if mem n.names s then (lbound n.names s : Int) else -1 :=
  placeFrom_map hk (h.map hk).1 (h.map hk).2 _ 0 (by omega) (fun t _ h' => absurd h' (by omega))
def FitsOk (x : Shp) : Prop := ∀ (n : Nd) (v u : Value) (w : World), GoodS x → Good n → ShapeR w any x v → NodeR w any n u →
    Calls Try.prog 63 #[v, u] w fun e w' => e = .returned (.bool (fitB x n)) ∧ Grow w w'
theorem fits_of (x : Shp) (ih : ∀ k ∈ x.kids, FitsOk k) : FitsOk x := by
  intro n v u w hx hg hn hu
  obtain ⟨na, nc, ba, bc, ka, kc, rfl, hc⟩ := hn
  obtain ⟨hns, hnb, hk1, hk2, hk3⟩ := hc.parts
  have Hu := Lib.hid hu
  obtain ⟨na2, nc2, ka2, kc2, rfl, hc2⟩ := hu
  obtain ⟨_, _, hks2⟩ := hc2.parts
  obtain ⟨p1, p2, p3, p4, p5, p6⟩ := shpHead_parts hx.head
  have hl1 : x.names.length ≤ 6 := by
    simp only [areNamesB, Bool.and_eq_true, decide_eq_true_eq] at p3
    exact p3.1
  have hl2 : n.kids.length ≤ 6 := hg.kids6
  have Hns := Lib.hid hns
  have Hnb := Lib.hid hnb
  have Hk3 := Lib.hid hk3
  have Ih := Lib.hid ih
  have Hg := Lib.hid hg
  have Hx := Lib.hid hx
  have P4 := Lib.hid p4
  have P5 := Lib.hid p5
  have P6 := Lib.hid p6
  have Hks2 := Lib.hid hks2
  have Hf := Lib.hid (fitB_eq x n)
  clear hc hns hnb hk1 hk2 hk3 ih hc2 hks2 hx hg p3 p4 p5 p6
  unfold shapeV
  unfold nodeV at *
  by_cases hkk : x.kind ≠ 0 ∧ n.kind ≠ x.kind
  · have b1 : (x.kind != 0) = true := by simpa using hkk.1
    have b2 : (n.kind != x.kind) = true := by simpa using hkk.2
    have Hff : Hid (fitB x n = false) := Lib.hid (by rw [Hf.out]; simp [hkk.1, hkk.2])
    clear hkk
    go_enter Try.func63, Try.ntmps63
    go_wp2_with fail
    go_ret
    exact ⟨by simp [Hff.out], (by repeat (first | with_reducible exact Ext.refl _ _ | with_reducible refine Ext.trans ?_ (by assumption) | with_reducible refine Ext.drew ?_ | with_reducible refine Ext.drewN ?_ _ | with_reducible refine Ext.alloc ?_ _ | with_reducible refine Ext.setNew ?_ (by simp; done) _ | with_reducible refine Ext.setNew ?_ (by simp; omega) _))⟩
  have Hff : Hid (fitB x n = fitL x.names x.needs x.kids n) := Lib.hid (by
    rw [Hf.out]
    by_cases h0 : x.kind = 0
    · simp [h0]
    · have : n.kind = x.kind := by by_cases h : n.kind = x.kind; exact h; exact absurd ⟨h0, h⟩ hkk
      simp [this])
  have hw : (x.kind != 0) = false ∨ ((x.kind != 0) = true ∧ (n.kind != x.kind) = false) := by
    by_cases h0 : x.kind = 0
    · left; simp [h0]
    · right; simp [h0]; by_cases h : n.kind = x.kind; exact h; exact absurd ⟨h0, h⟩ hkk
  have HW := Lib.hid hw
  have HK : Hid (0 < x.names.length → n.kind = 4) := Lib.hid (by
    intro h
    have : x.kind = 4 := by have := P6.out; omega
    rcases hw with hw | ⟨_, hw⟩
    · rw [this] at hw; simp at hw
    · simp at hw; omega)
  clear hkk hw
  rcases HW.out with b1 | ⟨b1, b2⟩
  · go_enter Try.func63, Try.ntmps63
    go_wp2_with fail
    clear b1
    go_loopw [4, 5] (fun t4 i wr => t4 = .bool false ∧ Grow w wr ∧ BoxN wr w.heap.size (shapeL' x na nc ba bc ka kc) ∧ BoxN wr (w.heap.size + 1) (nodeL n na2 nc2 ka2 kc2) ∧ ∃ k : Nat, k ≤ x.names.length ∧ i = .int .i64 k ∧ fitL x.names x.needs x.kids n = fitL (x.names.drop k) (x.needs.drop k) (x.kids.drop k) n) (fun _ i _ => x.names.length - (intOf i).toNat)
    case atStart => exact ⟨rfl, (by repeat (first | with_reducible exact Ext.refl _ _ | with_reducible refine Ext.trans ?_ (by assumption) | with_reducible refine Ext.drew ?_ | with_reducible refine Ext.drewN ?_ _ | with_reducible refine Ext.alloc ?_ _ | with_reducible refine Ext.setNew ?_ (by simp; done) _ | with_reducible refine Ext.setNew ?_ (by simp; omega) _)), (BoxN.new w (shapeL' x na nc ba bc ka kc) _).grow ((Ext.refl nil _).alloc _), BoxN.new1 w _ (nodeL n na2 nc2 ka2 kc2) _, 0, Nat.zero_le _, rfl, rfl⟩
    case round =>
      obtain ⟨rfl, hg0, B1, B2, k, hk, rfl, hs⟩ := hrel
      have Hs := Lib.hid hs
      clear hs
      have q1 := B1.cell 1 _ rfl
      have q2 := B1.cell 2 _ rfl
      have q3 := B1.cell 3 _ rfl
      have r0 := B2.cell 0 _ rfl
      have r1 := B2.cell 1 _ rfl
      have r2 := B2.cell 2 _ rfl
      have r3 := B2.cell 3 _ rfl
      have r4 := B2.cell 4 _ rfl
      have HB1 := Lib.hid B1
      have HB2 := Lib.hid B2
      clear B1 B2
      by_cases hlt : k < x.names.length
      · have hlb : k < x.needs.length := by have := P4.out; omega
        have hlk : k < x.kids.length := by have := P5.out; omega
        have hst := fitL_step (ns := x.names) (bs := x.needs) (ks := x.kids) n hlt hlb hlk
        have hk4 := HK.out (by omega)
        have hpl := place_map Hg.out hk4 x.names[k]
        rcases ((Hns.out).ext hg0 (fun _ _ h => h)).2.2.2 with hh | ⟨b1, o1, rfl, _, hc1⟩
        · rw [hh] at hlt; simp at hlt
        rcases ((Hnb.out).ext hg0 (fun _ _ h => h)).2.2 with hh | ⟨b2, o2, rfl, _, hc2⟩
        · rw [hh] at hlb; simp at hlb
        rcases Hk3.out with hh | ⟨b3, o3, rfl, _, hkr⟩
        · rw [hh] at hlk; simp at hlk
        have cn := hc1 k hlt
        have cb := hc2 k hlb
        obtain ⟨na', nc', ba', bc', ka', kc', d0, d1, d2, d3, hkc⟩ := (hkr.ext hg0 (fun _ _ h => h) (fun h => h)).get k hlk
        have Hkc : Hid (ShapeR wr any x.kids[k] (shapeV x.kids[k] na' nc' ba' bc' ka' kc')) := Lib.hid ⟨_, _, _, _, _, _, rfl, hkc⟩
        have HM : Hid (n.kind = 4 → n.kids.length ≤ n.names.length) := Lib.hid (fun h => by rw [(Hg.out.map h).2]; exact Nat.le_refl _)
        cases hm : mem n.names x.names[k]
        · have Hpl : Hid (placeOf n x.names[k] = -1) := Lib.hid (by rw [hpl, hm]; rfl)
          rw [hm] at hst
          have Hst : Hid (fitL (x.names.drop k) (x.needs.drop k) (x.kids.drop k) n = (!x.needs[k] && fitL (x.names.drop (k + 1)) (x.needs.drop (k + 1)) (x.kids.drop (k + 1)) n)) := Lib.hid (by rw [hst]; rfl)
          clear hst hpl hk4 hm hkc hkr hc1 hc2
          cases hb : x.needs[k]
          · rw [hb] at cb
            have Hb := Lib.hid hb
            clear hb
            go_wp2_with fail
            (refine wp_region_later (by kernel_rfl) (by kernel_rfl) ?_; (repeat (first | go_big_quiet_step ((go_at_call 135; exact later_call (by simpa only [Hpl.out] using place_ok n x.names[k] _ _ HM.out (by omega) (Hu.out.grow (hg0.trans (later_grow _ _)))))) | quiet_step ((go_at_call 135; exact later_call (by simpa only [Hpl.out] using place_ok n x.names[k] _ _ HM.out (by omega) (Hu.out.grow (hg0.trans (later_grow _ _)))))))); refine wpQuiet_nil ?_; rintro _ ⟨x_w2, rfl⟩; have hg_w2 := later_grow wr x_w2; generalize later wr x_w2 = w2 at hg_w2 ⊢)
            (replace q1 := hg_w2.some q1; replace q2 := hg_w2.some q2; replace q3 := hg_w2.some q3; replace cb := hg_w2.some cb)
            go_wp2_with fail
            (refine wp_region_later (by kernel_rfl) (by kernel_rfl) ?_; (repeat (first | go_big_quiet_step (fail) | quiet_step (fail))); refine wpQuiet_nil ?_; rintro _ ⟨x_w3, rfl⟩; have hg_w3 := later_grow w2 x_w3; generalize later w2 x_w3 = w3 at hg_w3 ⊢)
            go_wp2_with fail
            go_roundw
            case rel => exact ⟨rfl, (by repeat (first | with_reducible exact Ext.refl _ _ | with_reducible refine Ext.trans ?_ (by assumption) | with_reducible refine Ext.drew ?_ | with_reducible refine Ext.drewN ?_ _ | with_reducible refine Ext.alloc ?_ _ | with_reducible refine Ext.setNew ?_ (by simp; done) _ | with_reducible refine Ext.setNew ?_ (by simp; omega) _)), HB1.out.grow (by repeat (first | with_reducible exact Ext.refl _ _ | with_reducible refine Ext.trans ?_ (by assumption) | with_reducible refine Ext.drew ?_ | with_reducible refine Ext.drewN ?_ _ | with_reducible refine Ext.alloc ?_ _ | with_reducible refine Ext.setNew ?_ (by simp; done) _ | with_reducible refine Ext.setNew ?_ (by simp; omega) _)), HB2.out.grow (by repeat (first | with_reducible exact Ext.refl _ _ | with_reducible refine Ext.trans ?_ (by assumption) | with_reducible refine Ext.drew ?_ | with_reducible refine Ext.drewN ?_ _ | with_reducible refine Ext.alloc ?_ _ | with_reducible refine Ext.setNew ?_ (by simp; done) _ | with_reducible refine Ext.setNew ?_ (by simp; omega) _)), k + 1, by omega, by go_num, by rw [Hs.out, Hst.out, Hb.out]; rfl⟩
            case measure => simp [intOf]; omega
          · rw [hb] at cb
            have Hb := Lib.hid hb
            clear hb
            go_wp2_with fail
            (refine wp_region_later (by kernel_rfl) (by kernel_rfl) ?_; (repeat (first | go_big_quiet_step ((go_at_call 135; exact later_call (by simpa only [Hpl.out] using place_ok n x.names[k] _ _ HM.out (by omega) (Hu.out.grow (hg0.trans (later_grow _ _)))))) | quiet_step ((go_at_call 135; exact later_call (by simpa only [Hpl.out] using place_ok n x.names[k] _ _ HM.out (by omega) (Hu.out.grow (hg0.trans (later_grow _ _)))))))); refine wpQuiet_nil ?_; rintro _ ⟨x_w2, rfl⟩; have hg_w2 := later_grow wr x_w2; generalize later wr x_w2 = w2 at hg_w2 ⊢)
            (replace q1 := hg_w2.some q1; replace q2 := hg_w2.some q2; replace q3 := hg_w2.some q3; replace cb := hg_w2.some cb)
            go_wp2_with fail
            (refine wp_region_later (by kernel_rfl) (by kernel_rfl) ?_; (repeat (first | go_big_quiet_step (fail) | quiet_step (fail))); refine wpQuiet_nil ?_; rintro _ ⟨x_w3, rfl⟩; have hg_w3 := later_grow w2 x_w3; generalize later w2 x_w3 = w3 at hg_w3 ⊢)
            go_wp2_with fail
            go_ret
            exact ⟨by rw [Hff.out, Hs.out, Hst.out, Hb.out]; rfl, (by repeat (first | with_reducible exact Ext.refl _ _ | with_reducible refine Ext.trans ?_ (by assumption) | with_reducible refine Ext.drew ?_ | with_reducible refine Ext.drewN ?_ _ | with_reducible refine Ext.alloc ?_ _ | with_reducible refine Ext.setNew ?_ (by simp; done) _ | with_reducible refine Ext.setNew ?_ (by simp; omega) _))⟩
        · obtain ⟨qq1, qq2⟩ := lb_lt Hg.out.asc hm
          obtain ⟨lb, hl3, hlb', hkid⟩ : ∃ (lb : Nat) (h : lb < n.kids.length), lb = lbound n.names x.names[k] ∧ kidOf n x.names[k] = n.kids[lb] := ⟨_, by have := Hg.out.len; omega, rfl, kidOf_yes hm (by have := Hg.out.len; omega)⟩
          have Hpl : Hid (placeOf n x.names[k] = (lb : Int)) := Lib.hid (by rw [hpl, hm, hlb']; rfl)
          rw [hm, hkid] at hst
          have Hst : Hid (fitL (x.names.drop k) (x.needs.drop k) (x.kids.drop k) n = (fitB x.kids[k] n.kids[lb] && fitL (x.names.drop (k + 1)) (x.needs.drop (k + 1)) (x.kids.drop (k + 1)) n)) := Lib.hid (by rw [hst]; rfl)
          have Hgk : Hid (Good n.kids[lb]) := Lib.hid (Hg.out.kid (List.getElem_mem _))
          rcases ((Hks2.out).ext hg0 (fun _ _ h => h)).2.2 with hh | ⟨b5, o5, rfl, _, hkr5⟩
          · rw [hh] at hl3; simp at hl3
          obtain ⟨na5, nc5, ka5, kc5, e0, e1, e2, e3, e4, hkc5⟩ := hkr5.get lb hl3
          have Hk5 : Hid (NodeR wr any n.kids[lb] (nodeV n.kids[lb] na5 nc5 ka5 kc5)) := Lib.hid ⟨_, _, _, _, rfl, hkc5⟩
          clear hst hpl hk4 hm hkc hkr hc1 hc2 hkc5 hkr5 hkid hlb' qq1 qq2
          cases hb : fitB x.kids[k] n.kids[lb]
          · have Hb := Lib.hid hb
            clear hb
            go_wp2_with fail
            (refine wp_region_later (by kernel_rfl) (by kernel_rfl) ?_; (repeat (first | go_big_quiet_step ((go_at_call 135; exact later_call (by simpa only [Hpl.out] using place_ok n x.names[k] _ _ HM.out (by omega) (Hu.out.grow (hg0.trans (later_grow _ _)))))) | quiet_step ((go_at_call 135; exact later_call (by simpa only [Hpl.out] using place_ok n x.names[k] _ _ HM.out (by omega) (Hu.out.grow (hg0.trans (later_grow _ _)))))))); refine wpQuiet_nil ?_; rintro _ ⟨x_w2, rfl⟩; have hg_w2 := later_grow wr x_w2; generalize later wr x_w2 = w2 at hg_w2 ⊢)
            (replace q1 := hg_w2.some q1; replace q2 := hg_w2.some q2; replace q3 := hg_w2.some q3; replace r4 := hg_w2.some r4; replace cn := hg_w2.some cn; replace cb := hg_w2.some cb; replace d0 := hg_w2.some d0; replace d1 := hg_w2.some d1; replace d2 := hg_w2.some d2; replace d3 := hg_w2.some d3; replace e0 := hg_w2.some e0; replace e1 := hg_w2.some e1; replace e2 := hg_w2.some e2; replace e3 := hg_w2.some e3; replace e4 := hg_w2.some e4)
            go_wp2_with fail
            (refine wp_region_later (by kernel_rfl) (by kernel_rfl) ?_; (repeat (first | go_big_quiet_step ((go_at_call 63; exact later_call (v := .bool false) ((Ih.out _ (List.getElem_mem hlk) n.kids[lb] _ _ _ (Hx.out.kid (List.getElem_mem hlk)) Hgk.out (Hkc.out.grow (hg_w2.trans (later_grow _ _))) (Hk5.out.grow (hg_w2.trans (later_grow _ _)))).mono (fun e w' h => ⟨by rw [h.1, Hb.out], h.2⟩)))) | quiet_step ((go_at_call 63; exact later_call (v := .bool false) ((Ih.out _ (List.getElem_mem hlk) n.kids[lb] _ _ _ (Hx.out.kid (List.getElem_mem hlk)) Hgk.out (Hkc.out.grow (hg_w2.trans (later_grow _ _))) (Hk5.out.grow (hg_w2.trans (later_grow _ _)))).mono (fun e w' h => ⟨by rw [h.1, Hb.out], h.2⟩)))))); refine wpQuiet_nil ?_; rintro _ ⟨x_w3, rfl⟩; have hg_w3 := later_grow w2 x_w3; generalize later w2 x_w3 = w3 at hg_w3 ⊢)
            go_wp2_with fail
            go_ret
            exact ⟨by rw [Hff.out, Hs.out, Hst.out, Hb.out]; rfl, (by repeat (first | with_reducible exact Ext.refl _ _ | with_reducible refine Ext.trans ?_ (by assumption) | with_reducible refine Ext.drew ?_ | with_reducible refine Ext.drewN ?_ _ | with_reducible refine Ext.alloc ?_ _ | with_reducible refine Ext.setNew ?_ (by simp; done) _ | with_reducible refine Ext.setNew ?_ (by simp; omega) _))⟩
          · have Hb := Lib.hid hb
            clear hb
            go_wp2_with fail
            (refine wp_region_later (by kernel_rfl) (by kernel_rfl) ?_; (repeat (first | go_big_quiet_step ((go_at_call 135; exact later_call (by simpa only [Hpl.out] using place_ok n x.names[k] _ _ HM.out (by omega) (Hu.out.grow (hg0.trans (later_grow _ _)))))) | quiet_step ((go_at_call 135; exact later_call (by simpa only [Hpl.out] using place_ok n x.names[k] _ _ HM.out (by omega) (Hu.out.grow (hg0.trans (later_grow _ _)))))))); refine wpQuiet_nil ?_; rintro _ ⟨x_w2, rfl⟩; have hg_w2 := later_grow wr x_w2; generalize later wr x_w2 = w2 at hg_w2 ⊢)
            (replace q1 := hg_w2.some q1; replace q2 := hg_w2.some q2; replace q3 := hg_w2.some q3; replace r4 := hg_w2.some r4; replace cn := hg_w2.some cn; replace cb := hg_w2.some cb; replace d0 := hg_w2.some d0; replace d1 := hg_w2.some d1; replace d2 := hg_w2.some d2; replace d3 := hg_w2.some d3; replace e0 := hg_w2.some e0; replace e1 := hg_w2.some e1; replace e2 := hg_w2.some e2; replace e3 := hg_w2.some e3; replace e4 := hg_w2.some e4)
            go_wp2_with fail
            (refine wp_region_later (by kernel_rfl) (by kernel_rfl) ?_; (repeat (first | go_big_quiet_step ((go_at_call 63; exact later_call (v := .bool true) ((Ih.out _ (List.getElem_mem hlk) n.kids[lb] _ _ _ (Hx.out.kid (List.getElem_mem hlk)) Hgk.out (Hkc.out.grow (hg_w2.trans (later_grow _ _))) (Hk5.out.grow (hg_w2.trans (later_grow _ _)))).mono (fun e w' h => ⟨by rw [h.1, Hb.out], h.2⟩)))) | quiet_step ((go_at_call 63; exact later_call (v := .bool true) ((Ih.out _ (List.getElem_mem hlk) n.kids[lb] _ _ _ (Hx.out.kid (List.getElem_mem hlk)) Hgk.out (Hkc.out.grow (hg_w2.trans (later_grow _ _))) (Hk5.out.grow (hg_w2.trans (later_grow _ _)))).mono (fun e w' h => ⟨by rw [h.1, Hb.out], h.2⟩)))))); refine wpQuiet_nil ?_; rintro _ ⟨x_w3, rfl⟩; have hg_w3 := later_grow w2 x_w3; generalize later w2 x_w3 = w3 at hg_w3 ⊢)
            go_wp2_with fail
            go_roundw
            case rel => exact ⟨rfl, (by repeat (first | with_reducible exact Ext.refl _ _ | with_reducible refine Ext.trans ?_ (by assumption) | with_reducible refine Ext.drew ?_ | with_reducible refine Ext.drewN ?_ _ | with_reducible refine Ext.alloc ?_ _ | with_reducible refine Ext.setNew ?_ (by simp; done) _ | with_reducible refine Ext.setNew ?_ (by simp; omega) _)), HB1.out.grow (by repeat (first | with_reducible exact Ext.refl _ _ | with_reducible refine Ext.trans ?_ (by assumption) | with_reducible refine Ext.drew ?_ | with_reducible refine Ext.drewN ?_ _ | with_reducible refine Ext.alloc ?_ _ | with_reducible refine Ext.setNew ?_ (by simp; done) _ | with_reducible refine Ext.setNew ?_ (by simp; omega) _)), HB2.out.grow (by repeat (first | with_reducible exact Ext.refl _ _ | with_reducible refine Ext.trans ?_ (by assumption) | with_reducible refine Ext.drew ?_ | with_reducible refine Ext.drewN ?_ _ | with_reducible refine Ext.alloc ?_ _ | with_reducible refine Ext.setNew ?_ (by simp; done) _ | with_reducible refine Ext.setNew ?_ (by simp; omega) _)), k + 1, by omega, by go_num, by rw [Hs.out, Hst.out, Hb.out]; rfl⟩
            case measure => simp [intOf]; omega
      · go_wp2_with fail
        go_ret
        exact ⟨by rw [Hff.out, Hs.out, fitL_end n hlt]; rfl, hg0⟩
  · go_enter Try.func63, Try.ntmps63
    go_wp2_with fail
    clear b1
    go_loopw [4, 5] (fun t4 i wr => t4 = .bool false ∧ Grow w wr ∧ BoxN wr w.heap.size (shapeL' x na nc ba bc ka kc) ∧ BoxN wr (w.heap.size + 1) (nodeL n na2 nc2 ka2 kc2) ∧ ∃ k : Nat, k ≤ x.names.length ∧ i = .int .i64 k ∧ fitL x.names x.needs x.kids n = fitL (x.names.drop k) (x.needs.drop k) (x.kids.drop k) n) (fun _ i _ => x.names.length - (intOf i).toNat)
    case atStart => exact ⟨rfl, (by repeat (first | with_reducible exact Ext.refl _ _ | with_reducible refine Ext.trans ?_ (by assumption) | with_reducible refine Ext.drew ?_ | with_reducible refine Ext.drewN ?_ _ | with_reducible refine Ext.alloc ?_ _ | with_reducible refine Ext.setNew ?_ (by simp; done) _ | with_reducible refine Ext.setNew ?_ (by simp; omega) _)), (BoxN.new w (shapeL' x na nc ba bc ka kc) _).grow ((Ext.refl nil _).alloc _), BoxN.new1 w _ (nodeL n na2 nc2 ka2 kc2) _, 0, Nat.zero_le _, rfl, rfl⟩
    case round =>
      obtain ⟨rfl, hg0, B1, B2, k, hk, rfl, hs⟩ := hrel
      have Hs := Lib.hid hs
      clear hs
      have q1 := B1.cell 1 _ rfl
      have q2 := B1.cell 2 _ rfl
      have q3 := B1.cell 3 _ rfl
      have r0 := B2.cell 0 _ rfl
      have r1 := B2.cell 1 _ rfl
      have r2 := B2.cell 2 _ rfl
      have r3 := B2.cell 3 _ rfl
      have r4 := B2.cell 4 _ rfl
      have HB1 := Lib.hid B1
      have HB2 := Lib.hid B2
      clear B1 B2
      by_cases hlt : k < x.names.length
      · have hlb : k < x.needs.length := by have := P4.out; omega
        have hlk : k < x.kids.length := by have := P5.out; omega
        have hst := fitL_step (ns := x.names) (bs := x.needs) (ks := x.kids) n hlt hlb hlk
        have hk4 := HK.out (by omega)
        have hpl := place_map Hg.out hk4 x.names[k]
        rcases ((Hns.out).ext hg0 (fun _ _ h => h)).2.2.2 with hh | ⟨b1, o1, rfl, _, hc1⟩
        · rw [hh] at hlt; simp at hlt
        rcases ((Hnb.out).ext hg0 (fun _ _ h => h)).2.2 with hh | ⟨b2, o2, rfl, _, hc2⟩
        · rw [hh] at hlb; simp at hlb
        rcases Hk3.out with hh | ⟨b3, o3, rfl, _, hkr⟩
        · rw [hh] at hlk; simp at hlk
        have cn := hc1 k hlt
        have cb := hc2 k hlb
        obtain ⟨na', nc', ba', bc', ka', kc', d0, d1, d2, d3, hkc⟩ := (hkr.ext hg0 (fun _ _ h => h) (fun h => h)).get k hlk
        have Hkc : Hid (ShapeR wr any x.kids[k] (shapeV x.kids[k] na' nc' ba' bc' ka' kc')) := Lib.hid ⟨_, _, _, _, _, _, rfl, hkc⟩
        have HM : Hid (n.kind = 4 → n.kids.length ≤ n.names.length) := Lib.hid (fun h => by rw [(Hg.out.map h).2]; exact Nat.le_refl _)
        cases hm : mem n.names x.names[k]
        · have Hpl : Hid (placeOf n x.names[k] = -1) := Lib.hid (by rw [hpl, hm]; rfl)
          rw [hm] at hst
          have Hst : Hid (fitL (x.names.drop k) (x.needs.drop k) (x.kids.drop k) n = (!x.needs[k] && fitL (x.names.drop (k + 1)) (x.needs.drop (k + 1)) (x.kids.drop (k + 1)) n)) := Lib.hid (by rw [hst]; rfl)
          clear hst hpl hk4 hm hkc hkr hc1 hc2
          cases hb : x.needs[k]
          · rw [hb] at cb
            have Hb := Lib.hid hb
            clear hb
            go_wp2_with fail
            (refine wp_region_later (by kernel_rfl) (by kernel_rfl) ?_; (repeat (first | go_big_quiet_step ((go_at_call 135; exact later_call (by simpa only [Hpl.out] using place_ok n x.names[k] _ _ HM.out (by omega) (Hu.out.grow (hg0.trans (later_grow _ _)))))) | quiet_step ((go_at_call 135; exact later_call (by simpa only [Hpl.out] using place_ok n x.names[k] _ _ HM.out (by omega) (Hu.out.grow (hg0.trans (later_grow _ _)))))))); refine wpQuiet_nil ?_; rintro _ ⟨x_w2, rfl⟩; have hg_w2 := later_grow wr x_w2; generalize later wr x_w2 = w2 at hg_w2 ⊢)
            (replace q1 := hg_w2.some q1; replace q2 := hg_w2.some q2; replace q3 := hg_w2.some q3; replace cb := hg_w2.some cb)
            go_wp2_with fail
            (refine wp_region_later (by kernel_rfl) (by kernel_rfl) ?_; (repeat (first | go_big_quiet_step (fail) | quiet_step (fail))); refine wpQuiet_nil ?_; rintro _ ⟨x_w3, rfl⟩; have hg_w3 := later_grow w2 x_w3; generalize later w2 x_w3 = w3 at hg_w3 ⊢)
            go_wp2_with fail
            go_roundw
            case rel => exact ⟨rfl, (by repeat (first | with_reducible exact Ext.refl _ _ | with_reducible refine Ext.trans ?_ (by assumption) | with_reducible refine Ext.drew ?_ | with_reducible refine Ext.drewN ?_ _ | with_reducible refine Ext.alloc ?_ _ | with_reducible refine Ext.setNew ?_ (by simp; done) _ | with_reducible refine Ext.setNew ?_ (by simp; omega) _)), HB1.out.grow (by repeat (first | with_reducible exact Ext.refl _ _ | with_reducible refine Ext.trans ?_ (by assumption) | with_reducible refine Ext.drew ?_ | with_reducible refine Ext.drewN ?_ _ | with_reducible refine Ext.alloc ?_ _ | with_reducible refine Ext.setNew ?_ (by simp; done) _ | with_reducible refine Ext.setNew ?_ (by simp; omega) _)), HB2.out.grow (by repeat (first | with_reducible exact Ext.refl _ _ | with_reducible refine Ext.trans ?_ (by assumption) | with_reducible refine Ext.drew ?_ | with_reducible refine Ext.drewN ?_ _ | with_reducible refine Ext.alloc ?_ _ | with_reducible refine Ext.setNew ?_ (by simp; done) _ | with_reducible refine Ext.setNew ?_ (by simp; omega) _)), k + 1, by omega, by go_num, by rw [Hs.out, Hst.out, Hb.out]; rfl⟩
            case measure => simp [intOf]; omega
          · rw [hb] at cb
            have Hb := Lib.hid hb
            clear hb
            go_wp2_with fail
            (refine wp_region_later (by kernel_rfl) (by kernel_rfl) ?_; (repeat (first | go_big_quiet_step ((go_at_call 135; exact later_call (by simpa only [Hpl.out] using place_ok n x.names[k] _ _ HM.out (by omega) (Hu.out.grow (hg0.trans (later_grow _ _)))))) | quiet_step ((go_at_call 135; exact later_call (by simpa only [Hpl.out] using place_ok n x.names[k] _ _ HM.out (by omega) (Hu.out.grow (hg0.trans (later_grow _ _)))))))); refine wpQuiet_nil ?_; rintro _ ⟨x_w2, rfl⟩; have hg_w2 := later_grow wr x_w2; generalize later wr x_w2 = w2 at hg_w2 ⊢)
            (replace q1 := hg_w2.some q1; replace q2 := hg_w2.some q2; replace q3 := hg_w2.some q3; replace cb := hg_w2.some cb)
            go_wp2_with fail
            (refine wp_region_later (by kernel_rfl) (by kernel_rfl) ?_; (repeat (first | go_big_quiet_step (fail) | quiet_step (fail))); refine wpQuiet_nil ?_; rintro _ ⟨x_w3, rfl⟩; have hg_w3 := later_grow w2 x_w3; generalize later w2 x_w3 = w3 at hg_w3 ⊢)
            go_wp2_with fail
            go_ret
            exact ⟨by rw [Hff.out, Hs.out, Hst.out, Hb.out]; rfl, (by repeat (first | with_reducible exact Ext.refl _ _ | with_reducible refine Ext.trans ?_ (by assumption) | with_reducible refine Ext.drew ?_ | with_reducible refine Ext.drewN ?_ _ | with_reducible refine Ext.alloc ?_ _ | with_reducible refine Ext.setNew ?_ (by simp; done) _ | with_reducible refine Ext.setNew ?_ (by simp; omega) _))⟩
        · obtain ⟨qq1, qq2⟩ := lb_lt Hg.out.asc hm
          obtain ⟨lb, hl3, hlb', hkid⟩ : ∃ (lb : Nat) (h : lb < n.kids.length), lb = lbound n.names x.names[k] ∧ kidOf n x.names[k] = n.kids[lb] := ⟨_, by have := Hg.out.len; omega, rfl, kidOf_yes hm (by have := Hg.out.len; omega)⟩
          have Hpl : Hid (placeOf n x.names[k] = (lb : Int)) := Lib.hid (by rw [hpl, hm, hlb']; rfl)
          rw [hm, hkid] at hst
          have Hst : Hid (fitL (x.names.drop k) (x.needs.drop k) (x.kids.drop k) n = (fitB x.kids[k] n.kids[lb] && fitL (x.names.drop (k + 1)) (x.needs.drop (k + 1)) (x.kids.drop (k + 1)) n)) := Lib.hid (by rw [hst]; rfl)
          have Hgk : Hid (Good n.kids[lb]) := Lib.hid (Hg.out.kid (List.getElem_mem _))
          rcases ((Hks2.out).ext hg0 (fun _ _ h => h)).2.2 with hh | ⟨b5, o5, rfl, _, hkr5⟩
          · rw [hh] at hl3; simp at hl3
          obtain ⟨na5, nc5, ka5, kc5, e0, e1, e2, e3, e4, hkc5⟩ := hkr5.get lb hl3
          have Hk5 : Hid (NodeR wr any n.kids[lb] (nodeV n.kids[lb] na5 nc5 ka5 kc5)) := Lib.hid ⟨_, _, _, _, rfl, hkc5⟩
          clear hst hpl hk4 hm hkc hkr hc1 hc2 hkc5 hkr5 hkid hlb' qq1 qq2
          cases hb : fitB x.kids[k] n.kids[lb]
          · have Hb := Lib.hid hb
            clear hb
            go_wp2_with fail
            (refine wp_region_later (by kernel_rfl) (by kernel_rfl) ?_; (repeat (first | go_big_quiet_step ((go_at_call 135; exact later_call (by simpa only [Hpl.out] using place_ok n x.names[k] _ _ HM.out (by omega) (Hu.out.grow (hg0.trans (later_grow _ _)))))) | quiet_step ((go_at_call 135; exact later_call (by simpa only [Hpl.out] using place_ok n x.names[k] _ _ HM.out (by omega) (Hu.out.grow (hg0.trans (later_grow _ _)))))))); refine wpQuiet_nil ?_; rintro _ ⟨x_w2, rfl⟩; have hg_w2 := later_grow wr x_w2; generalize later wr x_w2 = w2 at hg_w2 ⊢)
            (replace q1 := hg_w2.some q1; replace q2 := hg_w2.some q2; replace q3 := hg_w2.some q3; replace r4 := hg_w2.some r4; replace cn := hg_w2.some cn; replace cb := hg_w2.some cb; replace d0 := hg_w2.some d0; replace d1 := hg_w2.some d1; replace d2 := hg_w2.some d2; replace d3 := hg_w2.some d3; replace e0 := hg_w2.some e0; replace e1 := hg_w2.some e1; replace e2 := hg_w2.some e2; replace e3 := hg_w2.some e3; replace e4 := hg_w2.some e4)
            go_wp2_with fail
            (refine wp_region_later (by kernel_rfl) (by kernel_rfl) ?_; (repeat (first | go_big_quiet_step ((go_at_call 63; exact later_call (v := .bool false) ((Ih.out _ (List.getElem_mem hlk) n.kids[lb] _ _ _ (Hx.out.kid (List.getElem_mem hlk)) Hgk.out (Hkc.out.grow (hg_w2.trans (later_grow _ _))) (Hk5.out.grow (hg_w2.trans (later_grow _ _)))).mono (fun e w' h => ⟨by rw [h.1, Hb.out], h.2⟩)))) | quiet_step ((go_at_call 63; exact later_call (v := .bool false) ((Ih.out _ (List.getElem_mem hlk) n.kids[lb] _ _ _ (Hx.out.kid (List.getElem_mem hlk)) Hgk.out (Hkc.out.grow (hg_w2.trans (later_grow _ _))) (Hk5.out.grow (hg_w2.trans (later_grow _ _)))).mono (fun e w' h => ⟨by rw [h.1, Hb.out], h.2⟩)))))); refine wpQuiet_nil ?_; rintro _ ⟨x_w3, rfl⟩; have hg_w3 := later_grow w2 x_w3; generalize later w2 x_w3 = w3 at hg_w3 ⊢)
            go_wp2_with fail
            go_ret
            exact ⟨by rw [Hff.out, Hs.out, Hst.out, Hb.out]; rfl, (by repeat (first | with_reducible exact Ext.refl _ _ | with_reducible refine Ext.trans ?_ (by assumption) | with_reducible refine Ext.drew ?_ | with_reducible refine Ext.drewN ?_ _ | with_reducible refine Ext.alloc ?_ _ | with_reducible refine Ext.setNew ?_ (by simp; done) _ | with_reducible refine Ext.setNew ?_ (by simp; omega) _))⟩
          · have Hb := Lib.hid hb
            clear hb
            go_wp2_with fail
            (refine wp_region_later (by kernel_rfl) (by kernel_rfl) ?_; (repeat (first | go_big_quiet_step ((go_at_call 135; exact later_call (by simpa only [Hpl.out] using place_ok n x.names[k] _ _ HM.out (by omega) (Hu.out.grow (hg0.trans (later_grow _ _)))))) | quiet_step ((go_at_call 135; exact later_call (by simpa only [Hpl.out] using place_ok n x.names[k] _ _ HM.out (by omega) (Hu.out.grow (hg0.trans (later_grow _ _)))))))); refine wpQuiet_nil ?_; rintro _ ⟨x_w2, rfl⟩; have hg_w2 := later_grow wr x_w2; generalize later wr x_w2 = w2 at hg_w2 ⊢)
            (replace q1 := hg_w2.some q1; replace q2 := hg_w2.some q2; replace q3 := hg_w2.some q3; replace r4 := hg_w2.some r4; replace cn := hg_w2.some cn; replace cb := hg_w2.some cb; replace d0 := hg_w2.some d0; replace d1 := hg_w2.some d1; replace d2 := hg_w2.some d2; replace d3 := hg_w2.some d3; replace e0 := hg_w2.some e0; replace e1 := hg_w2.some e1; replace e2 := hg_w2.some e2; replace e3 := hg_w2.some e3; replace e4 := hg_w2.some e4)
            go_wp2_with fail
            (refine wp_region_later (by kernel_rfl) (by kernel_rfl) ?_; (repeat (first | go_big_quiet_step ((go_at_call 63; exact later_call (v := .bool true) ((Ih.out _ (List.getElem_mem hlk) n.kids[lb] _ _ _ (Hx.out.kid (List.getElem_mem hlk)) Hgk.out (Hkc.out.grow (hg_w2.trans (later_grow _ _))) (Hk5.out.grow (hg_w2.trans (later_grow _ _)))).mono (fun e w' h => ⟨by rw [h.1, Hb.out], h.2⟩)))) | quiet_step ((go_at_call 63; exact later_call (v := .bool true) ((Ih.out _ (List.getElem_mem hlk) n.kids[lb] _ _ _ (Hx.out.kid (List.getElem_mem hlk)) Hgk.out (Hkc.out.grow (hg_w2.trans (later_grow _ _))) (Hk5.out.grow (hg_w2.trans (later_grow _ _)))).mono (fun e w' h => ⟨by rw [h.1, Hb.out], h.2⟩)))))); refine wpQuiet_nil ?_; rintro _ ⟨x_w3, rfl⟩; have hg_w3 := later_grow w2 x_w3; generalize later w2 x_w3 = w3 at hg_w3 ⊢)
            go_wp2_with fail
            go_roundw
            case rel => exact ⟨rfl, (by repeat (first | with_reducible exact Ext.refl _ _ | with_reducible refine Ext.trans ?_ (by assumption) | with_reducible refine Ext.drew ?_ | with_reducible refine Ext.drewN ?_ _ | with_reducible refine Ext.alloc ?_ _ | with_reducible refine Ext.setNew ?_ (by simp; done) _ | with_reducible refine Ext.setNew ?_ (by simp; omega) _)), HB1.out.grow (by repeat (first | with_reducible exact Ext.refl _ _ | with_reducible refine Ext.trans ?_ (by assumption) | with_reducible refine Ext.drew ?_ | with_reducible refine Ext.drewN ?_ _ | with_reducible refine Ext.alloc ?_ _ | with_reducible refine Ext.setNew ?_ (by simp; done) _ | with_reducible refine Ext.setNew ?_ (by simp; omega) _)), HB2.out.grow (by repeat (first | with_reducible exact Ext.refl _ _ | with_reducible refine Ext.trans ?_ (by assumption) | with_reducible refine Ext.drew ?_ | with_reducible refine Ext.drewN ?_ _ | with_reducible refine Ext.alloc ?_ _ | with_reducible refine Ext.setNew ?_ (by simp; done) _ | with_reducible refine Ext.setNew ?_ (by simp; omega) _)), k + 1, by omega, by go_num, by rw [Hs.out, Hst.out, Hb.out]; rfl⟩
            case measure => simp [intOf]; omega
      · go_wp2_with fail
        go_ret
        exact ⟨by rw [Hff.out, Hs.out, fitL_end n hlt]; rfl, hg0⟩
theorem fits_ok : ∀ x, FitsOk x := Shp.ind' FitsOk fits_of
end Go.Proofs.Ytgfnmhfdmmnaoaa
namespace Go.Proofs.Ytgfnmhfdmmnaoaa
open Go.RowKit
def sgnI (a b : Int) : Int := if a < b then -1 else if b < a then 1 else 0
def sgnT (a b : ByteArray) : Int := if lt a b then -1 else if lt b a then 1 else 0
end Go.Proofs.Ytgfnmhfdmmnaoaa
namespace Go.Proofs.Ytgfnmhfdmmnaoaa
open Go.RowKit
mutual
def cmpN : Nd → Nd → Int
  | ⟨kind, num, text, names, kids⟩, b =>
    if sgnI kind b.kind ≠ 0 then sgnI kind b.kind else if sgnI num b.num ≠ 0 then sgnI num b.num else if sgnT text b.text ≠ 0 then sgnT text b.text
    else cmpKs (decide (kind = 4)) names b.names kids b.kids
def cmpKs : Bool → List ByteArray → List ByteArray → List Nd → List Nd → Int
  | m, ns, ms, k :: ks, j :: js =>
    if m = true ∧ sgnT (ns.headD ⟨#[]⟩) (ms.headD ⟨#[]⟩) ≠ 0 then sgnT (ns.headD ⟨#[]⟩) (ms.headD ⟨#[]⟩) else if cmpN k j ≠ 0 then cmpN k j else cmpKs m ns.tail ms.tail ks js
  | _, _, _, [], js => sgnI 0 js.length
  | _, _, _, ks, [] => sgnI ks.length 0
end
end Go.Proofs.Ytgfnmhfdmmnaoaa
namespace Go.Proofs.Ytgfnmhfdmmnaoaa
open Go.RowKit
theorem Good.names {n : Nd} (h : Good n) (h4 : n.kind ≠ 4) : n.names = [] := by
  have hp := h.parts
  unfold partsB at hp
  simp only [Bool.and_eq_true, Bool.or_eq_true, decide_eq_true_eq] at hp
  rcases hp.1.2 with h | h
  · exact absurd h h4
  · exact List.length_eq_zero_iff.1 (by simpa using h)
end Go.Proofs.Ytgfnmhfdmmnaoaa
namespace Go.Proofs.Ytgfnmhfdmmnaoaa
open Go.RowKit
end Go.Proofs.Ytgfnmhfdmmnaoaa
-- EV: skip
namespace Go.Proofs.Ytgfnmhfdmmnaoaa.Eng
open Go Go.RowKit
attribute [local simp] big size_mk ASt.pay Option.map_map Function.comp_def awant aop acall ado aev ofVal ofVal0 ASt.put ASt.add ASt.turn ASt.kill abox aalloc astore aload aloadD astoreD idOf ASt.at cellsTo afieldAddr afield aindexAddr aindex alen abin aint acmp astr aun apick aextract anil aslice abound abuild afill abuildSlice asCells aps avCells over upd aappend asrc amax amin aconv mkSt slots rowsOf_cons rowsOf_nil usedOf_cons usedOf_nil ZK.av List.replicate ASt.back ASt.addL ASt.killL nodeA nodeT nodeTL_eq nodeL_eq strsE_get strsE_len intsE_get intsE_len strsE_at intsE_at tab2 tab3 tab4 tab5 tab6 tab7 tab8 tab9 tab10 tab11 tab12 tab13 tab14 tab15 tab16 tab17 tab18 tab19 tab21 tab22 tab23 tab24 tab25 tab26 tab27 tab28 tab29 tab30 tab39 tab40 tab41 tab42 tab43 tab47 tab48 tab55 tab56 tab57 tab60 tab61 tab62 tab73 tab74 tab75 tab85 tab92 tab115 tab116 tab143 tab144 tab145 tab154 tab155 tab170 tab175 tab182 tab197 tab198 tab203 tab204 tab205 tab207 tab208 tab209
end Go.Proofs.Ytgfnmhfdmmnaoaa.Eng
-- EV: rows skip
namespace Go.Proofs.Ytgfnmhfdmmnaoaa.Eng
open Go Go.RowKit
attribute [local simp] big size_mk ASt.pay Option.map_map Function.comp_def awant aop acall ado aev ofVal ofVal0 ASt.put ASt.add ASt.turn ASt.kill abox aalloc astore aload aloadD astoreD idOf ASt.at cellsTo afieldAddr afield aindexAddr aindex alen abin aint acmp astr aun apick aextract anil aslice abound abuild afill abuildSlice asCells aps avCells over upd aappend asrc amax amin aconv mkSt slots rowsOf_cons rowsOf_nil usedOf_cons usedOf_nil ZK.av List.replicate ASt.back ASt.addL ASt.killL nodeA nodeT nodeTL_eq nodeL_eq strsE_get strsE_len intsE_get intsE_len strsE_at intsE_at nodeN namesRow nodeO kidsRow tab2 tab3 tab4 tab5 tab6 tab7 tab8 tab9 tab10 tab11 tab12 tab13 tab14 tab15 tab16 tab17 tab18 tab19 tab21 tab22 tab23 tab24 tab25 tab26 tab27 tab28 tab29 tab30 tab39 tab40 tab41 tab42 tab43 tab47 tab48 tab55 tab56 tab57 tab60 tab61 tab62 tab73 tab74 tab75 tab85 tab92 tab115 tab116 tab143 tab144 tab145 tab154 tab155 tab170 tab175 tab182 tab197 tab198 tab203 tab204 tab205 tab207 tab208 tab209
end Go.Proofs.Ytgfnmhfdmmnaoaa.Eng
namespace Go.Proofs.Ytgfnmhfdmmnaoaa
open Go Go.RowKit
section
variable {P : Program} {ops : Array Oper} {Vs : Nat → Option (Value → World → Prop)} {w : World} {Q : Act → World → Prop}
theorem drew_grow {w w' : World} (h : Grow w.drew w') : Grow w w' := ((Ext.refl nil w).drew).trans h
theorem wpStab_made {o : Oper} {rest : List Oper} {k : Nat} {a : Act} {E : Env} (V : Value → World → Prop) (hw : Region.wanted o (yielded ops a.tmps) = true) (hV : Vs k = some V)
    (h : ∀ x : Later w, (∀ e ∈ o.after, Region.binds .any e = true → E e.on (later w x)) → stabAt Grow P o a (later w x) V)
    (h2 : ∀ v, wpStab P ops Grow Vs (fun w' => Grow w.drew w') Q rest (k + 1) (a.put o.dst v) (E.upd k (V v))) :
    wpStab P ops Grow Vs (fun w' => Grow w.drew w') Q (o :: rest) k a E := by
  unfold wpStab
  rw [if_pos hw]
  unfold does
  rw [hV]
  exact ⟨fun w' hc => h ⟨w', drew_grow hc.1⟩ hc.2, fun v w' _ _ _ => h2 v⟩
theorem wpStab_made' {o : Oper} {rest : List Oper} {k : Nat} {a : Act} {E : Env} (V : Value → World → Prop) (hw : Region.wanted o (yielded ops a.tmps) = true) (hV : Vs k = some V)
    (h : ∀ x : Later w, (∀ e ∈ o.after, Region.binds .any e = true → E e.on (later w x)) → stabAt Grow P o a (later w x) V)
    (h2 : ∀ v, (∃ x : Later w, V v (later w x)) → wpStab P ops Grow Vs (fun w' => Grow w.drew w') Q rest (k + 1) (a.put o.dst v) (E.upd k (V v))) :
    wpStab P ops Grow Vs (fun w' => Grow w.drew w') Q (o :: rest) k a E := by
  unfold wpStab
  rw [if_pos hw]
  unfold does
  rw [hV]
  exact ⟨fun w' hc => h ⟨w', drew_grow hc.1⟩ hc.2, fun v w' hc _ hv => h2 v ⟨⟨w', drew_grow hc⟩, hv⟩⟩
theorem wpStab_end' {k : Nat} {a : Act} {E : Env} (h : ∀ w', Grow w w' → (∀ j, E j w') → Q a w') : wpStab P ops Grow Vs (fun w' => Grow w.drew w') Q [] k a E :=
  fun w' hc hE => h w' (drew_grow hc) hE
theorem wpStab_const {o : Oper} {rest : List Oper} {k : Nat} {a : Act} {E : Env} (c : Value) (hw : Region.wanted o (yielded ops a.tmps) = true) (hV : Vs k = some (fun v _ => v = c))
    (h : ∀ x : Later w, (∀ e ∈ o.after, Region.binds .any e = true → E e.on (later w x)) → stabAt Grow P o a (later w x) (fun v _ => v = c))
    (h2 : wpStab P ops Grow Vs (fun w' => Grow w.drew w') Q rest (k + 1) (a.put o.dst c) (E.upd k (fun _ => True))) :
    wpStab P ops Grow Vs (fun w' => Grow w.drew w') Q (o :: rest) k a E := by
  unfold wpStab
  rw [if_pos hw]
  unfold does
  rw [hV]
  refine ⟨fun w' hc => h ⟨w', drew_grow hc.1⟩ hc.2, fun v w' _ _ hv => ?_⟩
  subst hv
  have : (fun (u : Value) (_ : World) => u = v) v = (fun _ => True) := by funext _; simp
  rw [this]
  exact h2
theorem wpStab_end {k : Nat} {a : Act} {E : Env} (h : ∀ w', Grow w w' → Q a w') : wpStab P ops Grow Vs (fun w' => Grow w.drew w') Q [] k a E :=
  fun w' hc _ => h w' (drew_grow hc)
theorem stabAt_call {o : Oper} {a : Act} {w : World} {V : Value → World → Prop} {f : FuncId} {args : Array Value} (h : (execOp a.eval o).run P w = .ok (.enter f args) w)
    (hc : Calls P f args w fun e w' => ∃ v, e = .returned v ∧ Grow w w' ∧ V v w') : stabAt Grow P o a w V := by
  unfold stabAt
  rw [h]
  exact ⟨rfl, hc⟩
end
end Go.Proofs.Ytgfnmhfdmmnaoaa
namespace Go.Proofs.Ytgfnmhfdmmnaoaa
open Go Go.RowKit
def easy (o : Oper) : Bool :=
  match o.op with
  | .move _ | .assign _ | .pick _ _ _ | .load _ _ | .fieldAddr _ _ _ | .indexAddr _ _ _ | .index _ _ _ | .field _ _ _ | .extract _ _ | .binOp _ _ _ _ _ | .unOp _ _ _ | .convert _ _ _ | .slice _ _ _ _ _ | .build _ _ => true
  | .call { callee := .builtin .len, args := _, argTypes := _ } => true
  | _ => false
theorem pureVal_run {P : Program} (s : Sem Value) (w w' : World) (f : FuncId) (args : Array Value) : (do pure (Next.value (← s)) : Sem Next).run P w ≠ .ok (.enter f args) w' := by
  intro h
  have : (do pure (Next.value (← s)) : Sem Next).run P w = (s.run P w).andThen fun a w' => .ok (.value a) w' := by
    simp [Result.andThen]
  rw [this] at h
  cases hs : s.run P w with
  | ok a w1 => rw [hs] at h; simp [Result.andThen] at h
  | halt x w1 => rw [hs] at h; simp [Result.andThen] at h
theorem noEnter {P : Program} {o : Oper} (he : easy o = true) (ρ : Operand → Value) (w w' : World) (f : FuncId) (args : Array Value) : (execOp ρ o).run P w ≠ .ok (.enter f args) w' := by
  obtain ⟨dst, op, type, pos, after, guard⟩ := o
  cases op <;> simp only [easy, Bool.false_eq_true] at he
  case move x => intro h; simp [execOp] at h
  case assign x => intro h; simp [execOp] at h
  case pick c a b =>
    intro h
    have : (execOp ρ ⟨dst, .pick c a b, type, pos, after, guard⟩).run P w = ((asBool (ρ c)).run P w).andThen fun q w' => .ok (.value (if q then ρ a else ρ b)) w' := by
      simp [execOp, Result.andThen]
    rw [this] at h
    cases hs : (asBool (ρ c)).run P w with
    | ok a w1 => rw [hs] at h; simp [Result.andThen] at h
    | halt x w1 => rw [hs] at h; simp [Result.andThen] at h
  case load t a => exact pureVal_run _ _ _ _ _
  case fieldAddr => exact pureVal_run _ _ _ _ _
  case indexAddr => exact pureVal_run _ _ _ _ _
  case index => exact pureVal_run _ _ _ _ _
  case field => exact pureVal_run _ _ _ _ _
  case extract => exact pureVal_run _ _ _ _ _
  case binOp => exact pureVal_run _ _ _ _ _
  case unOp => exact pureVal_run _ _ _ _ _
  case convert => exact pureVal_run _ _ _ _ _
  case slice => exact pureVal_run _ _ _ _ _
  case build => exact pureVal_run _ _ _ _ _
  case call c =>
    obtain ⟨callee, args', tys⟩ := c
    cases callee with
    | value x => simp at he
    | invoke r m => simp at he
    | builtin b =>
      cases b <;> simp at he
      intro h
      simp [execOp, resolve, invoke, builtin] at h
      cases hs : (Builtin.len_ tys type (Array.map ρ args')).run P w with
      | ok a w1 => rw [hs] at h; simp [Result.andThen] at h
      | halt x w1 => rw [hs] at h; simp [Result.andThen] at h
section
variable {P : Program} {ops : Array Oper} {Vs : Nat → Option (Value → World → Prop)} {w : World} {Q : Act → World → Prop}
theorem wpStab_quiet {o : Oper} {rest : List Oper} {k : Nat} {a : Act} {E : Env} (he : easy o = true) (hw : Region.wanted o (yielded ops a.tmps) = true) (hV : Vs k = none)
    (h : ∀ K : Act → Prop, (∀ a, wpStab P ops Grow Vs (fun w' => Grow w.drew w') Q rest (k + 1) a E → K a) → o.quiet P a (fun w' => ∃ x, w' = later w x) K) :
    wpStab P ops Grow Vs (fun w' => Grow w.drew w') Q (o :: rest) k a E := by
  unfold wpStab
  rw [if_pos hw]
  unfold does
  rw [hV]
  obtain ⟨v, h1, h2⟩ := h _ (fun _ h => h)
  refine ⟨v, fun w' hc => ?_, h2⟩
  have h3 := h1 w' ⟨⟨w', drew_grow hc.1⟩, rfl⟩
  unfold Oper.quietAt at h3
  unfold valAt
  have hne := noEnter (P := P) he a.eval w'
  generalize (execOp a.eval o).run P w' = r at *
  cases r with
  | ok n w2 =>
    cases n <;> simp only [Oper.quietUpon] at h3 <;> simp only [valUpon]
    case value u => exact ⟨h3.2, by rw [h3.1]; exact Ext.refl _ _⟩
    case skip => exact ⟨h3.2, by rw [h3.1]; exact Ext.refl _ _⟩
    case enter f args => exact absurd rfl (hne w2 f args)
  | halt x w2 => simp only [Oper.quietUpon] at h3
end
end Go.Proofs.Ytgfnmhfdmmnaoaa
