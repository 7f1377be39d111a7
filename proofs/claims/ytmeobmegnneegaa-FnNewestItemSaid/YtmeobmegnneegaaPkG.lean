/-
  Texts of this claim, joined.
-/
import Derived.Test.YtmeobmegnneegaaPkF

set_option linter.unusedSimpArgs false
set_option linter.unusedVariables false
set_option maxRecDepth 100000
set_option maxHeartbeats 16000000
namespace Go.Proofs.Ytmeobmegnneegaa
open Go.RowKit
theorem bl_ne {a b : ByteArray} (h : lt a b = true) : (a.toList == b.toList) = false := by
  cases h' : a.toList == b.toList
  · rfl
  · have : a.toList = b.toList := by simpa using h'
    unfold lt at h
    rw [this, bl_irrefl] at h; cases h
theorem isName_same (x : ByteArray) (w : World) (hs : x.size ≤ big) : Calls Try.prog 77 #[.string x] w fun e w' => e = .returned (.bool (nameB x)) ∧ w' = w :=
  (isName_ok x w hs).mono fun _ _ ⟨h1, h2⟩ => ⟨h1, h2.symm⟩
theorem ValidStore_ok (s : Sto) (v : Value) (w : World) (h : RV stoRep packA w any s v) :
    Calls Try.prog 42 #[v] w fun e w' => e = .returned (.bool (storeB s)) ∧ Grow w w' := by
  obtain ⟨a, c, rfl, hs⟩ := sto_open h
  have hbig : s.1.length ≤ 9223372036854775807 := hs.2.1
  have Hs := Lib.hid hs
  clear h hs
  unfold stoV
  by_cases hbad : 10 < s.1.length ∨ s.2 < 0 ∨ 999 < s.2
  · have Hb : Hid (storeB s = false) := Lib.hid (by simp only [storeB, inR, Bool.and_eq_false_iff, decide_eq_false_iff_not]; omega)
    rcases hbad with hb | hb | hb
    · go_enter Try.func42, Try.ntmps42
      go_wp2_with fail
      go_ret
      exact ⟨by simp [Hb.out], (by repeat (first | with_reducible exact Ext.refl _ _ | with_reducible refine Ext.trans ?_ (by assumption) | with_reducible refine Ext.drew ?_ | with_reducible refine Ext.drewN ?_ _ | with_reducible refine Ext.alloc ?_ _ | with_reducible refine Ext.setNew ?_ (by simp; done) _ | with_reducible refine Ext.setNew ?_ (by simp; omega) _))⟩
    · by_cases hl : 10 < s.1.length
      all_goals
        go_enter Try.func42, Try.ntmps42
        go_wp2_with fail
        go_ret
        exact ⟨by simp [Hb.out], (by repeat (first | with_reducible exact Ext.refl _ _ | with_reducible refine Ext.trans ?_ (by assumption) | with_reducible refine Ext.drew ?_ | with_reducible refine Ext.drewN ?_ _ | with_reducible refine Ext.alloc ?_ _ | with_reducible refine Ext.setNew ?_ (by simp; done) _ | with_reducible refine Ext.setNew ?_ (by simp; omega) _))⟩
    · by_cases hl : 10 < s.1.length
      · go_enter Try.func42, Try.ntmps42
        go_wp2_with fail
        go_ret
        exact ⟨by simp [Hb.out], (by repeat (first | with_reducible exact Ext.refl _ _ | with_reducible refine Ext.trans ?_ (by assumption) | with_reducible refine Ext.drew ?_ | with_reducible refine Ext.drewN ?_ _ | with_reducible refine Ext.alloc ?_ _ | with_reducible refine Ext.setNew ?_ (by simp; done) _ | with_reducible refine Ext.setNew ?_ (by simp; omega) _))⟩
      · have h0 : 0 ≤ s.2 := by omega
        go_enter Try.func42, Try.ntmps42
        go_wp2_with fail
        go_ret
        exact ⟨by simp [Hb.out], (by repeat (first | with_reducible exact Ext.refl _ _ | with_reducible refine Ext.trans ?_ (by assumption) | with_reducible refine Ext.drew ?_ | with_reducible refine Ext.drewN ?_ _ | with_reducible refine Ext.alloc ?_ _ | with_reducible refine Ext.setNew ?_ (by simp; done) _ | with_reducible refine Ext.setNew ?_ (by simp; omega) _))⟩
  have hl : s.1.length ≤ 10 := by omega
  have h0 : 0 ≤ s.2 := by omega
  have h9 : s.2 ≤ 999 := by omega
  have Hb : Hid (storeB s = itmsB s.2 s.1) := Lib.hid (by simp [storeB, inR, hl, h0, h9])
  clear hbad
  have HB := Lib.hid (BoxN.new w [.slice a s.1.length c, .int .i64 s.2] 33)
  go_enter Try.func42, Try.ntmps42
  go_wp2_with fail
  go_loopw [2, 3, 4, 22] (fun n _ _ i wr => n = .bool false ∧ Grow w wr ∧ BoxN wr w.heap.size [.slice a s.1.length c, .int .i64 s.2] ∧ ∃ k : Nat, k ≤ s.1.length ∧ i = .int .i64 k ∧ Hid (itmsB s.2 s.1 = itmsAt s.2 s.1 k)) (fun _ _ _ i _ => s.1.length - (intOf i).toNat)
  case atStart => exact ⟨rfl, (by repeat (first | with_reducible exact Ext.refl _ _ | with_reducible refine Ext.trans ?_ (by assumption) | with_reducible refine Ext.drew ?_ | with_reducible refine Ext.drewN ?_ _ | with_reducible refine Ext.alloc ?_ _ | with_reducible refine Ext.setNew ?_ (by simp; done) _ | with_reducible refine Ext.setNew ?_ (by simp; omega) _)), HB.out, 0, Nat.zero_le _, rfl, Lib.hid (itmsAt_zero _ _).symm⟩
  case round =>
    obtain ⟨rfl, hg, hB, k, hk, rfl, Hr⟩ := hrel
    have HB := Lib.hid hB
    have zB := hB.lt
    clear hB
    by_cases hlt : k < s.1.length
    · obtain ⟨_, _, hks⟩ := (Hs.out).grow hg
      rcases hks with hks | ⟨bk, ok, rfl, _, hkr⟩
      · simp [hks] at hlt
      obtain ⟨cs, hcs, hx⟩ := hkr k hlt
      obtain ⟨na0, nc0, ka0, kc0, rfl, hsz, h0⟩ := itmRep_open hx
      rw [itmRep_n] at hcs
      have x0 : wr.cell? ⟨bk, ok + k * 7, none⟩ = _ := hcs 0 _ rfl
      have x1 := hcs 1 _ rfl
      have x2 := hcs 2 _ rfl
      have x3 := hcs 3 _ rfl
      have x4 := hcs 4 _ rfl
      have x5 := hcs 5 _ rfl
      have x6 := hcs 6 _ rfl
      have zb : bk < wr.heap.size := lt_of_cell x0
      have H0 := Lib.hid h0
      have q0 := HB.out.cell 0 _ rfl
      have q1 := HB.out.cell 1 _ rfl
      have prev : ∀ h0 : 0 < k, wr.cell? ⟨bk, ok + (k - 1) * 7, none⟩ = some (.string (s.1[k - 1]'(by omega)).1) := fun h0 => by
        obtain ⟨cs', hcs', hx'⟩ := hkr (k - 1) (by omega)
        obtain ⟨_, _, _, _, rfl, _, _⟩ := itmRep_open hx'
        rw [itmRep_n] at hcs'
        exact hcs' 0 _ rfl
      have Prev := Lib.hid prev
      clear hkr hcs hx h0 prev
      have hg1 : ∀ o : Obj, Grow w (wr.alloc o) := fun o => hg.alloc o
      by_cases hbad : nameB s.1[k].1 = false ∨ (0 < k ∧ lt (s.1[k - 1]'(by omega)).1 s.1[k].1 = false)
      · have Hs : Hid (itmsAt s.2 s.1 k = false) := Lib.hid (itmsAt_bad hlt (hbad.imp (fun h => by unfold itmB; rw [h]; rfl) id))
        by_cases hn : nameB s.1[k].1 = false
        · have Hn := Lib.hid hn
          clear hn hbad
          go_wp2_with fail
          go_quiet ((go_at_call 77; exact Calls.quiet_of_same (by simpa only [Hn.out] using isName_same s.1[k].1 _ hsz)))
          go_wp2_with fail
          go_ret
          exact ⟨by simp [Hb.out, Hr.out, Hs.out], (by repeat (first | with_reducible exact Ext.refl _ _ | with_reducible refine Ext.trans ?_ (by assumption) | with_reducible refine Ext.drew ?_ | with_reducible refine Ext.drewN ?_ _ | with_reducible refine Ext.alloc ?_ _ | with_reducible refine Ext.setNew ?_ (by simp; done) _ | with_reducible refine Ext.setNew ?_ (by simp; omega) _))⟩
        · have hn : nameB s.1[k].1 = true := by simpa using hn
          obtain ⟨hk0, hlt'⟩ := hbad.resolve_left (by simp [hn])
          have Hn := Lib.hid hn
          have hki : (0 : Int) < (k : Int) := by omega
          have y0 := Prev.out hk0
          have k1 : ((k : Int) - 1).toNat = k - 1 := by omega
          have k2 : (0 : Int) ≤ (k : Int) - 1 := by omega
          have k3 : (k : Int) - 1 < (s.1.length : Int) := by omega
          clear hn
          rcases bl_cases (s.1[k - 1]'(by omega)).1 s.1[k].1 with ⟨l1, l2, l3, l4, _⟩ | ⟨l1, l2, l3, l4, _⟩ | l0
          · have := hlt'.symm.trans l1; cases this
          · clear hlt'
            go_wp2_with fail
            go_quiet ((go_at_call 77; exact Calls.quiet_of_same (by simpa only [Hn.out] using isName_same s.1[k].1 _ hsz)))
            go_wp2_with fail
            go_ret
            exact ⟨by simp [Hb.out, Hr.out, Hs.out], (by repeat (first | with_reducible exact Ext.refl _ _ | with_reducible refine Ext.trans ?_ (by assumption) | with_reducible refine Ext.drew ?_ | with_reducible refine Ext.drewN ?_ _ | with_reducible refine Ext.alloc ?_ _ | with_reducible refine Ext.setNew ?_ (by simp; done) _ | with_reducible refine Ext.setNew ?_ (by simp; omega) _))⟩
          · rw [l0] at y0
            clear l0 hlt'
            have l1 := blF_irrefl s.1[k].1
            go_wp2_with fail
            go_quiet ((go_at_call 77; exact Calls.quiet_of_same (by simpa only [Hn.out] using isName_same s.1[k].1 _ hsz)))
            go_wp2_with fail
            go_ret
            exact ⟨by simp [Hb.out, Hr.out, Hs.out], (by repeat (first | with_reducible exact Ext.refl _ _ | with_reducible refine Ext.trans ?_ (by assumption) | with_reducible refine Ext.drew ?_ | with_reducible refine Ext.drewN ?_ _ | with_reducible refine Ext.alloc ?_ _ | with_reducible refine Ext.setNew ?_ (by simp; done) _ | with_reducible refine Ext.setNew ?_ (by simp; omega) _))⟩
      · have hn : nameB s.1[k].1 = true := by
          cases h : nameB s.1[k].1
          · exact absurd (.inl h) hbad
          · rfl
        have hord : ∀ h0 : 0 < k, lt (s.1[k - 1]'(by omega)).1 s.1[k].1 = true := fun h0 => by
          cases h : lt (s.1[k - 1]'(by omega)).1 s.1[k].1
          · exact absurd (.inr ⟨h0, h⟩) hbad
          · rfl
        have Hn := Lib.hid hn
        have Hord := Lib.hid hord
        have fin : ∀ (wz : World), Hid (itmB s.2 s.1[k] = (inR s.1[k].2.1 1 s.2 && validB s.1[k].2.2)) := fun _ => Lib.hid (by unfold itmB; rw [hn]; rfl)
        have Hi := fin w
        clear hbad hn hord fin
        by_cases hk0 : 0 < k
        · have hki : (0 : Int) < (k : Int) := by omega
          have y0 := Prev.out hk0
          have k1 : ((k : Int) - 1).toNat = k - 1 := by omega
          have k2 : (0 : Int) ≤ (k : Int) - 1 := by omega
          have k3 : (k : Int) - 1 < (s.1.length : Int) := by omega
          have l1 : lt (s.1[k - 1]'(by omega)).1 s.1[k].1 = true := Hord.out hk0
          have l2 : Op.bytesLess s.1[k].1.toList (s.1[k - 1]'(by omega)).1.toList = false := bl_asymm _ _ l1
          have l3 : ((s.1[k - 1]'(by omega)).1.toList == s.1[k].1.toList) = false := bl_ne l1
          go_wp2_with fail
          go_quiet ((go_at_call 77; exact Calls.quiet_of_same (by simpa only [Hn.out] using isName_same s.1[k].1 _ hsz)))
          by_cases hv1 : s.1[k].2.1 < 1
          · have Hs : Hid (itmsAt s.2 s.1 k = false) := Lib.hid (itmsAt_bad hlt (.inl (by rw [Hi.out]; simp [inR]; omega)))
            go_wp2_with fail
            go_ret
            exact ⟨by simp [Hb.out, Hr.out, Hs.out], (by repeat (first | with_reducible exact Ext.refl _ _ | with_reducible refine Ext.trans ?_ (by assumption) | with_reducible refine Ext.drew ?_ | with_reducible refine Ext.drewN ?_ _ | with_reducible refine Ext.alloc ?_ _ | with_reducible refine Ext.setNew ?_ (by simp; done) _ | with_reducible refine Ext.setNew ?_ (by simp; omega) _))⟩
          by_cases hv2 : s.2 < s.1[k].2.1
          · have Hs : Hid (itmsAt s.2 s.1 k = false) := Lib.hid (itmsAt_bad hlt (.inl (by rw [Hi.out]; simp [inR]; omega)))
            go_wp2_with fail
            go_ret
            exact ⟨by simp [Hb.out, Hr.out, Hs.out], (by repeat (first | with_reducible exact Ext.refl _ _ | with_reducible refine Ext.trans ?_ (by assumption) | with_reducible refine Ext.drew ?_ | with_reducible refine Ext.drewN ?_ _ | with_reducible refine Ext.alloc ?_ _ | with_reducible refine Ext.setNew ?_ (by simp; done) _ | with_reducible refine Ext.setNew ?_ (by simp; omega) _))⟩
          cases hvb : validB s.1[k].2.2
          · have Hs : Hid (itmsAt s.2 s.1 k = false) := Lib.hid (itmsAt_bad hlt (.inl (by rw [Hi.out, hvb]; simp)))
            have Hv := Lib.hid hvb
            clear hvb
            go_wp2_with fail
            refine (ValidNode_ok s.1[k].2.2 _ _ ⟨_, _, _, _, rfl, H0.out.grow' (by repeat (first | with_reducible exact Ext.refl _ _ | with_reducible refine Ext.trans ?_ (by assumption) | with_reducible refine Ext.drew ?_ | with_reducible refine Ext.drewN ?_ _ | with_reducible refine Ext.alloc ?_ _ | with_reducible refine Ext.setNew ?_ (by simp; done) _ | with_reducible refine Ext.setNew ?_ (by simp; omega) _))⟩).mono ?_
            rintro e w3 ⟨rfl, hg3⟩
            simp only [Hv.out]
            go_wp2_with fail
            go_ret
            exact ⟨by simp [Hb.out, Hr.out, Hs.out], (by repeat (first | with_reducible exact Ext.refl _ _ | with_reducible refine Ext.trans ?_ (by assumption) | with_reducible refine Ext.drew ?_ | with_reducible refine Ext.drewN ?_ _ | with_reducible refine Ext.alloc ?_ _ | with_reducible refine Ext.setNew ?_ (by simp; done) _ | with_reducible refine Ext.setNew ?_ (by simp; omega) _))⟩
          · have Hs : Hid (itmsAt s.2 s.1 k = itmsAt s.2 s.1 (k + 1)) := Lib.hid (itmsAt_good hlt (by rw [Hi.out, hvb]; simp [inR]; omega) Hord.out)
            have Hv := Lib.hid hvb
            clear hvb
            go_wp2_with fail
            refine (ValidNode_ok s.1[k].2.2 _ _ ⟨_, _, _, _, rfl, H0.out.grow' (by repeat (first | with_reducible exact Ext.refl _ _ | with_reducible refine Ext.trans ?_ (by assumption) | with_reducible refine Ext.drew ?_ | with_reducible refine Ext.drewN ?_ _ | with_reducible refine Ext.alloc ?_ _ | with_reducible refine Ext.setNew ?_ (by simp; done) _ | with_reducible refine Ext.setNew ?_ (by simp; omega) _))⟩).mono ?_
            rintro e w3 ⟨rfl, hg3⟩
            simp only [Hv.out]
            have hgr : Grow wr w3 := (by repeat (first | with_reducible exact Ext.refl _ _ | with_reducible refine Ext.trans ?_ (by assumption) | with_reducible refine Ext.drew ?_ | with_reducible refine Ext.drewN ?_ _ | with_reducible refine Ext.alloc ?_ _ | with_reducible refine Ext.setNew ?_ (by simp; done) _ | with_reducible refine Ext.setNew ?_ (by simp; omega) _))
            go_wp2_with fail
            go_roundw
            case rel => exact ⟨rfl, hg.trans hgr, HB.out.grow hgr, k + 1, by omega, by go_num, Lib.hid (by rw [Hr.out, Hs.out])⟩
            case measure => simp [intOf]; omega
        · have hki : ¬ (0 : Int) < (k : Int) := by omega
          go_wp2_with fail
          go_quiet ((go_at_call 77; exact Calls.quiet_of_same (by simpa only [Hn.out] using isName_same s.1[k].1 _ hsz)))
          by_cases hv1 : s.1[k].2.1 < 1
          · have Hs : Hid (itmsAt s.2 s.1 k = false) := Lib.hid (itmsAt_bad hlt (.inl (by rw [Hi.out]; simp [inR]; omega)))
            go_wp2_with fail
            go_ret
            exact ⟨by simp [Hb.out, Hr.out, Hs.out], (by repeat (first | with_reducible exact Ext.refl _ _ | with_reducible refine Ext.trans ?_ (by assumption) | with_reducible refine Ext.drew ?_ | with_reducible refine Ext.drewN ?_ _ | with_reducible refine Ext.alloc ?_ _ | with_reducible refine Ext.setNew ?_ (by simp; done) _ | with_reducible refine Ext.setNew ?_ (by simp; omega) _))⟩
          by_cases hv2 : s.2 < s.1[k].2.1
          · have Hs : Hid (itmsAt s.2 s.1 k = false) := Lib.hid (itmsAt_bad hlt (.inl (by rw [Hi.out]; simp [inR]; omega)))
            go_wp2_with fail
            go_ret
            exact ⟨by simp [Hb.out, Hr.out, Hs.out], (by repeat (first | with_reducible exact Ext.refl _ _ | with_reducible refine Ext.trans ?_ (by assumption) | with_reducible refine Ext.drew ?_ | with_reducible refine Ext.drewN ?_ _ | with_reducible refine Ext.alloc ?_ _ | with_reducible refine Ext.setNew ?_ (by simp; done) _ | with_reducible refine Ext.setNew ?_ (by simp; omega) _))⟩
          cases hvb : validB s.1[k].2.2
          · have Hs : Hid (itmsAt s.2 s.1 k = false) := Lib.hid (itmsAt_bad hlt (.inl (by rw [Hi.out, hvb]; simp)))
            have Hv := Lib.hid hvb
            clear hvb
            go_wp2_with fail
            refine (ValidNode_ok s.1[k].2.2 _ _ ⟨_, _, _, _, rfl, H0.out.grow' (by repeat (first | with_reducible exact Ext.refl _ _ | with_reducible refine Ext.trans ?_ (by assumption) | with_reducible refine Ext.drew ?_ | with_reducible refine Ext.drewN ?_ _ | with_reducible refine Ext.alloc ?_ _ | with_reducible refine Ext.setNew ?_ (by simp; done) _ | with_reducible refine Ext.setNew ?_ (by simp; omega) _))⟩).mono ?_
            rintro e w3 ⟨rfl, hg3⟩
            simp only [Hv.out]
            go_wp2_with fail
            go_ret
            exact ⟨by simp [Hb.out, Hr.out, Hs.out], (by repeat (first | with_reducible exact Ext.refl _ _ | with_reducible refine Ext.trans ?_ (by assumption) | with_reducible refine Ext.drew ?_ | with_reducible refine Ext.drewN ?_ _ | with_reducible refine Ext.alloc ?_ _ | with_reducible refine Ext.setNew ?_ (by simp; done) _ | with_reducible refine Ext.setNew ?_ (by simp; omega) _))⟩
          · have Hs : Hid (itmsAt s.2 s.1 k = itmsAt s.2 s.1 (k + 1)) := Lib.hid (itmsAt_good hlt (by rw [Hi.out, hvb]; simp [inR]; omega) Hord.out)
            have Hv := Lib.hid hvb
            clear hvb
            go_wp2_with fail
            refine (ValidNode_ok s.1[k].2.2 _ _ ⟨_, _, _, _, rfl, H0.out.grow' (by repeat (first | with_reducible exact Ext.refl _ _ | with_reducible refine Ext.trans ?_ (by assumption) | with_reducible refine Ext.drew ?_ | with_reducible refine Ext.drewN ?_ _ | with_reducible refine Ext.alloc ?_ _ | with_reducible refine Ext.setNew ?_ (by simp; done) _ | with_reducible refine Ext.setNew ?_ (by simp; omega) _))⟩).mono ?_
            rintro e w3 ⟨rfl, hg3⟩
            simp only [Hv.out]
            have hgr : Grow wr w3 := (by repeat (first | with_reducible exact Ext.refl _ _ | with_reducible refine Ext.trans ?_ (by assumption) | with_reducible refine Ext.drew ?_ | with_reducible refine Ext.drewN ?_ _ | with_reducible refine Ext.alloc ?_ _ | with_reducible refine Ext.setNew ?_ (by simp; done) _ | with_reducible refine Ext.setNew ?_ (by simp; omega) _))
            go_wp2_with fail
            go_roundw
            case rel => exact ⟨rfl, hg.trans hgr, HB.out.grow hgr, k + 1, by omega, by go_num, Lib.hid (by rw [Hr.out, Hs.out])⟩
            case measure => simp [intOf]; omega
    · have He := Lib.hid (itmsAt_end s.2 s.1 k hlt)
      go_wp2_with fail
      go_ret
      exact ⟨by simp [Hb.out, Hr.out, He.out], hg⟩
end Go.Proofs.Ytmeobmegnneegaa
namespace Go.Proofs.Ytmeobmegnneegaa
open Go.RowKit
theorem validName_same (x : ByteArray) (w : World) (hs : x.size ≤ big) : Calls Try.prog 71 #[.string x] w fun e w' => e = .returned (.bool (nameB x)) ∧ w' = w :=
  (validName_ok x w hs).mono fun _ _ ⟨h1, h2⟩ => ⟨h1, h2.symm⟩
theorem validStore_ok (s : Sto) (v : Value) (w : World) (h : RV stoRep packA w any s v) :
    Calls Try.prog 70 #[v] w fun e w' => e = .returned (.bool (storeB s)) ∧ Grow w w' := by
  obtain ⟨a, c, rfl, hs⟩ := sto_open h
  have hbig : s.1.length ≤ 9223372036854775807 := hs.2.1
  have Hs := Lib.hid hs
  clear h hs
  unfold stoV
  have Hb : Hid (storeB s = (decide (s.1.length ≤ 10) && inR s.2 0 999 && itmsB s.2 s.1)) := Lib.hid rfl
  have HB := Lib.hid (BoxN.new w [.slice a s.1.length c, .int .i64 s.2] 33)
  go_enter Try.func70, Try.ntmps70
  go_wp2_with fail
  go_loopw [2, 3, 4] (fun n i _ wr => n = .bool false ∧ Grow w wr ∧ BoxN wr w.heap.size [.slice a s.1.length c, .int .i64 s.2] ∧ ∃ k : Nat, k ≤ s.1.length ∧ i = .int .i64 k ∧ Hid (itmsB s.2 s.1 = itmsAt s.2 s.1 k)) (fun _ i _ _ => s.1.length - (intOf i).toNat)
  case atStart => exact ⟨rfl, (by repeat (first | with_reducible exact Ext.refl _ _ | with_reducible refine Ext.trans ?_ (by assumption) | with_reducible refine Ext.drew ?_ | with_reducible refine Ext.drewN ?_ _ | with_reducible refine Ext.alloc ?_ _ | with_reducible refine Ext.setNew ?_ (by simp; done) _ | with_reducible refine Ext.setNew ?_ (by simp; omega) _)), HB.out, 0, Nat.zero_le _, rfl, Lib.hid (itmsAt_zero _ _).symm⟩
  case round =>
    obtain ⟨rfl, hg, hB, k, hk, rfl, Hr⟩ := hrel
    have HB := Lib.hid hB
    have zB := hB.lt
    clear hB
    have q0 := HB.out.cell 0 _ rfl
    have q1 := HB.out.cell 1 _ rfl
    by_cases hlt : k < s.1.length
    · obtain ⟨_, _, hks⟩ := (Hs.out).grow hg
      rcases hks with hks | ⟨bk, ok, rfl, _, hkr⟩
      · simp [hks] at hlt
      obtain ⟨cs, hcs, hx⟩ := hkr k hlt
      obtain ⟨na0, nc0, ka0, kc0, rfl, hsz, h0⟩ := itmRep_open hx
      rw [itmRep_n] at hcs
      have x0 : wr.cell? ⟨bk, ok + k * 7, none⟩ = _ := hcs 0 _ rfl
      have x1 := hcs 1 _ rfl
      have x2 := hcs 2 _ rfl
      have x3 := hcs 3 _ rfl
      have x4 := hcs 4 _ rfl
      have x5 := hcs 5 _ rfl
      have x6 := hcs 6 _ rfl
      have zb : bk < wr.heap.size := lt_of_cell x0
      have H0 := Lib.hid h0
      have prev : ∀ h0 : 0 < k, wr.cell? ⟨bk, ok + (k - 1) * 7, none⟩ = some (.string (s.1[k - 1]'(by omega)).1) := fun h0 => by
        obtain ⟨cs', hcs', hx'⟩ := hkr (k - 1) (by omega)
        obtain ⟨_, _, _, _, rfl, _, _⟩ := itmRep_open hx'
        rw [itmRep_n] at hcs'
        exact hcs' 0 _ rfl
      have Prev := Lib.hid prev
      have HVc : Hid (∀ w', Grow wr w' → Calls Try.prog 72 #[.agg #[.int .i64 s.1[k].2.2.kind, .int .i64 s.1[k].2.2.num, .string s.1[k].2.2.text, .slice na0 s.1[k].2.2.names.length nc0, .slice ka0 s.1[k].2.2.kids.length kc0]] w' fun e w'' => e = .returned (.bool (validB s.1[k].2.2)) ∧ Grow w' w'') := Lib.hid (fun w' hg => validNode_ok s.1[k].2.2 _ _ ⟨_, _, _, _, rfl, H0.out.grow' hg⟩)
      clear hkr hcs hx h0 prev
      by_cases hbad : itmB s.2 s.1[k] = false ∨ (0 < k ∧ lt (s.1[k - 1]'(by omega)).1 s.1[k].1 = false)
      · have Hs' : Hid (itmsAt s.2 s.1 k = false) := Lib.hid (itmsAt_bad hlt hbad)
        have Hsb : Hid (storeB s = false) := Lib.hid (by rw [Hb.out, Hr.out, Hs'.out]; simp)
        cases hn : nameB s.1[k].1
        · have Hn := Lib.hid hn
          clear hn hbad
          go_wp2_with fail
          (refine wp_region_later (by kernel_rfl) (by kernel_rfl) ?_; (repeat (first | go_big_quiet_step ((first | (go_at_call 71; exact later_call_same (v := .bool false) (by simpa only [Hn.out] using validName_same s.1[k].1 _ hsz)) | (go_at_call 72; exact later_call (v := .bool false) (by simpa only [Hv.out] using HVc.out _ (((Ext.refl nil _).alloc _).trans (later_grow _ _)))) | (go_at_call 95; exact later_call_same (v := .bool false) (by simpa only [Hi.out] using inRange_ok s.1[k].2.1 1 s.2 _)))) | quiet_step ((first | (go_at_call 71; exact later_call_same (v := .bool false) (by simpa only [Hn.out] using validName_same s.1[k].1 _ hsz)) | (go_at_call 72; exact later_call (v := .bool false) (by simpa only [Hv.out] using HVc.out _ (((Ext.refl nil _).alloc _).trans (later_grow _ _)))) | (go_at_call 95; exact later_call_same (v := .bool false) (by simpa only [Hi.out] using inRange_ok s.1[k].2.1 1 s.2 _)))))); refine wpQuiet_nil ?_; rintro _ ⟨x_w2, rfl⟩; have hg_w2 := later_grow _ x_w2; generalize later _ x_w2 = w2 at hg_w2 ⊢)
          go_wp2_with fail
          go_ret
          exact ⟨by simp [Hsb.out], (by repeat (first | with_reducible exact Ext.refl _ _ | with_reducible refine Ext.trans ?_ (by assumption) | with_reducible refine Ext.drew ?_ | with_reducible refine Ext.drewN ?_ _ | with_reducible refine Ext.alloc ?_ _ | with_reducible refine Ext.setNew ?_ (by simp; done) _ | with_reducible refine Ext.setNew ?_ (by simp; omega) _))⟩
        have Hn := Lib.hid hn
        cases hv : validB s.1[k].2.2
        · have Hv := Lib.hid hv
          clear hv hn hbad
          go_wp2_with fail
          (refine wp_region_later (by kernel_rfl) (by kernel_rfl) ?_; (repeat (first | go_big_quiet_step ((first | (go_at_call 71; exact later_call_same (v := .bool true) (by simpa only [Hn.out] using validName_same s.1[k].1 _ hsz)) | (go_at_call 72; exact later_call (v := .bool false) (by simpa only [Hv.out] using HVc.out _ (((Ext.refl nil _).alloc _).trans (later_grow _ _)))) | (go_at_call 95; exact later_call_same (v := .bool false) (by simpa only [Hi.out] using inRange_ok s.1[k].2.1 1 s.2 _)))) | quiet_step ((first | (go_at_call 71; exact later_call_same (v := .bool true) (by simpa only [Hn.out] using validName_same s.1[k].1 _ hsz)) | (go_at_call 72; exact later_call (v := .bool false) (by simpa only [Hv.out] using HVc.out _ (((Ext.refl nil _).alloc _).trans (later_grow _ _)))) | (go_at_call 95; exact later_call_same (v := .bool false) (by simpa only [Hi.out] using inRange_ok s.1[k].2.1 1 s.2 _)))))); refine wpQuiet_nil ?_; rintro _ ⟨x_w2, rfl⟩; have hg_w2 := later_grow _ x_w2; generalize later _ x_w2 = w2 at hg_w2 ⊢)
          go_wp2_with fail
          go_ret
          exact ⟨by simp [Hsb.out], (by repeat (first | with_reducible exact Ext.refl _ _ | with_reducible refine Ext.trans ?_ (by assumption) | with_reducible refine Ext.drew ?_ | with_reducible refine Ext.drewN ?_ _ | with_reducible refine Ext.alloc ?_ _ | with_reducible refine Ext.setNew ?_ (by simp; done) _ | with_reducible refine Ext.setNew ?_ (by simp; omega) _))⟩
        have Hv := Lib.hid hv
        cases hi : inR s.1[k].2.1 1 s.2
        · have Hi := Lib.hid hi
          clear hi hv hn hbad
          go_wp2_with fail
          (refine wp_region_later (by kernel_rfl) (by kernel_rfl) ?_; (repeat (first | go_big_quiet_step ((first | (go_at_call 71; exact later_call_same (v := .bool true) (by simpa only [Hn.out] using validName_same s.1[k].1 _ hsz)) | (go_at_call 72; exact later_call (v := .bool true) (by simpa only [Hv.out] using HVc.out _ (((Ext.refl nil _).alloc _).trans (later_grow _ _)))) | (go_at_call 95; exact later_call_same (v := .bool false) (by simpa only [Hi.out] using inRange_ok s.1[k].2.1 1 s.2 _)))) | quiet_step ((first | (go_at_call 71; exact later_call_same (v := .bool true) (by simpa only [Hn.out] using validName_same s.1[k].1 _ hsz)) | (go_at_call 72; exact later_call (v := .bool true) (by simpa only [Hv.out] using HVc.out _ (((Ext.refl nil _).alloc _).trans (later_grow _ _)))) | (go_at_call 95; exact later_call_same (v := .bool false) (by simpa only [Hi.out] using inRange_ok s.1[k].2.1 1 s.2 _)))))); refine wpQuiet_nil ?_; rintro _ ⟨x_w2, rfl⟩; have hg_w2 := later_grow _ x_w2; generalize later _ x_w2 = w2 at hg_w2 ⊢)
          go_wp2_with fail
          go_ret
          exact ⟨by simp [Hsb.out], (by repeat (first | with_reducible exact Ext.refl _ _ | with_reducible refine Ext.trans ?_ (by assumption) | with_reducible refine Ext.drew ?_ | with_reducible refine Ext.drewN ?_ _ | with_reducible refine Ext.alloc ?_ _ | with_reducible refine Ext.setNew ?_ (by simp; done) _ | with_reducible refine Ext.setNew ?_ (by simp; omega) _))⟩
        have Hi := Lib.hid hi
        obtain ⟨hk0, hlt'⟩ := hbad.resolve_left (by simp [itmB, hn, hv, hi])
        have hki : (0 : Int) < (k : Int) := by omega
        have y0 := Prev.out hk0
        have k1 : ((k : Int) - 1).toNat = k - 1 := by omega
        have k2 : (0 : Int) ≤ (k : Int) - 1 := by omega
        have k3 : (k : Int) - 1 < (s.1.length : Int) := by omega
        clear hn hv hi
        rcases bl_cases (s.1[k - 1]'(by omega)).1 s.1[k].1 with ⟨l1, l2, l3, l4, _⟩ | ⟨l1, l2, l3, l4, _⟩ | l0
        · have := hlt'.symm.trans l1; cases this
        · clear hlt'
          go_wp2_with fail
          (refine wp_region_later (by kernel_rfl) (by kernel_rfl) ?_; (repeat (first | go_big_quiet_step ((first | (go_at_call 71; exact later_call_same (v := .bool true) (by simpa only [Hn.out] using validName_same s.1[k].1 _ hsz)) | (go_at_call 72; exact later_call (v := .bool true) (by simpa only [Hv.out] using HVc.out _ (((Ext.refl nil _).alloc _).trans (later_grow _ _)))) | (go_at_call 95; exact later_call_same (v := .bool true) (by simpa only [Hi.out] using inRange_ok s.1[k].2.1 1 s.2 _)))) | quiet_step ((first | (go_at_call 71; exact later_call_same (v := .bool true) (by simpa only [Hn.out] using validName_same s.1[k].1 _ hsz)) | (go_at_call 72; exact later_call (v := .bool true) (by simpa only [Hv.out] using HVc.out _ (((Ext.refl nil _).alloc _).trans (later_grow _ _)))) | (go_at_call 95; exact later_call_same (v := .bool true) (by simpa only [Hi.out] using inRange_ok s.1[k].2.1 1 s.2 _)))))); refine wpQuiet_nil ?_; rintro _ ⟨x_w2, rfl⟩; have hg_w2 := later_grow _ x_w2; generalize later _ x_w2 = w2 at hg_w2 ⊢)
          go_wp2_with fail
          go_ret
          exact ⟨by simp [Hsb.out], (by repeat (first | with_reducible exact Ext.refl _ _ | with_reducible refine Ext.trans ?_ (by assumption) | with_reducible refine Ext.drew ?_ | with_reducible refine Ext.drewN ?_ _ | with_reducible refine Ext.alloc ?_ _ | with_reducible refine Ext.setNew ?_ (by simp; done) _ | with_reducible refine Ext.setNew ?_ (by simp; omega) _))⟩
        · rw [l0] at y0
          clear l0 hlt'
          have l1 := blF_irrefl s.1[k].1
          go_wp2_with fail
          (refine wp_region_later (by kernel_rfl) (by kernel_rfl) ?_; (repeat (first | go_big_quiet_step ((first | (go_at_call 71; exact later_call_same (v := .bool true) (by simpa only [Hn.out] using validName_same s.1[k].1 _ hsz)) | (go_at_call 72; exact later_call (v := .bool true) (by simpa only [Hv.out] using HVc.out _ (((Ext.refl nil _).alloc _).trans (later_grow _ _)))) | (go_at_call 95; exact later_call_same (v := .bool true) (by simpa only [Hi.out] using inRange_ok s.1[k].2.1 1 s.2 _)))) | quiet_step ((first | (go_at_call 71; exact later_call_same (v := .bool true) (by simpa only [Hn.out] using validName_same s.1[k].1 _ hsz)) | (go_at_call 72; exact later_call (v := .bool true) (by simpa only [Hv.out] using HVc.out _ (((Ext.refl nil _).alloc _).trans (later_grow _ _)))) | (go_at_call 95; exact later_call_same (v := .bool true) (by simpa only [Hi.out] using inRange_ok s.1[k].2.1 1 s.2 _)))))); refine wpQuiet_nil ?_; rintro _ ⟨x_w2, rfl⟩; have hg_w2 := later_grow _ x_w2; generalize later _ x_w2 = w2 at hg_w2 ⊢)
          go_wp2_with fail
          go_ret
          exact ⟨by simp [Hsb.out], (by repeat (first | with_reducible exact Ext.refl _ _ | with_reducible refine Ext.trans ?_ (by assumption) | with_reducible refine Ext.drew ?_ | with_reducible refine Ext.drewN ?_ _ | with_reducible refine Ext.alloc ?_ _ | with_reducible refine Ext.setNew ?_ (by simp; done) _ | with_reducible refine Ext.setNew ?_ (by simp; omega) _))⟩
      · have hgood : itmB s.2 s.1[k] = true := by
          cases h : itmB s.2 s.1[k]
          · exact absurd (.inl h) hbad
          · rfl
        have hord : ∀ h0 : 0 < k, lt (s.1[k - 1]'(by omega)).1 s.1[k].1 = true := fun h0 => by
          cases h : lt (s.1[k - 1]'(by omega)).1 s.1[k].1
          · exact absurd (.inr ⟨h0, h⟩) hbad
          · rfl
        have Hord := Lib.hid hord
        have Hs' : Hid (itmsAt s.2 s.1 k = itmsAt s.2 s.1 (k + 1)) := Lib.hid (itmsAt_good hlt hgood hord)
        unfold itmB at hgood
        simp only [Bool.and_eq_true] at hgood
        have Hn := Lib.hid hgood.1.1
        have Hi := Lib.hid hgood.1.2
        have Hv := Lib.hid hgood.2
        clear hbad hgood hord
        by_cases hk0 : 0 < k
        · have hki : (0 : Int) < (k : Int) := by omega
          have y0 := Prev.out hk0
          have k1 : ((k : Int) - 1).toNat = k - 1 := by omega
          have k2 : (0 : Int) ≤ (k : Int) - 1 := by omega
          have k3 : (k : Int) - 1 < (s.1.length : Int) := by omega
          have l1 : lt (s.1[k - 1]'(by omega)).1 s.1[k].1 = true := Hord.out hk0
          have l2 : Op.bytesLess s.1[k].1.toList (s.1[k - 1]'(by omega)).1.toList = false := bl_asymm _ _ l1
          have l3 : ((s.1[k - 1]'(by omega)).1.toList == s.1[k].1.toList) = false := bl_ne l1
          have l4 : (s.1[k].1.toList == (s.1[k - 1]'(by omega)).1.toList) = false := by rw [beq_toList] at l3 ⊢; simp only [decide_eq_false_iff_not] at l3 ⊢; exact fun e => l3 e.symm
          go_wp2_with fail
          (refine wp_region_later (by kernel_rfl) (by kernel_rfl) ?_; (repeat (first | go_big_quiet_step ((first | (go_at_call 71; exact later_call_same (v := .bool true) (by simpa only [Hn.out] using validName_same s.1[k].1 _ hsz)) | (go_at_call 72; exact later_call (v := .bool true) (by simpa only [Hv.out] using HVc.out _ (((Ext.refl nil _).alloc _).trans (later_grow _ _)))) | (go_at_call 95; exact later_call_same (v := .bool true) (by simpa only [Hi.out] using inRange_ok s.1[k].2.1 1 s.2 _)))) | quiet_step ((first | (go_at_call 71; exact later_call_same (v := .bool true) (by simpa only [Hn.out] using validName_same s.1[k].1 _ hsz)) | (go_at_call 72; exact later_call (v := .bool true) (by simpa only [Hv.out] using HVc.out _ (((Ext.refl nil _).alloc _).trans (later_grow _ _)))) | (go_at_call 95; exact later_call_same (v := .bool true) (by simpa only [Hi.out] using inRange_ok s.1[k].2.1 1 s.2 _)))))); refine wpQuiet_nil ?_; rintro _ ⟨x_w2, rfl⟩; have hg_w2 := later_grow _ x_w2; generalize later _ x_w2 = w2 at hg_w2 ⊢)
          have hgr : Grow wr w2 := (by repeat (first | with_reducible exact Ext.refl _ _ | with_reducible refine Ext.trans ?_ (by assumption) | with_reducible refine Ext.drew ?_ | with_reducible refine Ext.drewN ?_ _ | with_reducible refine Ext.alloc ?_ _ | with_reducible refine Ext.setNew ?_ (by simp; done) _ | with_reducible refine Ext.setNew ?_ (by simp; omega) _))
          go_wp2_with fail
          go_roundw
          case rel => exact ⟨rfl, hg.trans hgr, HB.out.grow hgr, k + 1, by omega, by go_num, Lib.hid (by rw [Hr.out, Hs'.out])⟩
          case measure => simp [intOf]; omega
        · have hki : ¬ (0 : Int) < (k : Int) := by omega
          go_wp2_with fail
          (refine wp_region_later (by kernel_rfl) (by kernel_rfl) ?_; (repeat (first | go_big_quiet_step ((first | (go_at_call 71; exact later_call_same (v := .bool true) (by simpa only [Hn.out] using validName_same s.1[k].1 _ hsz)) | (go_at_call 72; exact later_call (v := .bool true) (by simpa only [Hv.out] using HVc.out _ (((Ext.refl nil _).alloc _).trans (later_grow _ _)))) | (go_at_call 95; exact later_call_same (v := .bool true) (by simpa only [Hi.out] using inRange_ok s.1[k].2.1 1 s.2 _)))) | quiet_step ((first | (go_at_call 71; exact later_call_same (v := .bool true) (by simpa only [Hn.out] using validName_same s.1[k].1 _ hsz)) | (go_at_call 72; exact later_call (v := .bool true) (by simpa only [Hv.out] using HVc.out _ (((Ext.refl nil _).alloc _).trans (later_grow _ _)))) | (go_at_call 95; exact later_call_same (v := .bool true) (by simpa only [Hi.out] using inRange_ok s.1[k].2.1 1 s.2 _)))))); refine wpQuiet_nil ?_; rintro _ ⟨x_w2, rfl⟩; have hg_w2 := later_grow _ x_w2; generalize later _ x_w2 = w2 at hg_w2 ⊢)
          have hgr : Grow wr w2 := (by repeat (first | with_reducible exact Ext.refl _ _ | with_reducible refine Ext.trans ?_ (by assumption) | with_reducible refine Ext.drew ?_ | with_reducible refine Ext.drewN ?_ _ | with_reducible refine Ext.alloc ?_ _ | with_reducible refine Ext.setNew ?_ (by simp; done) _ | with_reducible refine Ext.setNew ?_ (by simp; omega) _))
          go_wp2_with fail
          go_roundw
          case rel => exact ⟨rfl, hg.trans hgr, HB.out.grow hgr, k + 1, by omega, by go_num, Lib.hid (by rw [Hr.out, Hs'.out])⟩
          case measure => simp [intOf]; omega
    · have He := Lib.hid (itmsAt_end s.2 s.1 k hlt)
      by_cases hl : s.1.length ≤ 10
      · have Hf : Hid (storeB s = inR s.2 0 999) := Lib.hid (by rw [Hb.out, Hr.out, He.out]; simp [hl])
        go_wp2_with (go_at_call 95; refine (inRange_ok _ _ _ _).mono ?_; rintro e w' ⟨rfl, rfl⟩)
        go_ret
        exact ⟨by simp [Hf.out], hg⟩
      · have Hf : Hid (storeB s = false) := Lib.hid (by rw [Hb.out]; simp [hl])
        go_wp2_with fail
        go_ret
        exact ⟨by simp [Hf.out], hg⟩
end Go.Proofs.Ytmeobmegnneegaa
namespace Go.Proofs.Ytmeobmegnneegaa
open Go.RowKit
end Go.Proofs.Ytmeobmegnneegaa
namespace Go.Proofs.Ytmeobmegnneegaa
open Go.RowKit
end Go.Proofs.Ytmeobmegnneegaa
-- EV: store
namespace Go.Proofs.Ytmeobmegnneegaa.Eng
open Go Go.RowKit
theorem repL7 {w : World} {ρ : Cx} {a b c d e f g : AV} {v0 v1 v2 v3 v4 v5 v6 : Value} (h0 : Rep w ρ a v0) (h1 : Rep w ρ b v1) (h2 : Rep w ρ c v2) (h3 : Rep w ρ d v3) (h4 : Rep w ρ e v4) (h5 : Rep w ρ f v5) (h6 : Rep w ρ g v6) : RepL w ρ [a, b, c, d, e, f, g] [v0, v1, v2, v3, v4, v5, v6] := by
  unfold RepL; refine ⟨_, _, rfl, h0, ?_⟩
  unfold RepL; refine ⟨_, _, rfl, h1, ?_⟩
  exact repL5 h2 h3 h4 h5 h6
theorem itmRep_shutE {w : World} {S : Nat → Prop} {x : Itm} {na : Option Addr} {nc : Nat} {ka : Option Addr} {kc : Nat} (h1 : x.1.size ≤ big) (h2 : NodeC w S x.2.2 na nc ka kc) : itmRep.R w S x (itmL x na nc ka kc) :=
  ⟨[.string x.1], _, rfl, ⟨rfl, h1⟩, [.int .i64 x.2.1], _, rfl, rfl, na, nc, ka, kc, rfl, h2⟩
theorem items_of_rep {w : World} {ρ : Cx} {t : VC} {l : List Itm} {v : Value} (h : Rep w ρ (.view t 7 (l.map itemL)) v) : ∃ a c, v = .slice a l.length c ∧ SlR itmRep w any a c l := by
  obtain ⟨a, c, rfl, _, h3, h4, h5, h6⟩ := rep_view.1 h
  simp only [List.length_map] at *
  refine ⟨a, c, rfl, h3, h4, ?_⟩
  rcases h6 with h6 | ⟨b, o, ha, _, he⟩
  · exact .inl (List.map_eq_nil_iff.1 h6)
  · refine .inr ⟨b, o, ha, trivial, fun i hi => ?_⟩
    have e := he.get h5 (i := i) (e := itemL l[i]) (by rw [List.getElem?_map, List.getElem?_eq_getElem hi]; rfl)
    rw [itemL_eq] at e
    generalize l[i] = x at *
    obtain ⟨v0, p0, _, q0⟩ := e.get (i := 0) rfl
    obtain ⟨v1, p1, _, q1⟩ := e.get (i := 1) rfl
    obtain ⟨v2, p2, _, q2⟩ := e.get (i := 2) rfl
    obtain ⟨v3, p3, _, q3⟩ := e.get (i := 3) rfl
    obtain ⟨v4, p4, _, q4⟩ := e.get (i := 4) rfl
    obtain ⟨v5, p5, _, q5⟩ := e.get (i := 5) rfl
    obtain ⟨v6, p6, _, q6⟩ := e.get (i := 6) rfl
    rw [rep_str] at q0
    rw [rep_int] at q1 q2 q3
    have q4' := q4
    rw [rep_str] at q4'
    obtain ⟨na, nc, r5, _⟩ := rep_view.1 q5
    obtain ⟨ka, kc, r6, _⟩ := rep_view.1 q6
    rw [strsE_len] at r5
    rw [List.length_map] at r6
    obtain ⟨rfl, hsz⟩ := q0
    obtain ⟨rfl, _⟩ := q4'
    subst q1 q2 q3 r5 r6
    refine ⟨_, ?_, itmRep_shutE hsz (nodeC_of_rep _ ρ na nc ka kc q4 q5 q6)⟩
    intro j u hj
    rw [show itmRep.n = 7 from rfl]
    unfold itmL at hj
    rcases j with _ | _ | _ | _ | _ | _ | _ | j
    · cases hj; exact p0
    · cases hj; exact p1
    · cases hj; exact p2
    · cases hj; exact p3
    · cases hj; exact p4
    · cases hj; exact p5
    · cases hj; exact p6
    · simp at hj
theorem store_of_rep {w : World} {ρ : Cx} {t : VC} {s : Sto} {v : Value} (h : Rep w ρ (storeT t s) v) : RV stoRep packA w any s v := by
  obtain ⟨vs, rfl, _, h2⟩ := rep_agg.1 h
  obtain ⟨v0, v1, rfl, q0, q1⟩ := repL2_inv h2
  rw [rep_int] at q1
  subst q1
  obtain ⟨a, c, rfl, hs⟩ := items_of_rep q0
  exact sto_shut hs
theorem ValidStore_AC (s : Sto) (t : VC) : AC Try.prog 42 [storeT t s] 0 (fun r => r = .bool (storeB s)) := by
  refine AC.ofGrow (enters_of Try.func42 (by kernel_rfl) (by kernel_rfl)) (fun w L S rb vs h => ?_)
  obtain ⟨v, rfl, h1⟩ := repL1_inv h
  refine (ValidStore_ok s v w (store_of_rep h1)).mono ?_
  rintro e w' ⟨rfl, hg⟩
  exact ⟨_, _, rfl, hg, rep_bool.2 rfl, rfl⟩
theorem validStore_AC (s : Sto) (t : VC) : AC Try.prog 70 [storeT t s] 0 (fun r => r = .bool (storeB s)) := by
  refine AC.ofGrow (enters_of Try.func70 (by kernel_rfl) (by kernel_rfl)) (fun w L S rb vs h => ?_)
  obtain ⟨v, rfl, h1⟩ := repL1_inv h
  refine (validStore_ok s v w (store_of_rep h1)).mono ?_
  rintro e w' ⟨rfl, hg⟩
  exact ⟨_, _, rfl, hg, rep_bool.2 rfl, rfl⟩
theorem validName_AC (x : ByteArray) : AC Try.prog 71 [.str x] 0 (fun r => r = .bool (nameB x)) := by
  refine AC.ofGrow (enters_of Try.func71 (by kernel_rfl) (by kernel_rfl)) (fun w L S rb vs h => ?_)
  obtain ⟨v, rfl, h1⟩ := repL1_inv h
  obtain ⟨rfl, hs⟩ := rep_str.1 h1
  refine (validName_same x w hs).mono ?_
  rintro e w' ⟨rfl, rfl⟩
  exact ⟨_, _, rfl, Ext.refl _ _, rep_bool.2 rfl, rfl⟩
theorem isName_AC (x : ByteArray) : AC Try.prog 77 [.str x] 0 (fun r => r = .bool (nameB x)) := by
  refine AC.ofGrow (enters_of Try.func77 (by kernel_rfl) (by kernel_rfl)) (fun w L S rb vs h => ?_)
  obtain ⟨v, rfl, h1⟩ := repL1_inv h
  obtain ⟨rfl, hs⟩ := rep_str.1 h1
  refine (isName_same x w hs).mono ?_
  rintro e w' ⟨rfl, rfl⟩
  exact ⟨_, _, rfl, Ext.refl _ _, rep_bool.2 rfl, rfl⟩
end Go.Proofs.Ytmeobmegnneegaa.Eng
-- EV: store
namespace Go.Proofs.Ytmeobmegnneegaa.Eng
open Go Go.RowKit
attribute [local simp] big size_mk ASt.pay Option.map_map Function.comp_def awant aop acall ado aev ofVal ofVal0 ASt.put ASt.add ASt.turn ASt.kill abox aalloc astore aload ASt.at cellsTo afieldAddr afield aindexAddr aindex alen abin aint acmp astr aun apick aextract anil aslice abound abuild afill abuildSlice asCells aps avCells over upd aappend asrc amax amin aconv mkSt slots rowsOf_cons rowsOf_nil usedOf_cons usedOf_nil ZK.av List.replicate ASt.back ASt.addL ASt.killL nodeA nodeT nodeTL_eq nodeL_eq strsE_get strsE_len intsE_get intsE_len strsE_at intsE_at itemA itemL_eq storeA storeT storeO itemsRow tab2 tab3 tab4 tab5 tab6 tab7 tab8 tab9 tab10 tab11 tab12 tab13 tab14 tab15 tab16 tab17 tab18 tab19 tab21 tab22 tab23 tab24 tab25 tab26 tab27 tab28 tab31 tab32 tab33 tab37 tab38 tab39 tab46 tab53 tab61 tab62 tab69 tab70 tab98 tab116 tab117 tab125 tab126 tab128 tab136 tab145 tab146 tab151 tab152 tab153 tab155 tab156 tab157
theorem storeB_sml {s : Sto} (h : storeB s = true) : s.1.length ≤ 10 ∧ ∀ x ∈ s.1, Sml x.2.2 := ⟨(storeB_parts h).1, fun x hx => by
  have := (storeB_parts h).2.2.2.1 x hx
  unfold itmB at this
  simp only [Bool.and_eq_true] at this
  exact valid_sml this.2⟩
theorem storeB_smlS {s : Sto} (h : storeB s = true) : SmlS s := ⟨by have := (storeB_sml h).1; omega, (storeB_sml h).2⟩
def dropL (nm : ByteArray) : List Itm → List Itm
  | [] => []
  | x :: l => (if eqs x.1 nm then [] else [x]) ++ dropL nm l
def dropS (s : Sto) (nm : ByteArray) : Sto := (dropL nm s.1, s.2 + 1)
theorem dropL_len (nm : ByteArray) : ∀ (l : List Itm), (dropL nm l).length ≤ l.length
  | [] => by simp [dropL]
  | x :: l => by
    unfold dropL
    have := dropL_len nm l
    rw [List.length_append, List.length_cons]
    split <;> simp <;> omega
theorem dropL_mem (nm : ByteArray) : ∀ (l : List Itm), ∀ y ∈ dropL nm l, y ∈ l
  | [], y, h => by simp [dropL] at h
  | x :: l, y, h => by
    unfold dropL at h
    rcases List.mem_append.1 h with h | h
    · split at h
      · cases h
      · rw [List.mem_singleton.1 h]; simp
    · simp [dropL_mem nm l y h]
theorem drop_ACR (t : VC) (s : Sto) (nm : ByteArray) (hs : SmlS s) (hc : 0 ≤ s.2 ∧ s.2 ≤ 1000000) : ACR Try.prog 108 [storeT t s, .str nm] 0 (fun _ => False) (fun f R => f = storeO (dropS s nm) ∧ R = itemsRow (dropS s nm)) := by
  obtain ⟨hs1, hs2⟩ := id hs
  have hw0 : IntKind.i64.wrap (s.2 + 1) = s.2 + 1 := i64_nat (by omega) (by omega)
  unfold storeT
  refine ACR.of tab_ok mixed_ok Try.func108 (by rfl) (by kernel_rfl) ?_; rintro ⟨P, T, hT, hm, w0, S0, rd0, k0⟩ hP hTT; dsimp only at hP hTT; subst hP hTT; unfold initSt; rw [Try.ntmps108]
  (repeat (first | with_reducible refine AW.seq ?_ | ((first | refine arun_kn 4 rfl (fun C hC => ?_) | refine arunD_kn 4 rfl (fun C hC => ?_)); (repeat ((conv => whnf); simp [hw0])); refine hC _ ?_; clear hC C; simp only [List.drop, Nat.reduceAdd]) | ((first | refine arun_kn 1 rfl (fun C hC => ?_) | refine arunD_kn 1 rfl (fun C hC => ?_)); (repeat ((conv => whnf); simp [hw0])); refine hC _ ?_; clear hC C; simp only [List.drop, Nat.reduceAdd]) | (refine arun_skip ?_ ?_; (focus (simp [awant, hw0]; done))) | (refine arun_c0 (copyStore_AC t s hs) ?_; rintro _ rfl) | (refine AW.regionK [] (fun K hK => ?_)) | (refine AW.regionDK [] (pcs [] []) (by kernel_rfl) (by kernel_rfl) (fun K hK => ?_)) | (refine AW.condT ?_ ?_; (focus (simp [aev, hw0]; done))) | (refine AW.condF ?_ ?_; (focus (simp [aev, hw0]; done))) | with_reducible refine AW.block ?_ | ((first | ((first | refine arun_nil ?_ | refine arunD_nil ?_); refine hK _ ?_; clear hK K) | refine AW.skip ?_ | refine AW.exit ?_ | refine AW.ret ?_); simp only [thenA_exit, inBlockA_exit, if_true, if_false, Nat.reduceEqDiff, thenA_normal, inBlockA_normal, reduceIte, thenA_ret, inBlockA_ret, endQ_ret, endR_ret, endG_ret, endQ_normal, endR_normal, endG_normal])))
  refine AW.adopt 5 5 62 7 ⟨_, tab62, rfl⟩ rfl (by simp [upd]) ?_
  simp only [ASt.adopt, ASt.add]
  refine AW.loopS (fun (x : Nat × List Itm) => mkSt (slots 0 37 [(1, .str nm), (2, .ptr true 2 1 2 0 0), (4, .ptr true 2 1 4 0 0), (5, .own 5 x.2.length), (6, .view .loose 7 (s.1.map itemL)), (7, .int .i64 x.1)]) [(2, ⟨true, 33, 2, [[.view t 7 (s.1.map itemL), .int .i64 s.2]]⟩), (4, ⟨true, 33, 2, [[.view .tight 0 [], .int .i64 0]]⟩), (5, ⟨false, 62, 7, x.2.map itemL⟩)] [2, 4, 5] (rd0.map fun _ => 0)) (fun x => s.1.length - x.1) (fun x => x.1 ≤ s.1.length ∧ dropL nm s.1 = x.2 ++ dropL nm (s.1.drop x.1) ∧ x.2.length ≤ x.1) (0, []) ?_ ⟨Nat.zero_le _, rfl, by simp⟩ ?_
  · dsimp only [List.map_nil, List.length_nil]
    exact less_s
  · rintro ⟨i, acc⟩ ⟨hi, hf, ha⟩
    dsimp only at hi hf ha ⊢
    have hl : (acc.map itemL).length = acc.length := List.length_map _
    by_cases hlt : i < s.1.length
    · have hb1 : (acc.length + 1) * 104 ≤ 140737488355328 := by omega
      have hb2 : acc.length + 1 ≤ 140737488355328 := by clear hb1; omega
      have hw : IntKind.i64.wrap ((i : Int) + 1) = (i : Int) + 1 := i64_nat (by clear hb1 hb2; omega) (by clear hb1 hb2; omega)
      have hd : s.1.drop i = s.1[i] :: s.1.drop (i + 1) := List.drop_eq_getElem_cons hlt
      rw [hd, dropL] at hf
      cases h2 : eqs s.1[i].1 nm <;> rw [h2] at hf
      · (repeat (first | with_reducible refine AW.seq ?_ | ((first | refine arun_kn 4 rfl (fun C hC => ?_) | refine arunD_kn 4 rfl (fun C hC => ?_)); (repeat ((conv => whnf); simp [hlt, hw, h2, hl, hb1, hb2])); refine hC _ ?_; clear hC C; simp only [List.drop, Nat.reduceAdd]) | ((first | refine arun_kn 1 rfl (fun C hC => ?_) | refine arunD_kn 1 rfl (fun C hC => ?_)); (repeat ((conv => whnf); simp [hlt, hw, h2, hl, hb1, hb2])); refine hC _ ?_; clear hC C; simp only [List.drop, Nat.reduceAdd]) | (refine arun_skip ?_ ?_; (focus (simp [awant, hlt, hw, h2, hl, hb1, hb2]; done))) | (refine AW.regionK [] (fun K hK => ?_)) | (refine AW.regionDK [] (pcs [] []) (by kernel_rfl) (by kernel_rfl) (fun K hK => ?_)) | (refine AW.condT ?_ ?_; (focus (simp [aev, hlt, hw, h2, hl, hb1, hb2]; done))) | (refine AW.condF ?_ ?_; (focus (simp [aev, hlt, hw, h2, hl, hb1, hb2]; done))) | with_reducible refine AW.block ?_ | ((first | ((first | refine arun_nil ?_ | refine arunD_nil ?_); refine hK _ ?_; clear hK K) | refine AW.skip ?_ | refine AW.exit ?_ | refine AW.ret ?_); simp only [thenA_exit, inBlockA_exit, if_true, if_false, Nat.reduceEqDiff, thenA_normal, inBlockA_normal, reduceIte, thenA_ret, inBlockA_ret, endQ_ret, endR_ret, endG_ret, endQ_normal, endR_normal, endG_normal])))
        clear hb1 hb2
        refine ⟨(i + 1, acc ++ [s.1[i]]), by dsimp only; omega, ⟨by dsimp only; omega, by rw [hf]; simp, by simp only [List.length_append, List.length_cons, List.length_nil]; omega⟩, ?_⟩
        simp only [List.map_append, List.map_cons, List.map_nil, List.length_append, List.length_cons, List.length_nil]
        exact less_s
      · (repeat (first | with_reducible refine AW.seq ?_ | ((first | refine arun_kn 4 rfl (fun C hC => ?_) | refine arunD_kn 4 rfl (fun C hC => ?_)); (repeat ((conv => whnf); simp [hlt, hw, h2])); refine hC _ ?_; clear hC C; simp only [List.drop, Nat.reduceAdd]) | ((first | refine arun_kn 1 rfl (fun C hC => ?_) | refine arunD_kn 1 rfl (fun C hC => ?_)); (repeat ((conv => whnf); simp [hlt, hw, h2])); refine hC _ ?_; clear hC C; simp only [List.drop, Nat.reduceAdd]) | (refine arun_skip ?_ ?_; (focus (simp [awant, hlt, hw, h2]; done))) | (refine AW.regionK [] (fun K hK => ?_)) | (refine AW.regionDK [] (pcs [] []) (by kernel_rfl) (by kernel_rfl) (fun K hK => ?_)) | (refine AW.condT ?_ ?_; (focus (simp [aev, hlt, hw, h2]; done))) | (refine AW.condF ?_ ?_; (focus (simp [aev, hlt, hw, h2]; done))) | with_reducible refine AW.block ?_ | ((first | ((first | refine arun_nil ?_ | refine arunD_nil ?_); refine hK _ ?_; clear hK K) | refine AW.skip ?_ | refine AW.exit ?_ | refine AW.ret ?_); simp only [thenA_exit, inBlockA_exit, if_true, if_false, Nat.reduceEqDiff, thenA_normal, inBlockA_normal, reduceIte, thenA_ret, inBlockA_ret, endQ_ret, endR_ret, endG_ret, endQ_normal, endR_normal, endG_normal])))
        clear hb1 hb2
        refine ⟨(i + 1, acc), by dsimp only; omega, ⟨by dsimp only; omega, by rw [hf]; simp, by dsimp only; omega⟩, ?_⟩
        dsimp only
        exact less_s
    · have hi' : s.1.drop i = [] := List.drop_eq_nil_of_le (by omega)
      rw [hi', dropL] at hf
      (repeat (first | with_reducible refine AW.seq ?_ | ((first | refine arun_kn 4 rfl (fun C hC => ?_) | refine arunD_kn 4 rfl (fun C hC => ?_)); (repeat ((conv => whnf); simp [hlt, hw0, hl])); refine hC _ ?_; clear hC C; simp only [List.drop, Nat.reduceAdd]) | ((first | refine arun_kn 1 rfl (fun C hC => ?_) | refine arunD_kn 1 rfl (fun C hC => ?_)); (repeat ((conv => whnf); simp [hlt, hw0, hl])); refine hC _ ?_; clear hC C; simp only [List.drop, Nat.reduceAdd]) | (refine arun_skip ?_ ?_; (focus (simp [awant, hlt, hw0, hl]; done))) | (refine AW.regionK [] (fun K hK => ?_)) | (refine AW.regionDK [] (pcs [] []) (by kernel_rfl) (by kernel_rfl) (fun K hK => ?_)) | (refine AW.condT ?_ ?_; (focus (simp [aev, hlt, hw0, hl]; done))) | (refine AW.condF ?_ ?_; (focus (simp [aev, hlt, hw0, hl]; done))) | with_reducible refine AW.block ?_ | ((first | ((first | refine arun_nil ?_ | refine arunD_nil ?_); refine hK _ ?_; clear hK K) | refine AW.skip ?_ | refine AW.exit ?_ | refine AW.ret ?_); simp only [thenA_exit, inBlockA_exit, if_true, if_false, Nat.reduceEqDiff, thenA_normal, inBlockA_normal, reduceIte, thenA_ret, inBlockA_ret, endQ_ret, endR_ret, endG_ret, endQ_normal, endR_normal, endG_normal])))
      have e : dropS s nm = (acc, s.2 + 1) := by unfold dropS; rw [hf]; simp
      exact ⟨storeO (dropS s nm) 5, by rw [e]; simp [ares, aresL, upd, rowsOf_cons], .inr ⟨storeO (dropS s nm), 5, itemsRow (dropS s nm), rfl, by rw [e]; simp [upd, rowsOf_cons, itemsRow], storeO_res _ 5, itemsE_pur _, rfl, rfl⟩⟩
def storeZ : AV := .agg [.view .tight 0 [], .int .i64 0]
def okS (b : Bool) (s : Sto) : Sto := if b then s else ([], 0)
def Res0 (b : Bool) (r : AV) : Prop := b = false ∧ r = .tup [storeZ, .bool false]
def Res (b : Bool) (s : Sto) (f : Nat → AV) (R : Row) : Prop := b = true ∧ f = (fun id => .tup [storeO s id, .bool true]) ∧ R = itemsRow s
def ResS (b : Bool) (s : Sto) (f : Nat → AV) (R : Row) : Prop := f = (fun id => .tup [storeO (okS b s) id, .bool b]) ∧ R = itemsRow (okS b s)
theorem tup_res (s : Sto) (b : Bool) (id0 : Nat) : Res1 id0 (fun id => .tup [storeO s id, .bool b]) := Res1.tup [fun id => storeO s id, fun _ => .bool b] (by
  simp only [List.forall_mem_cons, List.not_mem_nil, false_implies, implies_true, and_true]
  exact ⟨storeO_res s id0, Res1.pur _ pur_bool⟩)
theorem storeZ_pur : Pur (.tup [storeZ, .bool false]) := pur_tup (by
  simp only [List.forall_mem_cons, List.not_mem_nil, false_implies, implies_true, and_true]
  exact ⟨pur_agg (by
    simp only [List.forall_mem_cons, List.not_mem_nil, false_implies, implies_true, and_true]
    exact ⟨pur_view (by decide) (fun e he => by cases he), pur_int⟩), pur_bool⟩)
theorem ACR.rowS {f : FuncId} {args : List AV} {c : Nat} {b : Bool} {s : Sto} (h : ACR Try.prog f args c (Res0 b) (Res b s)) : ACR Try.prog f args c (fun _ => False) (ResS b s) :=
  ⟨h.1, fun w L S rb k vs g0 h1 h2 h3 => (h.2 w L S rb k vs g0 h1 h2 h3).mono fun e w' ⟨v, S', k1, k2, k3, k4, k5, k6⟩ => ⟨v, S', k1, k2, k3, k4, k5, .inr (by
    rcases k6 with ⟨r, q1, rfl, rfl⟩ | ⟨r, R, u, q1, q2, q3, rfl, rfl, rfl⟩
    · obtain ⟨vs, rfl, hl⟩ := rep_tup.1 q1
      obtain ⟨v0, v1, rfl, r0, r1⟩ := repL2_inv hl
      obtain ⟨us, rfl, hone, hl2⟩ := rep_agg.1 r0
      obtain ⟨u0, u1, rfl, t0, t1⟩ := repL2_inv hl2
      obtain ⟨a, c', rfl, ht, _⟩ := rep_view.1 t0
      have hc := ht rfl
      simp only [List.length_nil] at hc
      subst hc
      have le : ∀ id, Cx.Le w' (pureC nil S' none) w' (oneC S' id (.slice a 0 0) 0) := fun id => ⟨fun b hb => ⟨hb, fun _ => rfl⟩, fun b hb => False.elim hb, fun id' hid' => False.elim hid', fun _ h => by cases h⟩
      refine ⟨fun id => .tup [storeO (okS false s) id, .bool false], itemsRow (okS false s), .slice a 0 0, fun id => ?_, ⟨⟨cells_of tab62, fun g hg => by cases a <;> simp [blk] at hg⟩, ?_, (fun h => by cases h), [], .inl ⟨rfl, rfl, _, rfl⟩, ?_, fun u hu => by cases hu⟩, fun g hg => by cases a <;> simp [blk] at hg, rfl, rfl⟩
      · simp only [okS, itemsRow, storeO, List.map_nil, List.length_nil, Bool.false_eq_true, if_false]
        exact rep_tup.2 ⟨_, rfl, repL2 (rep_agg.2 ⟨_, rfl, hone, repL2 (rep_own.2 ⟨rfl, by simp [oneC], ⟨a, 0, rfl, .inl rfl⟩, fun u hu _ => by simp [oneC] at hu; exact hu⟩) (t1.le (le id))⟩) (r1.le (le id))⟩
      · simp [okS, itemsRow]
      · simp only [okS, itemsRow, Bool.false_eq_true, if_false, List.map_nil, List.flatten_nil]; unfold RepL; rfl
    · exact ⟨_, _, u, q1, q2, q3, rfl, rfl⟩)⟩⟩
theorem sub_tup2 {id n : Nat} {c a b : AV} : AV.sub id n c (.tup [a, b]) = .tup [AV.sub id n c a, AV.sub id n c b] := by
  conv => lhs; unfold AV.sub
  rw [subL_cons, subL_cons, subL_nil]
theorem sub_bool {id n : Nat} {c : AV} {b : Bool} : AV.sub id n c (.bool b) = .bool b := by unfold AV.sub; rfl
theorem AC.ofRes {f : FuncId} {args : List AV} {c : Nat} {b : Bool} {s : Sto} (h : ACR Try.prog f args c (fun _ => False) (ResS b s)) : AC Try.prog f args c (fun r => r = .tup [storeA (okS b s), .bool b]) := by
  have e : ∀ x : Sto, AV.sub 0 (itemsRow x).es.length (.view .loose (itemsRow x).sz (itemsRow x).es) (.tup [storeO x 0, .bool b]) = .tup [storeA x, .bool b] := fun x => by
    rw [sub_tup2, storeO_sub, sub_bool]
  refine (AC.ofR h ?_).mono ?_
  · rintro r R ⟨rfl, rfl⟩
    rw [e]
    exact in_tup.2 (by
      simp only [List.forall_mem_cons, List.not_mem_nil, false_implies, implies_true, and_true]
      exact ⟨storeA_in _, in_bool⟩)
  · rintro r (h | ⟨f, R, ⟨rfl, rfl⟩, rfl⟩)
    · exact h.elim
    · exact e _
def putOk (s : Sto) (nm : ByteArray) (n : Nd) : Bool := storeB s && nameB nm && validB n && storeB (putS s nm n)
def dropOk (s : Sto) (nm : ByteArray) : Bool := storeB s && !(decide (findI s nm < 0)) && !(s.2 == 999)
theorem specPut_ACR0 (t t' : VC) (s : Sto) (nm : ByteArray) (n : Nd) : ACR Try.prog 24 [storeT t s, .str nm, nodeT t' n] 0 (Res0 (putOk s nm n)) (Res (putOk s nm n) (putS s nm n)) := by
  unfold storeT nodeT
  rw [nodeTL_eq]
  refine ACR.of tab_ok mixed_ok Try.func24 (by rfl) (by kernel_rfl) ?_; rintro ⟨P, T, hT, hm, w0, S0, rd0, k0⟩ hP hTT; dsimp only at hP hTT; subst hP hTT; unfold initSt; rw [Try.ntmps24]
  cases h1 : storeB s
  · (repeat (first | with_reducible refine AW.seq ?_ | ((first | refine arun_kn 4 rfl (fun C hC => ?_) | refine arunD_kn 4 rfl (fun C hC => ?_)); (repeat ((conv => whnf); simp [h1])); refine hC _ ?_; clear hC C; simp only [List.drop, Nat.reduceAdd]) | ((first | refine arun_kn 1 rfl (fun C hC => ?_) | refine arunD_kn 1 rfl (fun C hC => ?_)); (repeat ((conv => whnf); simp [h1])); refine hC _ ?_; clear hC C; simp only [List.drop, Nat.reduceAdd]) | (refine arun_skip ?_ ?_; (focus (simp [awant, h1]; done))) | (refine arun_c0 (validStore_AC s t) ?_; rintro _ rfl) | (refine AW.regionK [] (fun K hK => ?_)) | (refine AW.regionDK [] (pcs [] []) (by kernel_rfl) (by kernel_rfl) (fun K hK => ?_)) | (refine AW.condT ?_ ?_; (focus (simp [aev, h1]; done))) | (refine AW.condF ?_ ?_; (focus (simp [aev, h1]; done))) | with_reducible refine AW.block ?_ | ((first | ((first | refine arun_nil ?_ | refine arunD_nil ?_); refine hK _ ?_; clear hK K) | refine AW.skip ?_ | refine AW.exit ?_ | refine AW.ret ?_); simp only [thenA_exit, inBlockA_exit, if_true, if_false, Nat.reduceEqDiff, thenA_normal, inBlockA_normal, reduceIte, thenA_ret, inBlockA_ret, endQ_ret, endR_ret, endG_ret, endQ_normal, endR_normal, endG_normal])))
    exact ⟨_, by simp [ares, aresL, upd, rowsOf_cons]; rfl, .inl ⟨storeZ_pur, by simp [putOk, h1], rfl⟩⟩
  cases h2 : nameB nm
  · (repeat (first | with_reducible refine AW.seq ?_ | ((first | refine arun_kn 4 rfl (fun C hC => ?_) | refine arunD_kn 4 rfl (fun C hC => ?_)); (repeat ((conv => whnf); simp [h1, h2])); refine hC _ ?_; clear hC C; simp only [List.drop, Nat.reduceAdd]) | ((first | refine arun_kn 1 rfl (fun C hC => ?_) | refine arunD_kn 1 rfl (fun C hC => ?_)); (repeat ((conv => whnf); simp [h1, h2])); refine hC _ ?_; clear hC C; simp only [List.drop, Nat.reduceAdd]) | (refine arun_skip ?_ ?_; (focus (simp [awant, h1, h2]; done))) | (refine arun_c0 (validStore_AC s t) ?_; rintro _ rfl) | (refine arun_c0 (validName_AC nm) ?_; rintro _ rfl) | (refine AW.regionK [] (fun K hK => ?_)) | (refine AW.regionDK [] (pcs [] []) (by kernel_rfl) (by kernel_rfl) (fun K hK => ?_)) | (refine AW.condT ?_ ?_; (focus (simp [aev, h1, h2]; done))) | (refine AW.condF ?_ ?_; (focus (simp [aev, h1, h2]; done))) | with_reducible refine AW.block ?_ | ((first | ((first | refine arun_nil ?_ | refine arunD_nil ?_); refine hK _ ?_; clear hK K) | refine AW.skip ?_ | refine AW.exit ?_ | refine AW.ret ?_); simp only [thenA_exit, inBlockA_exit, if_true, if_false, Nat.reduceEqDiff, thenA_normal, inBlockA_normal, reduceIte, thenA_ret, inBlockA_ret, endQ_ret, endR_ret, endG_ret, endQ_normal, endR_normal, endG_normal])))
    exact ⟨_, by simp [ares, aresL, upd, rowsOf_cons]; rfl, .inl ⟨storeZ_pur, by simp [putOk, h1, h2], rfl⟩⟩
  cases h3 : validB n
  · (repeat (first | with_reducible refine AW.seq ?_ | ((first | refine arun_kn 4 rfl (fun C hC => ?_) | refine arunD_kn 4 rfl (fun C hC => ?_)); (repeat ((conv => whnf); simp [h1, h2, h3])); refine hC _ ?_; clear hC C; simp only [List.drop, Nat.reduceAdd]) | ((first | refine arun_kn 1 rfl (fun C hC => ?_) | refine arunD_kn 1 rfl (fun C hC => ?_)); (repeat ((conv => whnf); simp [h1, h2, h3])); refine hC _ ?_; clear hC C; simp only [List.drop, Nat.reduceAdd]) | (refine arun_skip ?_ ?_; (focus (simp [awant, h1, h2, h3]; done))) | (refine arun_c0 (validStore_AC s t) ?_; rintro _ rfl) | (refine arun_c0 (validName_AC nm) ?_; rintro _ rfl) | (refine arun_c0 (validNode_AC n t') ?_; rintro _ rfl) | (refine AW.regionK [] (fun K hK => ?_)) | (refine AW.regionDK [] (pcs [] []) (by kernel_rfl) (by kernel_rfl) (fun K hK => ?_)) | (refine AW.condT ?_ ?_; (focus (simp [aev, h1, h2, h3]; done))) | (refine AW.condF ?_ ?_; (focus (simp [aev, h1, h2, h3]; done))) | with_reducible refine AW.block ?_ | ((first | ((first | refine arun_nil ?_ | refine arunD_nil ?_); refine hK _ ?_; clear hK K) | refine AW.skip ?_ | refine AW.exit ?_ | refine AW.ret ?_); simp only [thenA_exit, inBlockA_exit, if_true, if_false, Nat.reduceEqDiff, thenA_normal, inBlockA_normal, reduceIte, thenA_ret, inBlockA_ret, endQ_ret, endR_ret, endG_ret, endQ_normal, endR_normal, endG_normal])))
    exact ⟨_, by simp [ares, aresL, upd, rowsOf_cons]; rfl, .inl ⟨storeZ_pur, by simp [putOk, h1, h2, h3], rfl⟩⟩
  obtain ⟨_, q1, q2, _⟩ := storeB_parts h1
  have hput := put_ACR t t' s nm n (storeB_smlS h1) (valid_sml h3) ⟨q1, by omega⟩
  cases h4 : storeB (putS s nm n)
  · (repeat (first | with_reducible refine AW.seq ?_ | ((first | refine arun_kn 4 rfl (fun C hC => ?_) | refine arunD_kn 4 rfl (fun C hC => ?_)); (repeat ((conv => whnf); simp [h1, h2, h3, h4])); refine hC _ ?_; clear hC C; simp only [List.drop, Nat.reduceAdd]) | ((first | refine arun_kn 1 rfl (fun C hC => ?_) | refine arunD_kn 1 rfl (fun C hC => ?_)); (repeat ((conv => whnf); simp [h1, h2, h3, h4])); refine hC _ ?_; clear hC C; simp only [List.drop, Nat.reduceAdd]) | (refine arun_skip ?_ ?_; (focus (simp [awant, h1, h2, h3, h4]; done))) | (refine arun_c0 (validStore_AC s t) ?_; rintro _ rfl) | (refine arun_c0 (validName_AC nm) ?_; rintro _ rfl) | (refine arun_c0 (validNode_AC n t') ?_; rintro _ rfl) | (refine arun_cR (0) 90 (hput) ?_; (rintro _ _ ⟨rfl, rfl⟩)) | (refine arun_cL (0) (validStore_AC (putS s nm n) .lent) ?_; rintro _ rfl) | (refine AW.regionK [] (fun K hK => ?_)) | (refine AW.regionDK [] (pcs [] []) (by kernel_rfl) (by kernel_rfl) (fun K hK => ?_)) | (refine AW.condT ?_ ?_; (focus (simp [aev, h1, h2, h3, h4]; done))) | (refine AW.condF ?_ ?_; (focus (simp [aev, h1, h2, h3, h4]; done))) | with_reducible refine AW.block ?_ | ((first | ((first | refine arun_nil ?_ | refine arunD_nil ?_); refine hK _ ?_; clear hK K) | refine AW.skip ?_ | refine AW.exit ?_ | refine AW.ret ?_); simp only [thenA_exit, inBlockA_exit, if_true, if_false, Nat.reduceEqDiff, thenA_normal, inBlockA_normal, reduceIte, thenA_ret, inBlockA_ret, endQ_ret, endR_ret, endG_ret, endQ_normal, endR_normal, endG_normal])))
    exact ⟨_, by simp [ares, aresL, upd, rowsOf_cons]; rfl, .inl ⟨storeZ_pur, by simp [putOk, h1, h2, h3, h4], rfl⟩⟩
  · (repeat (first | with_reducible refine AW.seq ?_ | ((first | refine arun_kn 4 rfl (fun C hC => ?_) | refine arunD_kn 4 rfl (fun C hC => ?_)); (repeat ((conv => whnf); simp [h1, h2, h3, h4])); refine hC _ ?_; clear hC C; simp only [List.drop, Nat.reduceAdd]) | ((first | refine arun_kn 1 rfl (fun C hC => ?_) | refine arunD_kn 1 rfl (fun C hC => ?_)); (repeat ((conv => whnf); simp [h1, h2, h3, h4])); refine hC _ ?_; clear hC C; simp only [List.drop, Nat.reduceAdd]) | (refine arun_skip ?_ ?_; (focus (simp [awant, h1, h2, h3, h4]; done))) | (refine arun_c0 (validStore_AC s t) ?_; rintro _ rfl) | (refine arun_c0 (validName_AC nm) ?_; rintro _ rfl) | (refine arun_c0 (validNode_AC n t') ?_; rintro _ rfl) | (refine arun_cR (0) 90 (hput) ?_; (rintro _ _ ⟨rfl, rfl⟩)) | (refine arun_cL (0) (validStore_AC (putS s nm n) .lent) ?_; rintro _ rfl) | (refine AW.regionK [] (fun K hK => ?_)) | (refine AW.regionDK [] (pcs [] []) (by kernel_rfl) (by kernel_rfl) (fun K hK => ?_)) | (refine AW.condT ?_ ?_; (focus (simp [aev, h1, h2, h3, h4]; done))) | (refine AW.condF ?_ ?_; (focus (simp [aev, h1, h2, h3, h4]; done))) | with_reducible refine AW.block ?_ | ((first | ((first | refine arun_nil ?_ | refine arunD_nil ?_); refine hK _ ?_; clear hK K) | refine AW.skip ?_ | refine AW.exit ?_ | refine AW.ret ?_); simp only [thenA_exit, inBlockA_exit, if_true, if_false, Nat.reduceEqDiff, thenA_normal, inBlockA_normal, reduceIte, thenA_ret, inBlockA_ret, endQ_ret, endR_ret, endG_ret, endQ_normal, endR_normal, endG_normal])))
    exact ⟨.tup [storeO (putS s nm n) 90, .bool true], by simp [ares, aresL, upd, rowsOf_cons], .inr ⟨fun id => .tup [storeO (putS s nm n) id, .bool true], 90, itemsRow (putS s nm n), rfl, by simp [upd, itemsRow], tup_res _ true 90, itemsE_pur _, by simp [putOk, h1, h2, h3, h4], rfl, rfl⟩⟩
theorem specPut_ACR (t t' : VC) (s : Sto) (nm : ByteArray) (n : Nd) : ACR Try.prog 24 [storeT t s, .str nm, nodeT t' n] 0 (fun _ => False) (ResS (putOk s nm n) (putS s nm n)) := (specPut_ACR0 t t' s nm n).rowS
theorem specPut_AC (t t' : VC) (s : Sto) (nm : ByteArray) (n : Nd) : AC Try.prog 24 [storeT t s, .str nm, nodeT t' n] 0 (fun r => r = .tup [storeA (okS (putOk s nm n) (putS s nm n)), .bool (putOk s nm n)]) := AC.ofRes (specPut_ACR t t' s nm n)
theorem specDrop_ACR0 (t : VC) (s : Sto) (nm : ByteArray) : ACR Try.prog 61 [storeT t s, .str nm] 0 (Res0 (dropOk s nm)) (Res (dropOk s nm) (dropS s nm)) := by
  unfold storeT
  refine ACR.of tab_ok mixed_ok Try.func61 (by rfl) (by kernel_rfl) ?_; rintro ⟨P, T, hT, hm, w0, S0, rd0, k0⟩ hP hTT; dsimp only at hP hTT; subst hP hTT; unfold initSt; rw [Try.ntmps61]
  cases h1 : storeB s
  · (repeat (first | with_reducible refine AW.seq ?_ | ((first | refine arun_kn 4 rfl (fun C hC => ?_) | refine arunD_kn 4 rfl (fun C hC => ?_)); (repeat ((conv => whnf); simp [h1])); refine hC _ ?_; clear hC C; simp only [List.drop, Nat.reduceAdd]) | ((first | refine arun_kn 1 rfl (fun C hC => ?_) | refine arunD_kn 1 rfl (fun C hC => ?_)); (repeat ((conv => whnf); simp [h1])); refine hC _ ?_; clear hC C; simp only [List.drop, Nat.reduceAdd]) | (refine arun_skip ?_ ?_; (focus (simp [awant, h1]; done))) | (refine arun_c0 (validStore_AC s t) ?_; rintro _ rfl) | (refine AW.regionK [] (fun K hK => ?_)) | (refine AW.regionDK [] (pcs [] []) (by kernel_rfl) (by kernel_rfl) (fun K hK => ?_)) | (refine AW.condT ?_ ?_; (focus (simp [aev, h1]; done))) | (refine AW.condF ?_ ?_; (focus (simp [aev, h1]; done))) | with_reducible refine AW.block ?_ | ((first | ((first | refine arun_nil ?_ | refine arunD_nil ?_); refine hK _ ?_; clear hK K) | refine AW.skip ?_ | refine AW.exit ?_ | refine AW.ret ?_); simp only [thenA_exit, inBlockA_exit, if_true, if_false, Nat.reduceEqDiff, thenA_normal, inBlockA_normal, reduceIte, thenA_ret, inBlockA_ret, endQ_ret, endR_ret, endG_ret, endQ_normal, endR_normal, endG_normal])))
    exact ⟨_, by simp [ares, aresL, upd, rowsOf_cons]; rfl, .inl ⟨storeZ_pur, by simp [dropOk, h1], rfl⟩⟩
  obtain ⟨q0, q1, q2, _⟩ := storeB_parts h1
  have hdrop := drop_ACR t s nm (storeB_smlS h1) ⟨q1, by omega⟩
  have hfind := find_AC t s nm (by omega)
  by_cases h2 : findI s nm < 0
  · (repeat (first | with_reducible refine AW.seq ?_ | ((first | refine arun_kn 4 rfl (fun C hC => ?_) | refine arunD_kn 4 rfl (fun C hC => ?_)); (repeat ((conv => whnf); simp [h1, h2])); refine hC _ ?_; clear hC C; simp only [List.drop, Nat.reduceAdd]) | ((first | refine arun_kn 1 rfl (fun C hC => ?_) | refine arunD_kn 1 rfl (fun C hC => ?_)); (repeat ((conv => whnf); simp [h1, h2])); refine hC _ ?_; clear hC C; simp only [List.drop, Nat.reduceAdd]) | (refine arun_skip ?_ ?_; (focus (simp [awant, h1, h2]; done))) | (refine arun_c0 (validStore_AC s t) ?_; rintro _ rfl) | (refine arun_c0 (hfind) ?_; rintro _ rfl) | (refine AW.regionK [] (fun K hK => ?_)) | (refine AW.regionDK [] (pcs [] []) (by kernel_rfl) (by kernel_rfl) (fun K hK => ?_)) | (refine AW.condT ?_ ?_; (focus (simp [aev, h1, h2]; done))) | (refine AW.condF ?_ ?_; (focus (simp [aev, h1, h2]; done))) | with_reducible refine AW.block ?_ | ((first | ((first | refine arun_nil ?_ | refine arunD_nil ?_); refine hK _ ?_; clear hK K) | refine AW.skip ?_ | refine AW.exit ?_ | refine AW.ret ?_); simp only [thenA_exit, inBlockA_exit, if_true, if_false, Nat.reduceEqDiff, thenA_normal, inBlockA_normal, reduceIte, thenA_ret, inBlockA_ret, endQ_ret, endR_ret, endG_ret, endQ_normal, endR_normal, endG_normal])))
    exact ⟨_, by simp [ares, aresL, upd, rowsOf_cons]; rfl, .inl ⟨storeZ_pur, by simp [dropOk, h1, h2], rfl⟩⟩
  cases h3 : (s.2 == 999)
  · (repeat (first | with_reducible refine AW.seq ?_ | ((first | refine arun_kn 4 rfl (fun C hC => ?_) | refine arunD_kn 4 rfl (fun C hC => ?_)); (repeat ((conv => whnf); simp [h1, h2, h3])); refine hC _ ?_; clear hC C; simp only [List.drop, Nat.reduceAdd]) | ((first | refine arun_kn 1 rfl (fun C hC => ?_) | refine arunD_kn 1 rfl (fun C hC => ?_)); (repeat ((conv => whnf); simp [h1, h2, h3])); refine hC _ ?_; clear hC C; simp only [List.drop, Nat.reduceAdd]) | (refine arun_skip ?_ ?_; (focus (simp [awant, h1, h2, h3]; done))) | (refine arun_c0 (validStore_AC s t) ?_; rintro _ rfl) | (refine arun_c0 (hfind) ?_; rintro _ rfl) | (refine arun_cR (0) 90 (hdrop) ?_; (rintro _ _ ⟨rfl, rfl⟩)) | (refine AW.regionK [] (fun K hK => ?_)) | (refine AW.regionDK [] (pcs [] []) (by kernel_rfl) (by kernel_rfl) (fun K hK => ?_)) | (refine AW.condT ?_ ?_; (focus (simp [aev, h1, h2, h3]; done))) | (refine AW.condF ?_ ?_; (focus (simp [aev, h1, h2, h3]; done))) | with_reducible refine AW.block ?_ | ((first | ((first | refine arun_nil ?_ | refine arunD_nil ?_); refine hK _ ?_; clear hK K) | refine AW.skip ?_ | refine AW.exit ?_ | refine AW.ret ?_); simp only [thenA_exit, inBlockA_exit, if_true, if_false, Nat.reduceEqDiff, thenA_normal, inBlockA_normal, reduceIte, thenA_ret, inBlockA_ret, endQ_ret, endR_ret, endG_ret, endQ_normal, endR_normal, endG_normal])))
    exact ⟨.tup [storeO (dropS s nm) 90, .bool true], by simp [ares, aresL, upd, rowsOf_cons], .inr ⟨fun id => .tup [storeO (dropS s nm) id, .bool true], 90, itemsRow (dropS s nm), rfl, by simp [upd, itemsRow], tup_res _ true 90, itemsE_pur _, by simp [dropOk, h1, h2, h3], rfl, rfl⟩⟩
  · (repeat (first | with_reducible refine AW.seq ?_ | ((first | refine arun_kn 4 rfl (fun C hC => ?_) | refine arunD_kn 4 rfl (fun C hC => ?_)); (repeat ((conv => whnf); simp [h1, h2, h3])); refine hC _ ?_; clear hC C; simp only [List.drop, Nat.reduceAdd]) | ((first | refine arun_kn 1 rfl (fun C hC => ?_) | refine arunD_kn 1 rfl (fun C hC => ?_)); (repeat ((conv => whnf); simp [h1, h2, h3])); refine hC _ ?_; clear hC C; simp only [List.drop, Nat.reduceAdd]) | (refine arun_skip ?_ ?_; (focus (simp [awant, h1, h2, h3]; done))) | (refine arun_c0 (validStore_AC s t) ?_; rintro _ rfl) | (refine arun_c0 (hfind) ?_; rintro _ rfl) | (refine AW.regionK [] (fun K hK => ?_)) | (refine AW.regionDK [] (pcs [] []) (by kernel_rfl) (by kernel_rfl) (fun K hK => ?_)) | (refine AW.condT ?_ ?_; (focus (simp [aev, h1, h2, h3]; done))) | (refine AW.condF ?_ ?_; (focus (simp [aev, h1, h2, h3]; done))) | with_reducible refine AW.block ?_ | ((first | ((first | refine arun_nil ?_ | refine arunD_nil ?_); refine hK _ ?_; clear hK K) | refine AW.skip ?_ | refine AW.exit ?_ | refine AW.ret ?_); simp only [thenA_exit, inBlockA_exit, if_true, if_false, Nat.reduceEqDiff, thenA_normal, inBlockA_normal, reduceIte, thenA_ret, inBlockA_ret, endQ_ret, endR_ret, endG_ret, endQ_normal, endR_normal, endG_normal])))
    exact ⟨_, by simp [ares, aresL, upd, rowsOf_cons]; rfl, .inl ⟨storeZ_pur, by simp [dropOk, h1, h2, h3], rfl⟩⟩
theorem specDrop_ACR (t : VC) (s : Sto) (nm : ByteArray) : ACR Try.prog 61 [storeT t s, .str nm] 0 (fun _ => False) (ResS (dropOk s nm) (dropS s nm)) := (specDrop_ACR0 t s nm).rowS
theorem specDrop_AC (t : VC) (s : Sto) (nm : ByteArray) : AC Try.prog 61 [storeT t s, .str nm] 0 (fun r => r = .tup [storeA (okS (dropOk s nm) (dropS s nm)), .bool (dropOk s nm)]) := AC.ofRes (specDrop_ACR t s nm)
end Go.Proofs.Ytmeobmegnneegaa.Eng
-- EV: store
namespace Go.Proofs.Ytmeobmegnneegaa.Eng
open Go Go.RowKit
attribute [local simp] big size_mk ASt.pay Option.map_map Function.comp_def awant aop acall ado aev ofVal ofVal0 ASt.put ASt.add ASt.turn ASt.kill abox aalloc astore aload ASt.at cellsTo afieldAddr afield aindexAddr aindex alen abin aint acmp astr aun apick aextract anil aslice abound abuild afill abuildSlice asCells aps avCells over upd aappend asrc amax amin aconv mkSt slots rowsOf_cons rowsOf_nil usedOf_cons usedOf_nil ZK.av List.replicate ASt.back ASt.addL ASt.killL nodeA nodeT nodeTL_eq nodeL_eq strsE_get strsE_len intsE_get intsE_len strsE_at intsE_at itemA itemL_eq storeA storeT storeO itemsRow tab2 tab3 tab4 tab5 tab6 tab7 tab8 tab9 tab10 tab11 tab12 tab13 tab14 tab15 tab16 tab17 tab18 tab19 tab21 tab22 tab23 tab24 tab25 tab26 tab27 tab28 tab31 tab32 tab33 tab37 tab38 tab39 tab46 tab53 tab61 tab62 tab69 tab70 tab98 tab116 tab117 tab125 tab126 tab128 tab136 tab145 tab146 tab151 tab152 tab153 tab155 tab156 tab157
theorem specPut_gen (t t' : VC) (s : Sto) (nm : ByteArray) (n : Nd) : ACR Try.prog 24 [storeT t s, .str nm, nodeT t' n] 0 (fun r => r = .tup [storeZ, .bool false]) (fun f R => ∃ s' : Sto, s'.1.length ≤ 10 ∧ f = (fun id => .tup [storeO s' id, .bool true]) ∧ R = itemsRow s') :=
  (specPut_ACR0 t t' s nm n).mono (fun r h => h.2) (fun r R ⟨h1, h2, h3⟩ => ⟨_, by unfold putOk at h1; simp only [Bool.and_eq_true] at h1; exact (storeB_sml h1.2).1, h2, h3⟩)
theorem specDrop_gen (t : VC) (s : Sto) (nm : ByteArray) : ACR Try.prog 61 [storeT t s, .str nm] 0 (fun r => r = .tup [storeZ, .bool false]) (fun f R => ∃ s' : Sto, s'.1.length ≤ 10 ∧ f = (fun id => .tup [storeO s' id, .bool true]) ∧ R = itemsRow s') :=
  (specDrop_ACR0 t s nm).mono (fun r h => h.2) (fun r R ⟨h1, h2, h3⟩ => ⟨_, by unfold dropOk at h1; simp only [Bool.and_eq_true] at h1; have := dropL_len nm s.1; have := (storeB_sml h1.1.1).1; simp only [dropS]; omega, h2, h3⟩)
theorem storeZ_noid : NoId (.tup [storeZ, .bool false]) := in_tup.2 (by
  simp only [List.forall_mem_cons, List.not_mem_nil, false_implies, implies_true, and_true]
  exact ⟨in_agg.2 (by
    simp only [List.forall_mem_cons, List.not_mem_nil, false_implies, implies_true, and_true]
    exact ⟨in_vnil, in_int⟩), in_bool⟩)
theorem someNode_AC : AC Try.prog 126 [.rdr] (nC 3 + 10 + 4 * nC 2) (fun r => ∃ n, SmlV n ∧ r = nodeA n) := by
  refine (AC.ofR someNode_ACR ?_).mono ?_
  · rintro r R ⟨n, _, rfl, rfl⟩
    rw [nodeN_sub]; exact node_in n
  · rintro r (h | ⟨f, R, ⟨n, h1, rfl, rfl⟩, rfl⟩)
    · exact h.elim
    · rw [nodeN_sub]; exact ⟨n, h1, rfl⟩
theorem str_ex : ∃ r, (∃ x : ByteArray, x.size ≤ 12 ∧ r = AV.str x) ∧ NoId r := ⟨_, ⟨⟨#[]⟩, by decide, rfl⟩, in_str⟩
theorem node_ex : ∃ r, (∃ n, SmlV n ∧ r = nodeA n) ∧ NoId r := ⟨_, ⟨_, ⟨sml_leaf 0 0 ⟨#[]⟩, valid0⟩, rfl⟩, node_in _⟩
def store10 (s : Sto) : Prop := s.1.length ≤ 10
theorem someStore_ACR : ACR Try.prog 119 [.rdr] (1 + 12 * (nC 3 + 13 + 4 * nC 2)) (fun _ => False) (SR1 store10) := by
  have hS := someNode_AC
  generalize hC : nC 3 + 10 + 4 * nC 2 = C at *
  have hC' : 1 + 12 * (nC 3 + 13 + 4 * nC 2) = 1 + 12 * (C + 3) := by omega
  rw [hC']
  clear hC hC'
  refine ACR.of tab_ok mixed_ok Try.func119 (by rfl) (by kernel_rfl) ?_; rintro ⟨P, T, hT, hm, w0, S0, rd0, k0⟩ hP hTT; dsimp only at hP hTT; subst hP hTT; unfold initSt; rw [Try.ntmps119]
  (repeat (first | with_reducible refine AW.seq ?_ | ((first | refine arun_kn 4 rfl (fun C hC => ?_) | refine arunD_kn 4 rfl (fun C hC => ?_)); (repeat ((conv => whnf); simp)); refine hC _ ?_; clear hC C; simp only [List.drop, Nat.reduceAdd]) | ((first | refine arun_kn 1 rfl (fun C hC => ?_) | refine arunD_kn 1 rfl (fun C hC => ?_)); (repeat ((conv => whnf); simp)); refine hC _ ?_; clear hC C; simp only [List.drop, Nat.reduceAdd]) | (refine arun_skip ?_ ?_; (focus (simp [awant]; done))) | (refine arun_cU (1) rfl (one_ACU _ _ (by rfl) (by simp) (by simp)) ?_; (rintro r ⟨y, hy, rfl⟩)) | (refine AW.regionK [] (fun K hK => ?_)) | (refine AW.regionDK [] (pcs [] []) (by kernel_rfl) (by kernel_rfl) (fun K hK => ?_)) | (refine AW.condT ?_ ?_; (focus (simp [aev]; done))) | (refine AW.condF ?_ ?_; (focus (simp [aev]; done))) | with_reducible refine AW.block ?_ | ((first | ((first | refine arun_nil ?_ | refine arunD_nil ?_); refine hK _ ?_; clear hK K) | refine AW.skip ?_ | refine AW.exit ?_ | refine AW.ret ?_); simp only [thenA_exit, inBlockA_exit, if_true, if_false, Nat.reduceEqDiff, thenA_normal, inBlockA_normal, reduceIte, thenA_ret, inBlockA_ret, endQ_ret, endR_ret, endG_ret, endQ_normal, endR_normal, endG_normal])))
  have hy4 : 0 ≤ y ∧ y ≤ 12 := by simp [intOf] at hy; omega
  clear hy
  obtain ⟨j, rfl⟩ := Int.eq_ofNat_of_zero_le hy4.1
  refine AW.adoptB 3 0 36 62 7 ⟨_, tab62, rfl⟩ (by simp [upd]; rfl) rfl rfl (by simp [upd]) ?_
  simp [ASt.adoptB, upd]
  refine AW.loopS (fun (x : Sto × Nat × Nat) => mkSt (slots 0 38 [(0, .rdr), (2, .ptr true 2 1 2 0 0), (3, .ptr true 2 1 3 0 0), (4, .int .i64 (x.2.1 : Int))]) [(2, ⟨true, 33, 2, [[.view .tight 0 [], .int .i64 0]]⟩), (3, ⟨true, 33, 2, [[.own 36 x.1.1.length, .int .i64 x.1.2]]⟩), (36, ⟨false, 62, 7, x.1.1.map itemL⟩)] [2, 3, 36] (rd0.map fun _ => x.2.2)) (fun x => x.2.1) (fun x => x.1.1.length ≤ 10 ∧ x.2.1 ≤ 12 ∧ x.2.1 * (C + 3) ≤ x.2.2) (([], 0), j, 12 * (C + 3)) ?_ ⟨by simp, by dsimp only; omega, Nat.mul_le_mul_right (C + 3) (show j ≤ 12 by omega)⟩ ?_
  · dsimp only [List.map_nil, List.length_nil]
    exact less_s
  · rintro ⟨⟨l, ck⟩, j, b⟩ ⟨g1, g2, g3⟩
    dsimp only at g1 g2 g3 ⊢
    cases j with
    | zero =>
      (repeat (first | with_reducible refine AW.seq ?_ | ((first | refine arun_kn 4 rfl (fun C hC => ?_) | refine arunD_kn 4 rfl (fun C hC => ?_)); (repeat ((conv => whnf); simp)); refine hC _ ?_; clear hC C; simp only [List.drop, Nat.reduceAdd]) | ((first | refine arun_kn 1 rfl (fun C hC => ?_) | refine arunD_kn 1 rfl (fun C hC => ?_)); (repeat ((conv => whnf); simp)); refine hC _ ?_; clear hC C; simp only [List.drop, Nat.reduceAdd]) | (refine arun_skip ?_ ?_; (focus (simp [awant]; done))) | (refine AW.regionK [] (fun K hK => ?_)) | (refine AW.regionDK [] (pcs [] []) (by kernel_rfl) (by kernel_rfl) (fun K hK => ?_)) | (refine AW.condT ?_ ?_; (focus (simp [aev]; done))) | (refine AW.condF ?_ ?_; (focus (simp [aev]; done))) | with_reducible refine AW.block ?_ | ((first | ((first | refine arun_nil ?_ | refine arunD_nil ?_); refine hK _ ?_; clear hK K) | refine AW.skip ?_ | refine AW.exit ?_ | refine AW.ret ?_); simp only [thenA_exit, inBlockA_exit, if_true, if_false, Nat.reduceEqDiff, thenA_normal, inBlockA_normal, reduceIte, thenA_ret, inBlockA_ret, endQ_ret, endR_ret, endG_ret, endQ_normal, endR_normal, endG_normal])))
      exact ⟨storeO (l, ck) 36, by simp [ares, aresL, upd, rowsOf_cons], .inr ⟨storeO (l, ck), 36, itemsRow (l, ck), rfl, by simp [upd, rowsOf_cons, itemsRow], storeO_res _ 36, itemsE_pur _, (l, ck), g1, rfl, rfl⟩⟩
    | succ j =>
      have hw : IntKind.i64.wrap (j : Int) = (j : Int) := i64_nat (by omega) (by omega)
      have hpos : (0 : Int) < (j : Int) + 1 := by omega
      have hjc : (j + 1) * (C + 3) = j * (C + 3) + (C + 3) := Nat.succ_mul _ _
      (repeat (first | with_reducible refine AW.seq ?_ | ((first | refine arun_kn 4 rfl (fun C hC => ?_) | refine arunD_kn 4 rfl (fun C hC => ?_)); (repeat ((conv => whnf); simp [hw, hpos, storeZ])); refine hC _ ?_; clear hC C; simp only [List.drop, Nat.reduceAdd]) | ((first | refine arun_kn 1 rfl (fun C hC => ?_) | refine arunD_kn 1 rfl (fun C hC => ?_)); (repeat ((conv => whnf); simp [hw, hpos, storeZ])); refine hC _ ?_; clear hC C; simp only [List.drop, Nat.reduceAdd]) | (refine arun_skip ?_ ?_; (focus (simp [awant, hw, hpos, storeZ]; done))) | (refine arun_c (1) (itemName_AC) ?_; (rintro _ ⟨nm, hnm, rfl⟩)) | (refine arun_c (C) (hS) ?_; (rintro _ ⟨n, hn, rfl⟩)) | (refine arun_c (1) (pick_AC 8 (by omega) (by omega)) ?_; (rintro _ ⟨v, rfl, -⟩)) | (refine arunD_cE (1) (itemName_AC) (by exact str_ex) ?_; (rintro _ ⟨nm, hnm, rfl⟩); intro _) | (refine arunD_cE (C) (hS) (by exact node_ex) ?_; (rintro _ ⟨n, hn, rfl⟩); intro _) | (refine arunD_sE (0) (specPut_gen .lent .loose (l, ck) nm n) (by exact ⟨_, rfl, storeZ_noid⟩) ?_ ?_; (rintro _ rfl -)) | (refine arunD_c (1) (pick_AC 8 (by omega) (by omega)) ?_; (rintro _ ⟨v, rfl, -⟩); intro _) | (refine AW.regionK [] (fun K hK => ?_)) | (refine AW.regionDK [] (pcs [(2, 1, fun r => ∃ x : ByteArray, x.size ≤ 12 ∧ r = .str x), (4, C, fun r => ∃ n, SmlV n ∧ r = nodeA n)] [5]) (by kernel_rfl) (by kernel_rfl) (fun K hK => ?_)) | (refine AW.condT ?_ ?_; (focus (simp [aev, hw, hpos, storeZ]; done))) | (refine AW.condF ?_ ?_; (focus (simp [aev, hw, hpos, storeZ]; done))) | with_reducible refine AW.block ?_ | ((first | ((first | refine arun_nil ?_ | refine arunD_nil ?_); refine hK _ ?_; clear hK K) | refine AW.skip ?_ | refine AW.exit ?_ | refine AW.ret ?_); simp only [thenA_exit, inBlockA_exit, if_true, if_false, Nat.reduceEqDiff, thenA_normal, inBlockA_normal, reduceIte, thenA_ret, inBlockA_ret, endQ_ret, endR_ret, endG_ret, endQ_normal, endR_normal, endG_normal])))
      · cases hv : (v == 0)
        · (repeat (first | with_reducible refine AW.seq ?_ | ((first | refine arun_kn 4 rfl (fun C hC => ?_) | refine arunD_kn 4 rfl (fun C hC => ?_)); (repeat ((conv => whnf); simp [hv, hw])); refine hC _ ?_; clear hC C; simp only [List.drop, Nat.reduceAdd]) | ((first | refine arun_kn 1 rfl (fun C hC => ?_) | refine arunD_kn 1 rfl (fun C hC => ?_)); (repeat ((conv => whnf); simp [hv, hw])); refine hC _ ?_; clear hC C; simp only [List.drop, Nat.reduceAdd]) | (refine arun_skip ?_ ?_; (focus (simp [awant, hv, hw]; done))) | (refine AW.regionK [] (fun K hK => ?_)) | (refine AW.regionDK [] (pcs [] []) (by kernel_rfl) (by kernel_rfl) (fun K hK => ?_)) | (refine AW.condT ?_ ?_; (focus (simp [aev, hv, hw]; done))) | (refine AW.condF ?_ ?_; (focus (simp [aev, hv, hw]; done))) | with_reducible refine AW.block ?_ | ((first | ((first | refine arun_nil ?_ | refine arunD_nil ?_); refine hK _ ?_; clear hK K) | refine AW.skip ?_ | refine AW.exit ?_ | refine AW.ret ?_); simp only [thenA_exit, inBlockA_exit, if_true, if_false, Nat.reduceEqDiff, thenA_normal, inBlockA_normal, reduceIte, thenA_ret, inBlockA_ret, endQ_ret, endR_ret, endG_ret, endQ_normal, endR_normal, endG_normal])))
          refine ⟨((l, ck), j, b - 1 - C - 1), by dsimp only; omega, ⟨g1, by dsimp only; omega, by dsimp only; omega⟩, ?_⟩
          dsimp only
          exact less_s
        · (repeat (first | with_reducible refine AW.seq ?_ | ((first | refine arun_kn 4 rfl (fun C hC => ?_) | refine arunD_kn 4 rfl (fun C hC => ?_)); (repeat ((conv => whnf); simp [hv, hw, storeZ])); refine hC _ ?_; clear hC C; simp only [List.drop, Nat.reduceAdd]) | ((first | refine arun_kn 1 rfl (fun C hC => ?_) | refine arunD_kn 1 rfl (fun C hC => ?_)); (repeat ((conv => whnf); simp [hv, hw, storeZ])); refine hC _ ?_; clear hC C; simp only [List.drop, Nat.reduceAdd]) | (refine arun_skip ?_ ?_; (focus (simp [awant, hv, hw, storeZ]; done))) | (refine arun_c (1) (itemName_AC) ?_; (rintro _ ⟨nm', hnm', rfl⟩)) | (refine arunD_cE (1) (itemName_AC) (by exact str_ex) ?_; (rintro _ ⟨nm', hnm', rfl⟩); intro _) | (refine arunD_sE (0) (specDrop_gen .lent (l, ck) nm') (by exact ⟨_, rfl, storeZ_noid⟩) ?_ ?_; (rintro _ rfl -)) | (refine AW.regionK [] (fun K hK => ?_)) | (refine AW.regionDK [] (pcs [(2, 1, fun r => ∃ x : ByteArray, x.size ≤ 12 ∧ r = .str x)] [3]) (by kernel_rfl) (by kernel_rfl) (fun K hK => ?_)) | (refine AW.condT ?_ ?_; (focus (simp [aev, hv, hw, storeZ]; done))) | (refine AW.condF ?_ ?_; (focus (simp [aev, hv, hw, storeZ]; done))) | with_reducible refine AW.block ?_ | ((first | ((first | refine arun_nil ?_ | refine arunD_nil ?_); refine hK _ ?_; clear hK K) | refine AW.skip ?_ | refine AW.exit ?_ | refine AW.ret ?_); simp only [thenA_exit, inBlockA_exit, if_true, if_false, Nat.reduceEqDiff, thenA_normal, inBlockA_normal, reduceIte, thenA_ret, inBlockA_ret, endQ_ret, endR_ret, endG_ret, endQ_normal, endR_normal, endG_normal])))
          · skip
            refine ⟨((l, ck), j, b - 1 - C - 1 - 1), by dsimp only; omega, ⟨g1, by dsimp only; omega, by dsimp only; omega⟩, ?_⟩
            dsimp only
            exact less_s
          · rintro _ _ ⟨⟨l', ck'⟩, hs', rfl, rfl⟩ -
            dsimp only at hs'
            (repeat (first | with_reducible refine AW.seq ?_ | ((first | refine arun_kn 4 rfl (fun C hC => ?_) | refine arunD_kn 4 rfl (fun C hC => ?_)); (repeat ((conv => whnf); simp [hw])); refine hC _ ?_; clear hC C; simp only [List.drop, Nat.reduceAdd]) | ((first | refine arun_kn 1 rfl (fun C hC => ?_) | refine arunD_kn 1 rfl (fun C hC => ?_)); (repeat ((conv => whnf); simp [hw])); refine hC _ ?_; clear hC C; simp only [List.drop, Nat.reduceAdd]) | (refine arun_skip ?_ ?_; (focus (simp [awant, hw]; done))) | (refine AW.regionK [] (fun K hK => ?_)) | (refine AW.regionDK [] (pcs [] []) (by kernel_rfl) (by kernel_rfl) (fun K hK => ?_)) | (refine AW.condT ?_ ?_; (focus (simp [aev, hw]; done))) | (refine AW.condF ?_ ?_; (focus (simp [aev, hw]; done))) | with_reducible refine AW.block ?_ | ((first | ((first | refine arun_nil ?_ | refine arunD_nil ?_); refine hK _ ?_; clear hK K) | refine AW.skip ?_ | refine AW.exit ?_ | refine AW.ret ?_); simp only [thenA_exit, inBlockA_exit, if_true, if_false, Nat.reduceEqDiff, thenA_normal, inBlockA_normal, reduceIte, thenA_ret, inBlockA_ret, endQ_ret, endR_ret, endG_ret, endQ_normal, endR_normal, endG_normal])))
            refine ⟨((l', ck'), j, b - 1 - C - 1 - 1), by dsimp only; omega, ⟨hs', by dsimp only; omega, by dsimp only; omega⟩, ?_⟩
            dsimp only
            refine Less.trans (s' := mkSt (slots 0 38 [(0, .rdr), (2, .ptr true 2 1 2 0 0), (3, .ptr true 2 1 3 0 0), (4, .int .i64 (j : Int))]) [(2, ⟨true, 33, 2, [[.view .tight 0 [], .int .i64 0]]⟩), (3, ⟨true, 33, 2, [[.own 32 l'.length, .int .i64 ck']]⟩), (32, ⟨false, 62, 7, l'.map itemL⟩)] [2, 3, 32] (rd0.map fun _ => b - 1 - C - 1 - 1)) less_s (Less.trans (Less.rename 32 36 (by simp [mkSt, usedOf_cons, usedOf_nil])) ?_)
            simp only [ASt.rename, mkSt, rowsOf_cons, Nat.reduceEqDiff, if_true, if_false, reduceIte]
            exact (less_of (by simp [lessL, mkSt, slots, AV.subL, AV.sub, Row.sub, rowsOf_nil, itemsE_sub, itemA, itemL_eq, storeA, storeT, storeO, itemsRow]) (by simp [upd, mkSt, rowsOf_cons, AV.subL, AV.sub, Row.sub, rowsOf_nil, itemsE_sub, itemA, itemL_eq, storeA, storeT, storeO, itemsRow]) (by simp [upd, mkSt, usedOf_cons, AV.subL, AV.sub, Row.sub, rowsOf_nil, itemsE_sub, itemA, itemL_eq, storeA, storeT, storeO, itemsRow]) (by first | exact rd_less (by omega) | simp [mkSt, AV.subL, AV.sub, Row.sub, rowsOf_nil, itemsE_sub, itemA, itemL_eq, storeA, storeT, storeO, itemsRow]) (by simp [slots, in_any, in_int, in_bool, in_str, in_ptr, in_own, in_agg, in_vnil, in_rdr, usedOf_cons, usedOf_nil, strs_in, ints_in, nodes_in, items_in, in_tup, AV.subL, AV.sub, Row.sub, rowsOf_nil, itemsE_sub, itemA, itemL_eq, storeA, storeT, storeO, itemsRow]) (by simp only [List.forall_mem_cons, List.not_mem_nil, false_implies, implies_true, and_true, true_and, AV.subL, AV.sub, Row.sub, rowsOf_nil, itemsE_sub, itemA, itemL_eq, storeA, storeT, storeO, itemsRow]; (repeat (first | with_reducible exact trivial | with_reducible refine And.intro ?_ ?_ | with_reducible exact in_int | with_reducible exact in_str | with_reducible exact in_bool | with_reducible exact strs_in _ | with_reducible exact nodes_in _ | with_reducible exact items_in _ | with_reducible exact in_vnil | with_reducible exact in_any | exact hin _ | with_reducible refine take_in ?_ | with_reducible exact strsE_in _ | with_reducible exact nodesE_in _ | with_reducible exact nodeL_in _ | with_reducible exact itemsE_in _ | with_reducible exact itemL_in _ | with_reducible refine app_in ?_ ?_ | with_reducible refine sing_in ?_ | (focus (simp [in_any, in_int, in_bool, in_str, in_ptr, in_own, in_agg, in_vnil, in_rdr, usedOf_cons, usedOf_nil, strs_in, ints_in, nodes_in, items_in, AV.subL, AV.sub, Row.sub, rowsOf_nil, itemsE_sub, itemA, itemL_eq, storeA, storeT, storeO, itemsRow]; done)))); done))
      · rintro _ _ ⟨⟨l', ck'⟩, hs', rfl, rfl⟩ -
        dsimp only at hs'
        (repeat (first | with_reducible refine AW.seq ?_ | ((first | refine arun_kn 4 rfl (fun C hC => ?_) | refine arunD_kn 4 rfl (fun C hC => ?_)); (repeat ((conv => whnf); simp [hw])); refine hC _ ?_; clear hC C; simp only [List.drop, Nat.reduceAdd]) | ((first | refine arun_kn 1 rfl (fun C hC => ?_) | refine arunD_kn 1 rfl (fun C hC => ?_)); (repeat ((conv => whnf); simp [hw])); refine hC _ ?_; clear hC C; simp only [List.drop, Nat.reduceAdd]) | (refine arun_skip ?_ ?_; (focus (simp [awant, hw]; done))) | (refine arun_c (1) (pick_AC 8 (by omega) (by omega)) ?_; (rintro _ ⟨v, rfl, -⟩)) | (refine AW.regionK [] (fun K hK => ?_)) | (refine AW.regionDK [] (pcs [] []) (by kernel_rfl) (by kernel_rfl) (fun K hK => ?_)) | (refine AW.condT ?_ ?_; (focus (simp [aev, hw]; done))) | (refine AW.condF ?_ ?_; (focus (simp [aev, hw]; done))) | with_reducible refine AW.block ?_ | ((first | ((first | refine arun_nil ?_ | refine arunD_nil ?_); refine hK _ ?_; clear hK K) | refine AW.skip ?_ | refine AW.exit ?_ | refine AW.ret ?_); simp only [thenA_exit, inBlockA_exit, if_true, if_false, Nat.reduceEqDiff, thenA_normal, inBlockA_normal, reduceIte, thenA_ret, inBlockA_ret, endQ_ret, endR_ret, endG_ret, endQ_normal, endR_normal, endG_normal])))
        cases hv : (v == 0)
        · (repeat (first | with_reducible refine AW.seq ?_ | ((first | refine arun_kn 4 rfl (fun C hC => ?_) | refine arunD_kn 4 rfl (fun C hC => ?_)); (repeat ((conv => whnf); simp [hv, hw])); refine hC _ ?_; clear hC C; simp only [List.drop, Nat.reduceAdd]) | ((first | refine arun_kn 1 rfl (fun C hC => ?_) | refine arunD_kn 1 rfl (fun C hC => ?_)); (repeat ((conv => whnf); simp [hv, hw])); refine hC _ ?_; clear hC C; simp only [List.drop, Nat.reduceAdd]) | (refine arun_skip ?_ ?_; (focus (simp [awant, hv, hw]; done))) | (refine AW.regionK [] (fun K hK => ?_)) | (refine AW.regionDK [] (pcs [] []) (by kernel_rfl) (by kernel_rfl) (fun K hK => ?_)) | (refine AW.condT ?_ ?_; (focus (simp [aev, hv, hw]; done))) | (refine AW.condF ?_ ?_; (focus (simp [aev, hv, hw]; done))) | with_reducible refine AW.block ?_ | ((first | ((first | refine arun_nil ?_ | refine arunD_nil ?_); refine hK _ ?_; clear hK K) | refine AW.skip ?_ | refine AW.exit ?_ | refine AW.ret ?_); simp only [thenA_exit, inBlockA_exit, if_true, if_false, Nat.reduceEqDiff, thenA_normal, inBlockA_normal, reduceIte, thenA_ret, inBlockA_ret, endQ_ret, endR_ret, endG_ret, endQ_normal, endR_normal, endG_normal])))
          refine ⟨((l', ck'), j, b - 1 - C - 1), by dsimp only; omega, ⟨hs', by dsimp only; omega, by dsimp only; omega⟩, ?_⟩
          dsimp only
          refine Less.trans (s' := mkSt (slots 0 38 [(0, .rdr), (2, .ptr true 2 1 2 0 0), (3, .ptr true 2 1 3 0 0), (4, .int .i64 (j : Int))]) [(2, ⟨true, 33, 2, [[.view .tight 0 [], .int .i64 0]]⟩), (3, ⟨true, 33, 2, [[.own 22 l'.length, .int .i64 ck']]⟩), (22, ⟨false, 62, 7, l'.map itemL⟩)] [2, 3, 22] (rd0.map fun _ => b - 1 - C - 1)) less_s (Less.trans (Less.rename 22 36 (by simp [mkSt, usedOf_cons, usedOf_nil])) ?_)
          simp only [ASt.rename, mkSt, rowsOf_cons, Nat.reduceEqDiff, if_true, if_false, reduceIte]
          exact (less_of (by simp [lessL, mkSt, slots, AV.subL, AV.sub, Row.sub, rowsOf_nil, itemsE_sub, itemA, itemL_eq, storeA, storeT, storeO, itemsRow]) (by simp [upd, mkSt, rowsOf_cons, AV.subL, AV.sub, Row.sub, rowsOf_nil, itemsE_sub, itemA, itemL_eq, storeA, storeT, storeO, itemsRow]) (by simp [upd, mkSt, usedOf_cons, AV.subL, AV.sub, Row.sub, rowsOf_nil, itemsE_sub, itemA, itemL_eq, storeA, storeT, storeO, itemsRow]) (by first | exact rd_less (by omega) | simp [mkSt, AV.subL, AV.sub, Row.sub, rowsOf_nil, itemsE_sub, itemA, itemL_eq, storeA, storeT, storeO, itemsRow]) (by simp [slots, in_any, in_int, in_bool, in_str, in_ptr, in_own, in_agg, in_vnil, in_rdr, usedOf_cons, usedOf_nil, strs_in, ints_in, nodes_in, items_in, in_tup, AV.subL, AV.sub, Row.sub, rowsOf_nil, itemsE_sub, itemA, itemL_eq, storeA, storeT, storeO, itemsRow]) (by simp only [List.forall_mem_cons, List.not_mem_nil, false_implies, implies_true, and_true, true_and, AV.subL, AV.sub, Row.sub, rowsOf_nil, itemsE_sub, itemA, itemL_eq, storeA, storeT, storeO, itemsRow]; (repeat (first | with_reducible exact trivial | with_reducible refine And.intro ?_ ?_ | with_reducible exact in_int | with_reducible exact in_str | with_reducible exact in_bool | with_reducible exact strs_in _ | with_reducible exact nodes_in _ | with_reducible exact items_in _ | with_reducible exact in_vnil | with_reducible exact in_any | exact hin _ | with_reducible refine take_in ?_ | with_reducible exact strsE_in _ | with_reducible exact nodesE_in _ | with_reducible exact nodeL_in _ | with_reducible exact itemsE_in _ | with_reducible exact itemL_in _ | with_reducible refine app_in ?_ ?_ | with_reducible refine sing_in ?_ | (focus (simp [in_any, in_int, in_bool, in_str, in_ptr, in_own, in_agg, in_vnil, in_rdr, usedOf_cons, usedOf_nil, strs_in, ints_in, nodes_in, items_in, AV.subL, AV.sub, Row.sub, rowsOf_nil, itemsE_sub, itemA, itemL_eq, storeA, storeT, storeO, itemsRow]; done)))); done))
        · (repeat (first | with_reducible refine AW.seq ?_ | ((first | refine arun_kn 4 rfl (fun C hC => ?_) | refine arunD_kn 4 rfl (fun C hC => ?_)); (repeat ((conv => whnf); simp [hv, hw, storeZ])); refine hC _ ?_; clear hC C; simp only [List.drop, Nat.reduceAdd]) | ((first | refine arun_kn 1 rfl (fun C hC => ?_) | refine arunD_kn 1 rfl (fun C hC => ?_)); (repeat ((conv => whnf); simp [hv, hw, storeZ])); refine hC _ ?_; clear hC C; simp only [List.drop, Nat.reduceAdd]) | (refine arun_skip ?_ ?_; (focus (simp [awant, hv, hw, storeZ]; done))) | (refine arun_c (1) (itemName_AC) ?_; (rintro _ ⟨nm', hnm', rfl⟩)) | (refine arunD_cE (1) (itemName_AC) (by exact str_ex) ?_; (rintro _ ⟨nm', hnm', rfl⟩); intro _) | (refine arunD_sE (0) (specDrop_gen .lent (l, ck) nm') (by exact ⟨_, rfl, storeZ_noid⟩) ?_ ?_; (rintro _ rfl -)) | (refine AW.regionK [] (fun K hK => ?_)) | (refine AW.regionDK [] (pcs [(2, 1, fun r => ∃ x : ByteArray, x.size ≤ 12 ∧ r = .str x)] [3]) (by kernel_rfl) (by kernel_rfl) (fun K hK => ?_)) | (refine AW.condT ?_ ?_; (focus (simp [aev, hv, hw, storeZ]; done))) | (refine AW.condF ?_ ?_; (focus (simp [aev, hv, hw, storeZ]; done))) | with_reducible refine AW.block ?_ | ((first | ((first | refine arun_nil ?_ | refine arunD_nil ?_); refine hK _ ?_; clear hK K) | refine AW.skip ?_ | refine AW.exit ?_ | refine AW.ret ?_); simp only [thenA_exit, inBlockA_exit, if_true, if_false, Nat.reduceEqDiff, thenA_normal, inBlockA_normal, reduceIte, thenA_ret, inBlockA_ret, endQ_ret, endR_ret, endG_ret, endQ_normal, endR_normal, endG_normal])))
          · skip
            refine ⟨((l, ck), j, b - 1 - C - 1 - 1), by dsimp only; omega, ⟨g1, by dsimp only; omega, by dsimp only; omega⟩, ?_⟩
            dsimp only
            exact less_s
          · rintro _ _ ⟨⟨l'', ck''⟩, hs'', rfl, rfl⟩ -
            dsimp only at hs''
            clear hs'
            (repeat (first | with_reducible refine AW.seq ?_ | ((first | refine arun_kn 4 rfl (fun C hC => ?_) | refine arunD_kn 4 rfl (fun C hC => ?_)); (repeat ((conv => whnf); simp [hw])); refine hC _ ?_; clear hC C; simp only [List.drop, Nat.reduceAdd]) | ((first | refine arun_kn 1 rfl (fun C hC => ?_) | refine arunD_kn 1 rfl (fun C hC => ?_)); (repeat ((conv => whnf); simp [hw])); refine hC _ ?_; clear hC C; simp only [List.drop, Nat.reduceAdd]) | (refine arun_skip ?_ ?_; (focus (simp [awant, hw]; done))) | (refine AW.regionK [] (fun K hK => ?_)) | (refine AW.regionDK [] (pcs [] []) (by kernel_rfl) (by kernel_rfl) (fun K hK => ?_)) | (refine AW.condT ?_ ?_; (focus (simp [aev, hw]; done))) | (refine AW.condF ?_ ?_; (focus (simp [aev, hw]; done))) | with_reducible refine AW.block ?_ | ((first | ((first | refine arun_nil ?_ | refine arunD_nil ?_); refine hK _ ?_; clear hK K) | refine AW.skip ?_ | refine AW.exit ?_ | refine AW.ret ?_); simp only [thenA_exit, inBlockA_exit, if_true, if_false, Nat.reduceEqDiff, thenA_normal, inBlockA_normal, reduceIte, thenA_ret, inBlockA_ret, endQ_ret, endR_ret, endG_ret, endQ_normal, endR_normal, endG_normal])))
            refine ⟨((l'', ck''), j, b - 1 - C - 1 - 1), by dsimp only; omega, ⟨hs'', by dsimp only; omega, by dsimp only; omega⟩, ?_⟩
            dsimp only
            refine Less.trans (s' := mkSt (slots 0 38 [(0, .rdr), (2, .ptr true 2 1 2 0 0), (3, .ptr true 2 1 3 0 0), (4, .int .i64 (j : Int))]) [(2, ⟨true, 33, 2, [[.view .tight 0 [], .int .i64 0]]⟩), (3, ⟨true, 33, 2, [[.own 32 l''.length, .int .i64 ck'']]⟩), (32, ⟨false, 62, 7, l''.map itemL⟩)] [2, 3, 32] (rd0.map fun _ => b - 1 - C - 1 - 1)) less_s (Less.trans (Less.rename 32 36 (by simp [mkSt, usedOf_cons, usedOf_nil])) ?_)
            simp only [ASt.rename, mkSt, rowsOf_cons, Nat.reduceEqDiff, if_true, if_false, reduceIte]
            exact (less_of (by simp [lessL, mkSt, slots, AV.subL, AV.sub, Row.sub, rowsOf_nil, itemsE_sub, itemA, itemL_eq, storeA, storeT, storeO, itemsRow]) (by simp [upd, mkSt, rowsOf_cons, AV.subL, AV.sub, Row.sub, rowsOf_nil, itemsE_sub, itemA, itemL_eq, storeA, storeT, storeO, itemsRow]) (by simp [upd, mkSt, usedOf_cons, AV.subL, AV.sub, Row.sub, rowsOf_nil, itemsE_sub, itemA, itemL_eq, storeA, storeT, storeO, itemsRow]) (by first | exact rd_less (by omega) | simp [mkSt, AV.subL, AV.sub, Row.sub, rowsOf_nil, itemsE_sub, itemA, itemL_eq, storeA, storeT, storeO, itemsRow]) (by simp [slots, in_any, in_int, in_bool, in_str, in_ptr, in_own, in_agg, in_vnil, in_rdr, usedOf_cons, usedOf_nil, strs_in, ints_in, nodes_in, items_in, in_tup, AV.subL, AV.sub, Row.sub, rowsOf_nil, itemsE_sub, itemA, itemL_eq, storeA, storeT, storeO, itemsRow]) (by simp only [List.forall_mem_cons, List.not_mem_nil, false_implies, implies_true, and_true, true_and, AV.subL, AV.sub, Row.sub, rowsOf_nil, itemsE_sub, itemA, itemL_eq, storeA, storeT, storeO, itemsRow]; (repeat (first | with_reducible exact trivial | with_reducible refine And.intro ?_ ?_ | with_reducible exact in_int | with_reducible exact in_str | with_reducible exact in_bool | with_reducible exact strs_in _ | with_reducible exact nodes_in _ | with_reducible exact items_in _ | with_reducible exact in_vnil | with_reducible exact in_any | exact hin _ | with_reducible refine take_in ?_ | with_reducible exact strsE_in _ | with_reducible exact nodesE_in _ | with_reducible exact nodeL_in _ | with_reducible exact itemsE_in _ | with_reducible exact itemL_in _ | with_reducible refine app_in ?_ ?_ | with_reducible refine sing_in ?_ | (focus (simp [in_any, in_int, in_bool, in_str, in_ptr, in_own, in_agg, in_vnil, in_rdr, usedOf_cons, usedOf_nil, strs_in, ints_in, nodes_in, items_in, AV.subL, AV.sub, Row.sub, rowsOf_nil, itemsE_sub, itemA, itemL_eq, storeA, storeT, storeO, itemsRow]; done)))); done))
end Go.Proofs.Ytmeobmegnneegaa.Eng
-- EV: store
namespace Go.Proofs.Ytmeobmegnneegaa.Eng
open Go Go.RowKit
attribute [local simp] big size_mk ASt.pay Option.map_map Function.comp_def awant aop acall ado aev ofVal ofVal0 ASt.put ASt.add ASt.turn ASt.kill abox aalloc astore aload ASt.at cellsTo afieldAddr afield aindexAddr aindex alen abin aint acmp astr aun apick aextract anil aslice abound abuild afill abuildSlice asCells aps avCells over upd aappend asrc amax amin aconv mkSt slots rowsOf_cons rowsOf_nil usedOf_cons usedOf_nil ZK.av List.replicate ASt.back ASt.addL ASt.killL nodeA nodeT nodeTL_eq nodeL_eq strsE_get strsE_len intsE_get intsE_len strsE_at intsE_at itemA itemL_eq storeA storeT storeO itemsRow tab2 tab3 tab4 tab5 tab6 tab7 tab8 tab9 tab10 tab11 tab12 tab13 tab14 tab15 tab16 tab17 tab18 tab19 tab21 tab22 tab23 tab24 tab25 tab26 tab27 tab28 tab31 tab32 tab33 tab37 tab38 tab39 tab46 tab53 tab61 tab62 tab69 tab70 tab98 tab116 tab117 tab125 tab126 tab128 tab136 tab145 tab146 tab151 tab152 tab153 tab155 tab156 tab157
def SRW (f : Nat → AV) (R : Row) : Prop := ∃ (s : Sto) (es : List (List AV)), f = (fun id => .agg [.own id es.length, .int .i64 s.2]) ∧ R = ⟨false, 62, 7, es⟩ ∧ WkE es (s.1.map itemL) ∧ (∀ e ∈ es, ∀ c ∈ e, NoId c) ∧ s.1.length ≤ 1000
theorem WkE.refl : ∀ (es : List (List AV)), WkE es es
  | [] => .nil
  | e :: es => .cons (WkL.refl e) (WkE.refl es)
theorem WkE.append {a b c d : List (List AV)} (h : WkE a b) (k : WkE c d) : WkE (a ++ c) (b ++ d) := by
  induction h with
  | nil => exact k
  | cons h _ ih => exact .cons h ih
theorem AC.ofSW {f : FuncId} {args : List AV} {c : Nat} (h : ACR Try.prog f args c (fun _ => False) SRW) : AC Try.prog f args c (fun r => ∃ s : Sto, s.1.length ≤ 1000 ∧ r = storeA s) := by
  have e : ∀ (es : List (List AV)) (k : Int), AV.sub 0 es.length (.view .loose 7 es) (.agg [.own 0 es.length, .int .i64 k]) = .agg [.view .loose 7 es, .int .i64 k] := fun es k => by
    simp [AV.sub, AV.subL]
  refine AC.weak ((AC.ofR h ?_).mono ?_)
  · rintro r R ⟨s, es, rfl, rfl, _, hn, _⟩
    rw [e]
    exact in_agg.2 (by
      simp only [List.forall_mem_cons, List.not_mem_nil, false_implies, implies_true, and_true]
      exact ⟨in_view.2 hn, in_int⟩)
  · rintro r (h | ⟨f, R, ⟨s, es, rfl, rfl, hw, _, hlen⟩, rfl⟩)
    · exact h.elim
    · rw [e]
      exact ⟨_, Wk.agg (.cons (Wk.view (by decide) hw) (.cons (Wk.refl _) .nil)), s, hlen, rfl⟩
theorem srw_end (s : Sto) (es : List (List AV)) (id : Nat) (hw : WkE es (s.1.map itemL)) (hp : ∀ e ∈ es, ∀ c ∈ e, Pur c ∧ NoId c) (hlen : s.1.length ≤ 1000) {rows : Nat → Option Row} (hr : rows id = some ⟨false, 62, 7, es⟩) {Q : Prop} : Q ∨ ∃ f id0 R, AV.agg [.own id es.length, .int .i64 s.2] = f id0 ∧ rows id0 = some R ∧ Res1 id0 f ∧ (∀ e ∈ R.es, ∀ c ∈ e, Pur c) ∧ SRW f R :=
  .inr ⟨fun id => .agg [.own id es.length, .int .i64 s.2], id, ⟨false, 62, 7, es⟩, rfl, hr, Res1.agg [fun id => .own id es.length, fun _ => .int .i64 s.2] (by
    simp only [List.forall_mem_cons, List.not_mem_nil, false_implies, implies_true, and_true]
    exact ⟨Res1.own _ _, Res1.pur _ pur_int⟩), fun e he c hc => (hp e he c hc).1, s, es, rfl, rfl, hw, fun e he c hc => (hp e he c hc).2, hlen⟩
theorem items_pn (l : List Itm) : ∀ e ∈ l.map itemL, ∀ c ∈ e, Pur c ∧ NoId c := fun e he c hc => ⟨itemsE_pur l e he c hc, itemsE_in l e he c hc⟩
def newL (nm : ByteArray) : List AV := [.str nm, .int .i64 1, .int .i64 0, .int .i64 0, .str ⟨#[]⟩, .view .tight 0 [], .view .tight 0 []]
theorem newL_wk (nm : ByteArray) : WkL (newL nm) (itemL (nm, 1, ⟨0, 0, ⟨#[]⟩, [], []⟩)) := by
  rw [itemL_eq]
  exact .cons (Wk.refl _) (.cons (Wk.refl _) (.cons (Wk.refl _) (.cons (Wk.refl _) (.cons (Wk.refl _) (.cons (Wk.nil (fun h => by cases h)) (.cons (Wk.nil (fun h => by cases h)) .nil))))))
theorem newL_pn (nm : ByteArray) : ∀ c ∈ newL nm, Pur c ∧ NoId c := by
  unfold newL
  simp only [List.forall_mem_cons, List.not_mem_nil, false_implies, implies_true, and_true]
  exact ⟨⟨pur_str, in_str⟩, ⟨pur_int, in_int⟩, ⟨pur_int, in_int⟩, ⟨pur_int, in_int⟩, ⟨pur_str, in_str⟩, ⟨pur_view (by decide) (fun e he => by cases he), in_vnil⟩, ⟨pur_view (by decide) (fun e he => by cases he), in_vnil⟩⟩
theorem one_any (t : VC) (es : List (List AV)) (he : es = intsE (es.map intOf)) (h1 : 1 ≤ es.length) (h2 : es.length ≤ 1000) : AC Try.prog 120 [.rdr, .view t 1 es] 1 (fun r => ∃ y, r = .int .i64 y) := (one_ACU t es he h1 h2).mono (fun r ⟨x, _, e⟩ => ⟨x, e⟩)
theorem below_zero (n : Int) : Below' n 0 := by
  exact ⟨fun h => ⟨by omega, by omega⟩, fun _ => rfl⟩
def cS : Nat := 1 + 12 * (nC 3 + 13 + 4 * nC 2)
theorem anyStore_AC : AC Try.prog 90 [.rdr] (cS + 2 + cN) (fun r => ∃ s : Sto, s.1.length ≤ 1000 ∧ r = storeA s) := by
  have hS : ACR Try.prog 119 [.rdr] cS _ _ := someStore_ACR
  have hN : AC Try.prog 109 [.rdr] cN rNodeA := anyNode_AC
  generalize cS = C at *
  generalize cN = D at *
  refine AC.ofSW ?_
  refine ACR.of tab_ok mixed_ok Try.func90 (by rfl) (by kernel_rfl) ?_; rintro ⟨P, T, hT, hm, w0, S0, rd0, k0⟩ hP hTT; dsimp only at hP hTT; subst hP hTT; unfold initSt; rw [Try.ntmps90]
  (repeat (first | with_reducible refine AW.seq ?_ | ((first | refine arun_kn 4 rfl (fun C hC => ?_) | refine arunD_kn 4 rfl (fun C hC => ?_)); (repeat ((conv => whnf); simp)); refine hC _ ?_; clear hC C; simp only [List.drop, Nat.reduceAdd]) | ((first | refine arun_kn 1 rfl (fun C hC => ?_) | refine arunD_kn 1 rfl (fun C hC => ?_)); (repeat ((conv => whnf); simp)); refine hC _ ?_; clear hC C; simp only [List.drop, Nat.reduceAdd]) | (refine arun_skip ?_ ?_; (focus (simp [awant]; done))) | (refine arun_cR (C) 100 (hS) ?_; (rintro _ _ ⟨⟨l, ck⟩, hs, rfl, rfl⟩)) | (refine arun_c (1) (pick_AC 30 (by omega) (by omega)) ?_; (rintro _ ⟨v, rfl, -⟩)) | (refine AW.regionK [] (fun K hK => ?_)) | (refine AW.regionDK [] (pcs [] []) (by kernel_rfl) (by kernel_rfl) (fun K hK => ?_)) | (refine AW.condT ?_ ?_; (focus (simp [aev]; done))) | (refine AW.condF ?_ ?_; (focus (simp [aev]; done))) | with_reducible refine AW.block ?_ | ((first | ((first | refine arun_nil ?_ | refine arunD_nil ?_); refine hK _ ?_; clear hK K) | refine AW.skip ?_ | refine AW.exit ?_ | refine AW.ret ?_); simp only [thenA_exit, inBlockA_exit, if_true, if_false, Nat.reduceEqDiff, thenA_normal, inBlockA_normal, reduceIte, thenA_ret, inBlockA_ret, endQ_ret, endR_ret, endG_ret, endQ_normal, endR_normal, endG_normal])))
  unfold store10 at hs
  dsimp only at hs
  have h6 : v = 0 ∨ v = 1 ∨ v = 2 ∨ v = 3 ∨ ((v == 0) = false ∧ (v == 1) = false ∧ (v == 2) = false ∧ (v == 3) = false) := by
    by_cases h0 : v = 0; · simp [h0]
    by_cases h1 : v = 1; · simp [h1]
    by_cases h2 : v = 2; · simp [h2]
    by_cases h3 : v = 3; · simp [h3]
    simp [h0, h1, h2, h3]
  rcases h6 with rfl | rfl | rfl | rfl | ⟨e0, e1, e2, e3⟩
  · (repeat (first | with_reducible refine AW.seq ?_ | ((first | refine arun_kn 4 rfl (fun C hC => ?_) | refine arunD_kn 4 rfl (fun C hC => ?_)); (repeat ((conv => whnf); simp)); refine hC _ ?_; clear hC C; simp only [List.drop, Nat.reduceAdd]) | ((first | refine arun_kn 1 rfl (fun C hC => ?_) | refine arunD_kn 1 rfl (fun C hC => ?_)); (repeat ((conv => whnf); simp)); refine hC _ ?_; clear hC C; simp only [List.drop, Nat.reduceAdd]) | (refine arun_skip ?_ ?_; (focus (simp [awant]; done))) | (refine arun_cU (1) rfl (one_ACU _ _ (by rfl) (by simp) (by simp)) ?_; (rintro _ ⟨y, -, rfl⟩)) | (refine AW.regionK [] (fun K hK => ?_)) | (refine AW.regionDK [] (pcs [] []) (by kernel_rfl) (by kernel_rfl) (fun K hK => ?_)) | (refine AW.condT ?_ ?_; (focus (simp [aev]; done))) | (refine AW.condF ?_ ?_; (focus (simp [aev]; done))) | with_reducible refine AW.block ?_ | ((first | ((first | refine arun_nil ?_ | refine arunD_nil ?_); refine hK _ ?_; clear hK K) | refine AW.skip ?_ | refine AW.exit ?_ | refine AW.ret ?_); simp only [thenA_exit, inBlockA_exit, if_true, if_false, Nat.reduceEqDiff, thenA_normal, inBlockA_normal, reduceIte, thenA_ret, inBlockA_ret, endQ_ret, endR_ret, endG_ret, endQ_normal, endR_normal, endG_normal])))
    exact ⟨.agg [.own 100 (l.map itemL).length, .int .i64 y], by simp [ares, aresL, upd, rowsOf_cons], srw_end (l, y) (l.map itemL) 100 (WkE.refl _) (items_pn l) (by first | (dsimp only; omega) | (simp at hs ⊢; omega) | simp) (by simp [upd])⟩
  · have hb1 : (l.length + 1) * 104 ≤ 140737488355328 := by omega
    have hb2 : l.length + 1 ≤ 140737488355328 := by clear hb1; omega
    (repeat (first | with_reducible refine AW.seq ?_ | ((first | refine arun_kn 4 rfl (fun C hC => ?_) | refine arunD_kn 4 rfl (fun C hC => ?_)); (repeat ((conv => whnf); simp [hb1, hb2, List.length_map])); refine hC _ ?_; clear hC C; simp only [List.drop, Nat.reduceAdd]) | ((first | refine arun_kn 1 rfl (fun C hC => ?_) | refine arunD_kn 1 rfl (fun C hC => ?_)); (repeat ((conv => whnf); simp [hb1, hb2, List.length_map])); refine hC _ ?_; clear hC C; simp only [List.drop, Nat.reduceAdd]) | (refine arun_skip ?_ ?_; (focus (simp [awant, hb1, hb2, List.length_map]; done))) | (refine arun_c (1) (badName_AC) ?_; (rintro _ ⟨nm, hnm, rfl⟩)) | (refine arunD_cE (1) (badName_AC) (by exact str_ex) ?_; (rintro _ ⟨nm, hnm, rfl⟩); intro _) | (refine AW.regionK [] (fun K hK => ?_)) | (refine AW.regionDK [] (pcs [(3, 1, fun r => ∃ x : ByteArray, x.size ≤ 12 ∧ r = .str x)] []) (by kernel_rfl) (by kernel_rfl) (fun K hK => ?_)) | (refine AW.condT ?_ ?_; (focus (simp [aev, hb1, hb2, List.length_map]; done))) | (refine AW.condF ?_ ?_; (focus (simp [aev, hb1, hb2, List.length_map]; done))) | with_reducible refine AW.block ?_ | ((first | ((first | refine arun_nil ?_ | refine arunD_nil ?_); refine hK _ ?_; clear hK K) | refine AW.skip ?_ | refine AW.exit ?_ | refine AW.ret ?_); simp only [thenA_exit, inBlockA_exit, if_true, if_false, Nat.reduceEqDiff, thenA_normal, inBlockA_normal, reduceIte, thenA_ret, inBlockA_ret, endQ_ret, endR_ret, endG_ret, endQ_normal, endR_normal, endG_normal])))
    exact ⟨.agg [.own 100 (l.map itemL ++ [newL nm]).length, .int .i64 ck], by simp [ares, aresL, upd, rowsOf_cons], srw_end (l ++ [(nm, 1, ⟨0, 0, ⟨#[]⟩, [], []⟩)], ck) (l.map itemL ++ [newL nm]) 100 (by rw [List.map_append]; exact (WkE.refl _).append (.cons (newL_wk nm) .nil)) (fun e he => (List.mem_append.1 he).elim (items_pn l e) (fun h => by rw [List.mem_singleton.1 h]; exact newL_pn nm)) (by first | (dsimp only; omega) | (simp at hs ⊢; omega) | simp) (by simp [upd, newL])⟩
  · cases l with
    | nil =>
      (repeat (first | with_reducible refine AW.seq ?_ | ((first | refine arun_kn 4 rfl (fun C hC => ?_) | refine arunD_kn 4 rfl (fun C hC => ?_)); (repeat ((conv => whnf); simp)); refine hC _ ?_; clear hC C; simp only [List.drop, Nat.reduceAdd]) | ((first | refine arun_kn 1 rfl (fun C hC => ?_) | refine arunD_kn 1 rfl (fun C hC => ?_)); (repeat ((conv => whnf); simp)); refine hC _ ?_; clear hC C; simp only [List.drop, Nat.reduceAdd]) | (refine arun_skip ?_ ?_; (focus (simp [awant]; done))) | (refine AW.regionK [] (fun K hK => ?_)) | (refine AW.regionDK [] (pcs [] []) (by kernel_rfl) (by kernel_rfl) (fun K hK => ?_)) | (refine AW.condT ?_ ?_; (focus (simp [aev]; done))) | (refine AW.condF ?_ ?_; (focus (simp [aev]; done))) | with_reducible refine AW.block ?_ | ((first | ((first | refine arun_nil ?_ | refine arunD_nil ?_); refine hK _ ?_; clear hK K) | refine AW.skip ?_ | refine AW.exit ?_ | refine AW.ret ?_); simp only [thenA_exit, inBlockA_exit, if_true, if_false, Nat.reduceEqDiff, thenA_normal, inBlockA_normal, reduceIte, thenA_ret, inBlockA_ret, endQ_ret, endR_ret, endG_ret, endQ_normal, endR_normal, endG_normal])))
      exact ⟨.agg [.own 100 0, .int .i64 ck], by simp [ares, aresL, upd, rowsOf_cons], srw_end ([], ck) [] 100 .nil (fun e he => by cases he) (by first | (dsimp only; omega) | (simp at hs ⊢; omega) | simp) (by simp [upd])⟩
    | cons x l =>
      have hpos : (0 : Int) < (l.length : Int) + 1 := by omega
      (repeat (first | with_reducible refine AW.seq ?_ | ((first | refine arun_kn 4 rfl (fun C hC => ?_) | refine arunD_kn 4 rfl (fun C hC => ?_)); (repeat ((conv => whnf); simp [hpos])); refine hC _ ?_; clear hC C; simp only [List.drop, Nat.reduceAdd]) | ((first | refine arun_kn 1 rfl (fun C hC => ?_) | refine arunD_kn 1 rfl (fun C hC => ?_)); (repeat ((conv => whnf); simp [hpos])); refine hC _ ?_; clear hC C; simp only [List.drop, Nat.reduceAdd]) | (refine arun_skip ?_ ?_; (focus (simp [awant, hpos]; done))) | (refine arun_c (1) (one_any .tight [[.int .i64 0], [.int .i64 (IntKind.i64.wrap (ck + 1))], [.int .i64 1]] rfl (by simp) (by simp)) ?_; (rintro _ ⟨y, rfl⟩)) | (refine arunD_cE (1) (one_any .tight [[.int .i64 0], [.int .i64 (IntKind.i64.wrap (ck + 1))], [.int .i64 1]] rfl (by simp) (by simp)) (by exact ⟨_, ⟨0, rfl⟩, in_int⟩) ?_; (rintro _ ⟨y, rfl⟩); intro _) | (refine AW.regionK [] (fun K hK => ?_)) | (refine AW.regionDK [] (pcs [(7, 1, fun r => ∃ y, r = .int .i64 y)] []) (by kernel_rfl) (by kernel_rfl) (fun K hK => ?_)) | (refine AW.condT ?_ ?_; (focus (simp [aev, hpos]; done))) | (refine AW.condF ?_ ?_; (focus (simp [aev, hpos]; done))) | with_reducible refine AW.block ?_ | ((first | ((first | refine arun_nil ?_ | refine arunD_nil ?_); refine hK _ ?_; clear hK K) | refine AW.skip ?_ | refine AW.exit ?_ | refine AW.ret ?_); simp only [thenA_exit, inBlockA_exit, if_true, if_false, Nat.reduceEqDiff, thenA_normal, inBlockA_normal, reduceIte, thenA_ret, inBlockA_ret, endQ_ret, endR_ret, endG_ret, endQ_normal, endR_normal, endG_normal])))
      exact ⟨.agg [.own 100 (((x.1, y, x.2.2) :: l).map itemL).length, .int .i64 ck], by simp [ares, aresL, upd, rowsOf_cons], srw_end ((x.1, y, x.2.2) :: l, ck) (((x.1, y, x.2.2) :: l).map itemL) 100 (WkE.refl _) (items_pn _) (by first | (dsimp only; omega) | (simp at hs ⊢; omega) | simp) (by simp [upd, itemL_eq])⟩
  · cases l with
    | nil =>
      (repeat (first | with_reducible refine AW.seq ?_ | ((first | refine arun_kn 4 rfl (fun C hC => ?_) | refine arunD_kn 4 rfl (fun C hC => ?_)); (repeat ((conv => whnf); simp)); refine hC _ ?_; clear hC C; simp only [List.drop, Nat.reduceAdd]) | ((first | refine arun_kn 1 rfl (fun C hC => ?_) | refine arunD_kn 1 rfl (fun C hC => ?_)); (repeat ((conv => whnf); simp)); refine hC _ ?_; clear hC C; simp only [List.drop, Nat.reduceAdd]) | (refine arun_skip ?_ ?_; (focus (simp [awant]; done))) | (refine AW.regionK [] (fun K hK => ?_)) | (refine AW.regionDK [] (pcs [] []) (by kernel_rfl) (by kernel_rfl) (fun K hK => ?_)) | (refine AW.condT ?_ ?_; (focus (simp [aev]; done))) | (refine AW.condF ?_ ?_; (focus (simp [aev]; done))) | with_reducible refine AW.block ?_ | ((first | ((first | refine arun_nil ?_ | refine arunD_nil ?_); refine hK _ ?_; clear hK K) | refine AW.skip ?_ | refine AW.exit ?_ | refine AW.ret ?_); simp only [thenA_exit, inBlockA_exit, if_true, if_false, Nat.reduceEqDiff, thenA_normal, inBlockA_normal, reduceIte, thenA_ret, inBlockA_ret, endQ_ret, endR_ret, endG_ret, endQ_normal, endR_normal, endG_normal])))
      exact ⟨.agg [.own 100 0, .int .i64 ck], by simp [ares, aresL, upd, rowsOf_cons], srw_end ([], ck) [] 100 .nil (fun e he => by cases he) (by first | (dsimp only; omega) | (simp at hs ⊢; omega) | simp) (by simp [upd])⟩
    | cons x l =>
      have hpos : (0 : Int) < (l.length : Int) + 1 := by omega
      (repeat (first | with_reducible refine AW.seq ?_ | ((first | refine arun_kn 4 rfl (fun C hC => ?_) | refine arunD_kn 4 rfl (fun C hC => ?_)); (repeat ((conv => whnf); simp [hpos])); refine hC _ ?_; clear hC C; simp only [List.drop, Nat.reduceAdd]) | ((first | refine arun_kn 1 rfl (fun C hC => ?_) | refine arunD_kn 1 rfl (fun C hC => ?_)); (repeat ((conv => whnf); simp [hpos])); refine hC _ ?_; clear hC C; simp only [List.drop, Nat.reduceAdd]) | (refine arun_skip ?_ ?_; (focus (simp [awant, hpos]; done))) | (refine arun_c (D) (hN) ?_; (rintro _ ⟨n, hn, rfl⟩)) | (refine arunD_cE (D) (hN) (by exact ⟨_, ⟨_, sml_leaf 0 0 ⟨#[]⟩, rfl⟩, node_in _⟩) ?_; (rintro _ ⟨n, hn, rfl⟩); intro _) | (refine AW.regionK [] (fun K hK => ?_)) | (refine AW.regionDK [] (pcs [(3, D, rNodeA)] []) (by kernel_rfl) (by kernel_rfl) (fun K hK => ?_)) | (refine AW.condT ?_ ?_; (focus (simp [aev, hpos]; done))) | (refine AW.condF ?_ ?_; (focus (simp [aev, hpos]; done))) | with_reducible refine AW.block ?_ | ((first | ((first | refine arun_nil ?_ | refine arunD_nil ?_); refine hK _ ?_; clear hK K) | refine AW.skip ?_ | refine AW.exit ?_ | refine AW.ret ?_); simp only [thenA_exit, inBlockA_exit, if_true, if_false, Nat.reduceEqDiff, thenA_normal, inBlockA_normal, reduceIte, thenA_ret, inBlockA_ret, endQ_ret, endR_ret, endG_ret, endQ_normal, endR_normal, endG_normal])))
      exact ⟨.agg [.own 100 (((x.1, x.2.1, n) :: l).map itemL).length, .int .i64 ck], by simp [ares, aresL, upd, rowsOf_cons], srw_end ((x.1, x.2.1, n) :: l, ck) (((x.1, x.2.1, n) :: l).map itemL) 100 (WkE.refl _) (items_pn _) (by first | (dsimp only; omega) | (simp at hs ⊢; omega) | simp) (by simp [upd, itemL_eq])⟩
  · (repeat (first | with_reducible refine AW.seq ?_ | ((first | refine arun_kn 4 rfl (fun C hC => ?_) | refine arunD_kn 4 rfl (fun C hC => ?_)); (repeat ((conv => whnf); simp [e0, e1, e2, e3])); refine hC _ ?_; clear hC C; simp only [List.drop, Nat.reduceAdd]) | ((first | refine arun_kn 1 rfl (fun C hC => ?_) | refine arunD_kn 1 rfl (fun C hC => ?_)); (repeat ((conv => whnf); simp [e0, e1, e2, e3])); refine hC _ ?_; clear hC C; simp only [List.drop, Nat.reduceAdd]) | (refine arun_skip ?_ ?_; (focus (simp [awant, e0, e1, e2, e3]; done))) | (refine AW.regionK [] (fun K hK => ?_)) | (refine AW.regionDK [] (pcs [] []) (by kernel_rfl) (by kernel_rfl) (fun K hK => ?_)) | (refine AW.condT ?_ ?_; (focus (simp [aev, e0, e1, e2, e3]; done))) | (refine AW.condF ?_ ?_; (focus (simp [aev, e0, e1, e2, e3]; done))) | with_reducible refine AW.block ?_ | ((first | ((first | refine arun_nil ?_ | refine arunD_nil ?_); refine hK _ ?_; clear hK K) | refine AW.skip ?_ | refine AW.exit ?_ | refine AW.ret ?_); simp only [thenA_exit, inBlockA_exit, if_true, if_false, Nat.reduceEqDiff, thenA_normal, inBlockA_normal, reduceIte, thenA_ret, inBlockA_ret, endQ_ret, endR_ret, endG_ret, endQ_normal, endR_normal, endG_normal])))
    exact ⟨.agg [.own 100 (l.map itemL).length, .int .i64 ck], by simp [ares, aresL, upd, rowsOf_cons], srw_end (l, ck) (l.map itemL) 100 (WkE.refl _) (items_pn l) (by first | (dsimp only; omega) | (simp at hs ⊢; omega) | simp) (by simp [upd])⟩
theorem nameIn_AC (t : VC) (s : Sto) (hl : s.1.length ≤ 1000000) : AC Try.prog 92 [.rdr, storeT t s] 3 (fun r => ∃ x : ByteArray, r = .str x) := by
  unfold storeT
  refine AC.of tab_ok mixed_ok Try.func92 (by rfl) (by kernel_rfl) ?_; rintro ⟨P, T, hT, hm, w0, S0, rd0, k0⟩ hP hTT; dsimp only at hP hTT; subst hP hTT; unfold initSt; rw [Try.ntmps92]
  obtain ⟨l, ck⟩ := s
  dsimp only at hl
  by_cases hpos : 0 < l.length
  · (repeat (first | with_reducible refine AW.seq ?_ | ((first | refine arun_kn 4 rfl (fun C hC => ?_) | refine arunD_kn 4 rfl (fun C hC => ?_)); (repeat ((conv => whnf); simp [hpos])); refine hC _ ?_; clear hC C; simp only [List.drop, Nat.reduceAdd]) | ((first | refine arun_kn 1 rfl (fun C hC => ?_) | refine arunD_kn 1 rfl (fun C hC => ?_)); (repeat ((conv => whnf); simp [hpos])); refine hC _ ?_; clear hC C; simp only [List.drop, Nat.reduceAdd]) | (refine arun_skip ?_ ?_; (focus (simp [awant, hpos]; done))) | (refine arun_c (1) (pick_AC 4 (by omega) (by omega)) ?_; (rintro _ ⟨v, rfl, -⟩)) | (refine AW.regionK [] (fun K hK => ?_)) | (refine AW.regionDK [] (pcs [] []) (by kernel_rfl) (by kernel_rfl) (fun K hK => ?_)) | (refine AW.condT ?_ ?_; (focus (simp [aev, hpos]; done))) | (refine AW.condF ?_ ?_; (focus (simp [aev, hpos]; done))) | with_reducible refine AW.block ?_ | ((first | ((first | refine arun_nil ?_ | refine arunD_nil ?_); refine hK _ ?_; clear hK K) | refine AW.skip ?_ | refine AW.exit ?_ | refine AW.ret ?_); simp only [thenA_exit, inBlockA_exit, if_true, if_false, Nat.reduceEqDiff, thenA_normal, inBlockA_normal, reduceIte, thenA_ret, inBlockA_ret, endQ_ret, endR_ret, endG_ret, endQ_normal, endR_normal, endG_normal])))
    by_cases hv : 0 < v
    · (repeat (first | with_reducible refine AW.seq ?_ | ((first | refine arun_kn 4 rfl (fun C hC => ?_) | refine arunD_kn 4 rfl (fun C hC => ?_)); (repeat ((conv => whnf); simp [hv, hpos])); refine hC _ ?_; clear hC C; simp only [List.drop, Nat.reduceAdd]) | ((first | refine arun_kn 1 rfl (fun C hC => ?_) | refine arunD_kn 1 rfl (fun C hC => ?_)); (repeat ((conv => whnf); simp [hv, hpos])); refine hC _ ?_; clear hC C; simp only [List.drop, Nat.reduceAdd]) | (refine arun_skip ?_ ?_; (focus (simp [awant, hv, hpos]; done))) | (refine arun_c (1) (pick_AC (l.length : Int) (by omega) (by omega)) ?_; (rintro _ ⟨u, rfl, hu⟩; obtain ⟨u0, u1⟩ := hu.1 (by omega); obtain ⟨k, rfl⟩ := Int.eq_ofNat_of_zero_le u0; have hk : k < l.length := by omega)) | (refine arunD_cE (1) (pick_AC (l.length : Int) (by omega) (by omega)) (by exact ⟨_, ⟨0, rfl, below_zero _⟩, in_int⟩) ?_; (rintro _ ⟨u, rfl, hu⟩; obtain ⟨u0, u1⟩ := hu.1 (by omega); obtain ⟨k, rfl⟩ := Int.eq_ofNat_of_zero_le u0; have hk : k < l.length := by omega); intro _) | (refine AW.regionK [] (fun K hK => ?_)) | (refine AW.regionDK [] (pcs [(6, 1, fun r => ∃ v, r = .int .i64 v ∧ Below' (l.length : Int) v)] []) (by kernel_rfl) (by kernel_rfl) (fun K hK => ?_)) | (refine AW.condT ?_ ?_; (focus (simp [aev, hv, hpos]; done))) | (refine AW.condF ?_ ?_; (focus (simp [aev, hv, hpos]; done))) | with_reducible refine AW.block ?_ | ((first | ((first | refine arun_nil ?_ | refine arunD_nil ?_); refine hK _ ?_; clear hK K) | refine AW.skip ?_ | refine AW.exit ?_ | refine AW.ret ?_); simp only [thenA_exit, inBlockA_exit, if_true, if_false, Nat.reduceEqDiff, thenA_normal, inBlockA_normal, reduceIte, thenA_ret, inBlockA_ret, endQ_ret, endR_ret, endG_ret, endQ_normal, endR_normal, endG_normal])))
      (repeat (first | with_reducible refine AW.seq ?_ | ((first | refine arun_kn 4 rfl (fun C hC => ?_) | refine arunD_kn 4 rfl (fun C hC => ?_)); (repeat ((conv => whnf); simp [hk])); refine hC _ ?_; clear hC C; simp only [List.drop, Nat.reduceAdd]) | ((first | refine arun_kn 1 rfl (fun C hC => ?_) | refine arunD_kn 1 rfl (fun C hC => ?_)); (repeat ((conv => whnf); simp [hk])); refine hC _ ?_; clear hC C; simp only [List.drop, Nat.reduceAdd]) | (refine arun_skip ?_ ?_; (focus (simp [awant, hk]; done))) | (refine AW.regionK [] (fun K hK => ?_)) | (refine AW.regionDK [] (pcs [] []) (by kernel_rfl) (by kernel_rfl) (fun K hK => ?_)) | (refine AW.condT ?_ ?_; (focus (simp [aev, hk]; done))) | (refine AW.condF ?_ ?_; (focus (simp [aev, hk]; done))) | with_reducible refine AW.block ?_ | ((first | ((first | refine arun_nil ?_ | refine arunD_nil ?_); refine hK _ ?_; clear hK K) | refine AW.skip ?_ | refine AW.exit ?_ | refine AW.ret ?_); simp only [thenA_exit, inBlockA_exit, if_true, if_false, Nat.reduceEqDiff, thenA_normal, inBlockA_normal, reduceIte, thenA_ret, inBlockA_ret, endQ_ret, endR_ret, endG_ret, endQ_normal, endR_normal, endG_normal])))
      exact ⟨.str l[k].1, by simp [ares, aresL], pur_str, _, rfl⟩
    · (repeat (first | with_reducible refine AW.seq ?_ | ((first | refine arun_kn 4 rfl (fun C hC => ?_) | refine arunD_kn 4 rfl (fun C hC => ?_)); (repeat ((conv => whnf); simp [hv])); refine hC _ ?_; clear hC C; simp only [List.drop, Nat.reduceAdd]) | ((first | refine arun_kn 1 rfl (fun C hC => ?_) | refine arunD_kn 1 rfl (fun C hC => ?_)); (repeat ((conv => whnf); simp [hv])); refine hC _ ?_; clear hC C; simp only [List.drop, Nat.reduceAdd]) | (refine arun_skip ?_ ?_; (focus (simp [awant, hv]; done))) | (refine arun_c (1) (pick_AC 12 (by omega) (by omega)) ?_; (rintro _ ⟨v, rfl, -⟩)) | (refine AW.regionK [] (fun K hK => ?_)) | (refine AW.regionDK [] (pcs [] []) (by kernel_rfl) (by kernel_rfl) (fun K hK => ?_)) | (refine AW.condT ?_ ?_; (focus (simp [aev, hv]; done))) | (refine AW.condF ?_ ?_; (focus (simp [aev, hv]; done))) | with_reducible refine AW.block ?_ | ((first | ((first | refine arun_nil ?_ | refine arunD_nil ?_); refine hK _ ?_; clear hK K) | refine AW.skip ?_ | refine AW.exit ?_ | refine AW.ret ?_); simp only [thenA_exit, inBlockA_exit, if_true, if_false, Nat.reduceEqDiff, thenA_normal, inBlockA_normal, reduceIte, thenA_ret, inBlockA_ret, endQ_ret, endR_ret, endG_ret, endQ_normal, endR_normal, endG_normal])))
      cases hv : (v == 0)
      · (repeat (first | with_reducible refine AW.seq ?_ | ((first | refine arun_kn 4 rfl (fun C hC => ?_) | refine arunD_kn 4 rfl (fun C hC => ?_)); (repeat ((conv => whnf); simp [hv])); refine hC _ ?_; clear hC C; simp only [List.drop, Nat.reduceAdd]) | ((first | refine arun_kn 1 rfl (fun C hC => ?_) | refine arunD_kn 1 rfl (fun C hC => ?_)); (repeat ((conv => whnf); simp [hv])); refine hC _ ?_; clear hC C; simp only [List.drop, Nat.reduceAdd]) | (refine arun_skip ?_ ?_; (focus (simp [awant, hv]; done))) | (refine arun_c (1) (itemName_AC) ?_; (rintro _ ⟨nm, hnm, rfl⟩)) | (refine AW.regionK [] (fun K hK => ?_)) | (refine AW.regionDK [] (pcs [] []) (by kernel_rfl) (by kernel_rfl) (fun K hK => ?_)) | (refine AW.condT ?_ ?_; (focus (simp [aev, hv]; done))) | (refine AW.condF ?_ ?_; (focus (simp [aev, hv]; done))) | with_reducible refine AW.block ?_ | ((first | ((first | refine arun_nil ?_ | refine arunD_nil ?_); refine hK _ ?_; clear hK K) | refine AW.skip ?_ | refine AW.exit ?_ | refine AW.ret ?_); simp only [thenA_exit, inBlockA_exit, if_true, if_false, Nat.reduceEqDiff, thenA_normal, inBlockA_normal, reduceIte, thenA_ret, inBlockA_ret, endQ_ret, endR_ret, endG_ret, endQ_normal, endR_normal, endG_normal])))
        exact ⟨.str nm, by simp [ares, aresL], pur_str, _, rfl⟩
      · (repeat (first | with_reducible refine AW.seq ?_ | ((first | refine arun_kn 4 rfl (fun C hC => ?_) | refine arunD_kn 4 rfl (fun C hC => ?_)); (repeat ((conv => whnf); simp [hv])); refine hC _ ?_; clear hC C; simp only [List.drop, Nat.reduceAdd]) | ((first | refine arun_kn 1 rfl (fun C hC => ?_) | refine arunD_kn 1 rfl (fun C hC => ?_)); (repeat ((conv => whnf); simp [hv])); refine hC _ ?_; clear hC C; simp only [List.drop, Nat.reduceAdd]) | (refine arun_skip ?_ ?_; (focus (simp [awant, hv]; done))) | (refine arun_c (1) (badName_AC) ?_; (rintro _ ⟨nm, hnm, rfl⟩)) | (refine AW.regionK [] (fun K hK => ?_)) | (refine AW.regionDK [] (pcs [] []) (by kernel_rfl) (by kernel_rfl) (fun K hK => ?_)) | (refine AW.condT ?_ ?_; (focus (simp [aev, hv]; done))) | (refine AW.condF ?_ ?_; (focus (simp [aev, hv]; done))) | with_reducible refine AW.block ?_ | ((first | ((first | refine arun_nil ?_ | refine arunD_nil ?_); refine hK _ ?_; clear hK K) | refine AW.skip ?_ | refine AW.exit ?_ | refine AW.ret ?_); simp only [thenA_exit, inBlockA_exit, if_true, if_false, Nat.reduceEqDiff, thenA_normal, inBlockA_normal, reduceIte, thenA_ret, inBlockA_ret, endQ_ret, endR_ret, endG_ret, endQ_normal, endR_normal, endG_normal])))
        exact ⟨.str nm, by simp [ares, aresL], pur_str, _, rfl⟩
  · (repeat (first | with_reducible refine AW.seq ?_ | ((first | refine arun_kn 4 rfl (fun C hC => ?_) | refine arunD_kn 4 rfl (fun C hC => ?_)); (repeat ((conv => whnf); simp [hpos])); refine hC _ ?_; clear hC C; simp only [List.drop, Nat.reduceAdd]) | ((first | refine arun_kn 1 rfl (fun C hC => ?_) | refine arunD_kn 1 rfl (fun C hC => ?_)); (repeat ((conv => whnf); simp [hpos])); refine hC _ ?_; clear hC C; simp only [List.drop, Nat.reduceAdd]) | (refine arun_skip ?_ ?_; (focus (simp [awant, hpos]; done))) | (refine arun_c (1) (pick_AC 12 (by omega) (by omega)) ?_; (rintro _ ⟨v, rfl, -⟩)) | (refine AW.regionK [] (fun K hK => ?_)) | (refine AW.regionDK [] (pcs [] []) (by kernel_rfl) (by kernel_rfl) (fun K hK => ?_)) | (refine AW.condT ?_ ?_; (focus (simp [aev, hpos]; done))) | (refine AW.condF ?_ ?_; (focus (simp [aev, hpos]; done))) | with_reducible refine AW.block ?_ | ((first | ((first | refine arun_nil ?_ | refine arunD_nil ?_); refine hK _ ?_; clear hK K) | refine AW.skip ?_ | refine AW.exit ?_ | refine AW.ret ?_); simp only [thenA_exit, inBlockA_exit, if_true, if_false, Nat.reduceEqDiff, thenA_normal, inBlockA_normal, reduceIte, thenA_ret, inBlockA_ret, endQ_ret, endR_ret, endG_ret, endQ_normal, endR_normal, endG_normal])))
    cases hv : (v == 0)
    · (repeat (first | with_reducible refine AW.seq ?_ | ((first | refine arun_kn 4 rfl (fun C hC => ?_) | refine arunD_kn 4 rfl (fun C hC => ?_)); (repeat ((conv => whnf); simp [hv])); refine hC _ ?_; clear hC C; simp only [List.drop, Nat.reduceAdd]) | ((first | refine arun_kn 1 rfl (fun C hC => ?_) | refine arunD_kn 1 rfl (fun C hC => ?_)); (repeat ((conv => whnf); simp [hv])); refine hC _ ?_; clear hC C; simp only [List.drop, Nat.reduceAdd]) | (refine arun_skip ?_ ?_; (focus (simp [awant, hv]; done))) | (refine arun_c (1) (itemName_AC) ?_; (rintro _ ⟨nm, hnm, rfl⟩)) | (refine AW.regionK [] (fun K hK => ?_)) | (refine AW.regionDK [] (pcs [] []) (by kernel_rfl) (by kernel_rfl) (fun K hK => ?_)) | (refine AW.condT ?_ ?_; (focus (simp [aev, hv]; done))) | (refine AW.condF ?_ ?_; (focus (simp [aev, hv]; done))) | with_reducible refine AW.block ?_ | ((first | ((first | refine arun_nil ?_ | refine arunD_nil ?_); refine hK _ ?_; clear hK K) | refine AW.skip ?_ | refine AW.exit ?_ | refine AW.ret ?_); simp only [thenA_exit, inBlockA_exit, if_true, if_false, Nat.reduceEqDiff, thenA_normal, inBlockA_normal, reduceIte, thenA_ret, inBlockA_ret, endQ_ret, endR_ret, endG_ret, endQ_normal, endR_normal, endG_normal])))
      exact ⟨.str nm, by simp [ares, aresL], pur_str, _, rfl⟩
    · (repeat (first | with_reducible refine AW.seq ?_ | ((first | refine arun_kn 4 rfl (fun C hC => ?_) | refine arunD_kn 4 rfl (fun C hC => ?_)); (repeat ((conv => whnf); simp [hv])); refine hC _ ?_; clear hC C; simp only [List.drop, Nat.reduceAdd]) | ((first | refine arun_kn 1 rfl (fun C hC => ?_) | refine arunD_kn 1 rfl (fun C hC => ?_)); (repeat ((conv => whnf); simp [hv])); refine hC _ ?_; clear hC C; simp only [List.drop, Nat.reduceAdd]) | (refine arun_skip ?_ ?_; (focus (simp [awant, hv]; done))) | (refine arun_c (1) (badName_AC) ?_; (rintro _ ⟨nm, hnm, rfl⟩)) | (refine AW.regionK [] (fun K hK => ?_)) | (refine AW.regionDK [] (pcs [] []) (by kernel_rfl) (by kernel_rfl) (fun K hK => ?_)) | (refine AW.condT ?_ ?_; (focus (simp [aev, hv]; done))) | (refine AW.condF ?_ ?_; (focus (simp [aev, hv]; done))) | with_reducible refine AW.block ?_ | ((first | ((first | refine arun_nil ?_ | refine arunD_nil ?_); refine hK _ ?_; clear hK K) | refine AW.skip ?_ | refine AW.exit ?_ | refine AW.ret ?_); simp only [thenA_exit, inBlockA_exit, if_true, if_false, Nat.reduceEqDiff, thenA_normal, inBlockA_normal, reduceIte, thenA_ret, inBlockA_ret, endQ_ret, endR_ret, endG_ret, endQ_normal, endR_normal, endG_normal])))
      exact ⟨.str nm, by simp [ares, aresL], pur_str, _, rfl⟩
end Go.Proofs.Ytmeobmegnneegaa.Eng
-- EV: store
namespace Go.Proofs.Ytmeobmegnneegaa.Eng
open Go Go.RowKit
attribute [local simp] big size_mk ASt.pay Option.map_map Function.comp_def awant aop acall ado aev ofVal ofVal0 ASt.put ASt.add ASt.turn ASt.kill abox aalloc astore aload ASt.at cellsTo afieldAddr afield aindexAddr aindex alen abin aint acmp astr aun apick aextract anil aslice abound abuild afill abuildSlice asCells aps avCells over upd aappend asrc amax amin aconv mkSt slots rowsOf_cons rowsOf_nil usedOf_cons usedOf_nil ZK.av List.replicate ASt.back ASt.addL ASt.killL nodeA nodeT nodeTL_eq nodeL_eq strsE_get strsE_len intsE_get intsE_len strsE_at intsE_at itemA itemL_eq storeA storeT storeO itemsRow tab2 tab3 tab4 tab5 tab6 tab7 tab8 tab9 tab10 tab11 tab12 tab13 tab14 tab15 tab16 tab17 tab18 tab19 tab21 tab22 tab23 tab24 tab25 tab26 tab27 tab28 tab31 tab32 tab33 tab37 tab38 tab39 tab46 tab53 tab61 tab62 tab69 tab70 tab98 tab116 tab117 tab125 tab126 tab128 tab136 tab145 tab146 tab151 tab152 tab153 tab155 tab156 tab157
def cD : Nat := cS + 2 + cN + 10 + cN + cN
theorem cD_le : cD ≤ 1000000 := by decide +kernel
theorem drawNewestItem_AC0 (zs : List Int) (hl : zs.length ≤ 1048576) (hb : ByteL zs) : AC0 Try.prog 62 [.view .loose 1 (bytesE zs)] (fun r => ∃ s : Sto, s.1.length ≤ 1000 ∧ r = storeA s) := by
  have hc := cD_le
  have hlt : cS + 2 + cN + 10 ≤ cD := by unfold cD; omega
  have hS := anyStore_AC
  generalize cS + 2 + cN = C at *
  generalize cD = D at *
  refine AC0.of tab_ok mixed_ok Try.func62 (by rfl) (by kernel_rfl) ?_; rintro ⟨P, T, hT, hm, w0, S0, rd0, k0⟩ hP hTT hk0; dsimp only at hP hTT hk0; subst hP hTT hk0; unfold initSt; rw [Try.ntmps62]
  (repeat (first | with_reducible refine AW.seq ?_ | ((first | refine arun_kn 4 rfl (fun C hC => ?_) | refine arunD_kn 4 rfl (fun C hC => ?_)); (repeat ((conv => whnf); simp)); refine hC _ ?_; clear hC C; simp only [List.drop, Nat.reduceAdd]) | ((first | refine arun_kn 1 rfl (fun C hC => ?_) | refine arunD_kn 1 rfl (fun C hC => ?_)); (repeat ((conv => whnf); simp)); refine hC _ ?_; clear hC C; simp only [List.drop, Nat.reduceAdd]) | (refine arun_skip ?_ ?_; (focus (simp [awant]; done))) | (refine arun_cN D (newReader_ACN zs (0 + D) hl (by omega) hb) ?_) | (refine arun_c (C) (hS) ?_; (rintro _ ⟨s, hs, rfl⟩)) | (refine AW.regionK [] (fun K hK => ?_)) | (refine AW.regionDK [] (pcs [] []) (by kernel_rfl) (by kernel_rfl) (fun K hK => ?_)) | (refine AW.condT ?_ ?_; (focus (simp [aev]; done))) | (refine AW.condF ?_ ?_; (focus (simp [aev]; done))) | with_reducible refine AW.block ?_ | ((first | ((first | refine arun_nil ?_ | refine arunD_nil ?_); refine hK _ ?_; clear hK K) | refine AW.skip ?_ | refine AW.exit ?_ | refine AW.ret ?_); simp only [thenA_exit, inBlockA_exit, if_true, if_false, Nat.reduceEqDiff, thenA_normal, inBlockA_normal, reduceIte, thenA_ret, inBlockA_ret, endQ_ret, endR_ret, endG_ret, endQ_normal, endR_normal, endG_normal])))
  exact ⟨storeA s, by simp [ares, aresL, upd, rowsOf_cons], storeA_pur s, s, hs, rfl⟩
end Go.Proofs.Ytmeobmegnneegaa.Eng
namespace Go.Proofs.Ytmeobmegnneegaa.Eng
open Go Go.RowKit
def changeL (nm : ByteArray) (g : Bool) (n : Nd) : List AV := .str nm :: .bool g :: nodeL n
def changeA (nm : ByteArray) (g : Bool) (n : Nd) : AV := .agg (changeL nm g n)
theorem changeL_eq (nm : ByteArray) (g : Bool) (n : Nd) : changeL nm g n = [.str nm, .bool g, .int .i64 n.kind, .int .i64 n.num, .str n.text, .view .loose 1 (strsE n.names), .view .loose 5 (n.kids.map nodeL)] := by unfold changeL; rw [nodeL_eq]
theorem changeL_pur (nm : ByteArray) (g : Bool) (n : Nd) : ∀ c ∈ changeL nm g n, Pur c := by
  unfold changeL
  simp only [List.forall_mem_cons]
  exact ⟨pur_str, pur_bool, nodeL_pur n⟩
theorem changeL_in {U : Nat → Bool} (nm : ByteArray) (g : Bool) (n : Nd) : ∀ c ∈ changeL nm g n, AV.In U c := by
  unfold changeL
  simp only [List.forall_mem_cons]
  exact ⟨in_str, in_bool, nodeL_in n⟩
theorem change_pur (nm : ByteArray) (g : Bool) (n : Nd) : Pur (changeA nm g n) := pur_agg (changeL_pur nm g n)
theorem change_clo (nm : ByteArray) (g : Bool) (n : Nd) : Clo (changeA nm g n) := (change_pur nm g n).clo
theorem change_in {U : Nat → Bool} (nm : ByteArray) (g : Bool) (n : Nd) : AV.In U (changeA nm g n) := in_agg.2 (changeL_in nm g n)
def changeZ (nm : ByteArray) (g : Bool) : AV := .agg [.str nm, .bool g, .int .i64 0, .int .i64 0, .str ⟨#[]⟩, .view .tight 0 [], .view .tight 0 []]
theorem changeZ_wk (nm : ByteArray) (g : Bool) : Wk (changeZ nm g) (changeA nm g Nd.zero) := by
  unfold changeZ changeA
  rw [changeL_eq]
  exact Wk.agg (.cons (Wk.refl _) (.cons (Wk.refl _) (.cons (Wk.refl _) (.cons (Wk.refl _) (.cons (Wk.refl _) (.cons (Wk.nil (fun h => by cases h)) (.cons (Wk.nil (fun h => by cases h)) .nil)))))))
theorem changeZ_pur (nm : ByteArray) (g : Bool) : Pur (changeZ nm g) := pur_agg (by
  simp only [List.forall_mem_cons, List.not_mem_nil, false_implies, implies_true, and_true]
  exact ⟨pur_str, pur_bool, pur_int, pur_int, pur_str, pur_view (by decide) (fun e he => by cases he), pur_view (by decide) (fun e he => by cases he)⟩)
end Go.Proofs.Ytmeobmegnneegaa.Eng
-- EV: store change
namespace Go.Proofs.Ytmeobmegnneegaa.Eng
open Go Go.RowKit
attribute [local simp] big size_mk ASt.pay Option.map_map Function.comp_def awant aop acall ado aev ofVal ofVal0 ASt.put ASt.add ASt.turn ASt.kill abox aalloc astore aload ASt.at cellsTo afieldAddr afield aindexAddr aindex alen abin aint acmp astr aun apick aextract anil aslice abound abuild afill abuildSlice asCells aps avCells over upd aappend asrc amax amin aconv mkSt slots rowsOf_cons rowsOf_nil usedOf_cons usedOf_nil ZK.av List.replicate ASt.back ASt.addL ASt.killL nodeA nodeT nodeTL_eq nodeL_eq strsE_get strsE_len intsE_get intsE_len strsE_at intsE_at itemA itemL_eq storeA storeT storeO itemsRow changeA changeL_eq tab2 tab3 tab4 tab5 tab6 tab7 tab8 tab9 tab10 tab11 tab12 tab13 tab14 tab15 tab16 tab17 tab18 tab19 tab21 tab22 tab23 tab24 tab25 tab26 tab27 tab28 tab31 tab32 tab33 tab37 tab38 tab39 tab46 tab53 tab61 tab62 tab69 tab70 tab98 tab116 tab117 tab125 tab126 tab128 tab136 tab145 tab146 tab151 tab152 tab153 tab155 tab156 tab157
def cC : Nat := 3 + (nC 3 + 10 + 4 * nC 2) + 1 + 3 + 1 + cN
theorem anyChange_AC (s : Sto) (hs : s.1.length ≤ 1000) : AC Try.prog 102 [.rdr, storeA s] cC (fun r => ∃ (nm : ByteArray) (g : Bool) (n : Nd), Sml n ∧ r = changeA nm g n) := by
  have hS := someNode_AC
  have hN : AC Try.prog 109 [.rdr] cN rNodeA := anyNode_AC
  unfold cC
  generalize nC 3 + 10 + 4 * nC 2 = C at *
  generalize cN = M at *
  refine AC.weak ?_
  unfold storeA storeT
  refine AC.of tab_ok mixed_ok Try.func102 (by rfl) (by kernel_rfl) ?_; rintro ⟨P, T, hT, hm, w0, S0, rd0, k0⟩ hP hTT; dsimp only at hP hTT; subst hP hTT; unfold initSt; rw [Try.ntmps102]
  (repeat (first | with_reducible refine AW.seq ?_ | ((first | refine arun_kn 4 rfl (fun C hC => ?_) | refine arunD_kn 4 rfl (fun C hC => ?_)); (repeat ((conv => whnf); simp)); refine hC _ ?_; clear hC C; simp only [List.drop, Nat.reduceAdd]) | ((first | refine arun_kn 1 rfl (fun C hC => ?_) | refine arunD_kn 1 rfl (fun C hC => ?_)); (repeat ((conv => whnf); simp)); refine hC _ ?_; clear hC C; simp only [List.drop, Nat.reduceAdd]) | (refine arun_skip ?_ ?_; (focus (simp [awant]; done))) | (refine arun_c (3) (nameIn_AC .loose s (by omega)) ?_; (rintro _ ⟨x, rfl⟩)) | (refine arun_c (C) (hS) ?_; (rintro _ ⟨n, ⟨hn, -⟩, rfl⟩)) | (refine arun_c (1) (pick_AC 4 (by omega) (by omega)) ?_; (rintro _ ⟨v, rfl, -⟩)) | (refine AW.regionK [] (fun K hK => ?_)) | (refine AW.regionDK [] (pcs [] []) (by kernel_rfl) (by kernel_rfl) (fun K hK => ?_)) | (refine AW.condT ?_ ?_; (focus (simp [aev]; done))) | (refine AW.condF ?_ ?_; (focus (simp [aev]; done))) | with_reducible refine AW.block ?_ | ((first | ((first | refine arun_nil ?_ | refine arunD_nil ?_); refine hK _ ?_; clear hK K) | refine AW.skip ?_ | refine AW.exit ?_ | refine AW.ret ?_); simp only [thenA_exit, inBlockA_exit, if_true, if_false, Nat.reduceEqDiff, thenA_normal, inBlockA_normal, reduceIte, thenA_ret, inBlockA_ret, endQ_ret, endR_ret, endG_ret, endQ_normal, endR_normal, endG_normal])))
  cases hv : (v == 0)
  · (repeat (first | with_reducible refine AW.seq ?_ | ((first | refine arun_kn 4 rfl (fun C hC => ?_) | refine arunD_kn 4 rfl (fun C hC => ?_)); (repeat ((conv => whnf); simp [hv])); refine hC _ ?_; clear hC C; simp only [List.drop, Nat.reduceAdd]) | ((first | refine arun_kn 1 rfl (fun C hC => ?_) | refine arunD_kn 1 rfl (fun C hC => ?_)); (repeat ((conv => whnf); simp [hv])); refine hC _ ?_; clear hC C; simp only [List.drop, Nat.reduceAdd]) | (refine arun_skip ?_ ?_; (focus (simp [awant, hv]; done))) | (refine arun_c (1) (pick_AC 30 (by omega) (by omega)) ?_; (rintro _ ⟨u, rfl, -⟩)) | (refine AW.regionK [] (fun K hK => ?_)) | (refine AW.regionDK [] (pcs [] []) (by kernel_rfl) (by kernel_rfl) (fun K hK => ?_)) | (refine AW.condT ?_ ?_; (focus (simp [aev, hv]; done))) | (refine AW.condF ?_ ?_; (focus (simp [aev, hv]; done))) | with_reducible refine AW.block ?_ | ((first | ((first | refine arun_nil ?_ | refine arunD_nil ?_); refine hK _ ?_; clear hK K) | refine AW.skip ?_ | refine AW.exit ?_ | refine AW.ret ?_); simp only [thenA_exit, inBlockA_exit, if_true, if_false, Nat.reduceEqDiff, thenA_normal, inBlockA_normal, reduceIte, thenA_ret, inBlockA_ret, endQ_ret, endR_ret, endG_ret, endQ_normal, endR_normal, endG_normal])))
    cases hu : (u == 0)
    · (repeat (first | with_reducible refine AW.seq ?_ | ((first | refine arun_kn 4 rfl (fun C hC => ?_) | refine arunD_kn 4 rfl (fun C hC => ?_)); (repeat ((conv => whnf); simp [hu])); refine hC _ ?_; clear hC C; simp only [List.drop, Nat.reduceAdd]) | ((first | refine arun_kn 1 rfl (fun C hC => ?_) | refine arunD_kn 1 rfl (fun C hC => ?_)); (repeat ((conv => whnf); simp [hu])); refine hC _ ?_; clear hC C; simp only [List.drop, Nat.reduceAdd]) | (refine arun_skip ?_ ?_; (focus (simp [awant, hu]; done))) | (refine AW.regionK [] (fun K hK => ?_)) | (refine AW.regionDK [] (pcs [] []) (by kernel_rfl) (by kernel_rfl) (fun K hK => ?_)) | (refine AW.condT ?_ ?_; (focus (simp [aev, hu]; done))) | (refine AW.condF ?_ ?_; (focus (simp [aev, hu]; done))) | with_reducible refine AW.block ?_ | ((first | ((first | refine arun_nil ?_ | refine arunD_nil ?_); refine hK _ ?_; clear hK K) | refine AW.skip ?_ | refine AW.exit ?_ | refine AW.ret ?_); simp only [thenA_exit, inBlockA_exit, if_true, if_false, Nat.reduceEqDiff, thenA_normal, inBlockA_normal, reduceIte, thenA_ret, inBlockA_ret, endQ_ret, endR_ret, endG_ret, endQ_normal, endR_normal, endG_normal])))
      exact ⟨changeA x false n, by simp [changeA, changeL_eq, ares, aresL, upd, rowsOf_cons], change_pur _ _ _, _, Wk.refl _, x, false, n, hn, rfl⟩
    · (repeat (first | with_reducible refine AW.seq ?_ | ((first | refine arun_kn 4 rfl (fun C hC => ?_) | refine arunD_kn 4 rfl (fun C hC => ?_)); (repeat ((conv => whnf); simp [hu])); refine hC _ ?_; clear hC C; simp only [List.drop, Nat.reduceAdd]) | ((first | refine arun_kn 1 rfl (fun C hC => ?_) | refine arunD_kn 1 rfl (fun C hC => ?_)); (repeat ((conv => whnf); simp [hu])); refine hC _ ?_; clear hC C; simp only [List.drop, Nat.reduceAdd]) | (refine arun_skip ?_ ?_; (focus (simp [awant, hu]; done))) | (refine arun_c (M) (hN) ?_; (rintro _ ⟨n', hn', rfl⟩)) | (refine AW.regionK [] (fun K hK => ?_)) | (refine AW.regionDK [] (pcs [] []) (by kernel_rfl) (by kernel_rfl) (fun K hK => ?_)) | (refine AW.condT ?_ ?_; (focus (simp [aev, hu]; done))) | (refine AW.condF ?_ ?_; (focus (simp [aev, hu]; done))) | with_reducible refine AW.block ?_ | ((first | ((first | refine arun_nil ?_ | refine arunD_nil ?_); refine hK _ ?_; clear hK K) | refine AW.skip ?_ | refine AW.exit ?_ | refine AW.ret ?_); simp only [thenA_exit, inBlockA_exit, if_true, if_false, Nat.reduceEqDiff, thenA_normal, inBlockA_normal, reduceIte, thenA_ret, inBlockA_ret, endQ_ret, endR_ret, endG_ret, endQ_normal, endR_normal, endG_normal])))
      exact ⟨changeA x false n', by simp [changeA, changeL_eq, ares, aresL, upd, rowsOf_cons], change_pur _ _ _, _, Wk.refl _, x, false, n', hn', rfl⟩
  · (repeat (first | with_reducible refine AW.seq ?_ | ((first | refine arun_kn 4 rfl (fun C hC => ?_) | refine arunD_kn 4 rfl (fun C hC => ?_)); (repeat ((conv => whnf); simp [hv])); refine hC _ ?_; clear hC C; simp only [List.drop, Nat.reduceAdd]) | ((first | refine arun_kn 1 rfl (fun C hC => ?_) | refine arunD_kn 1 rfl (fun C hC => ?_)); (repeat ((conv => whnf); simp [hv])); refine hC _ ?_; clear hC C; simp only [List.drop, Nat.reduceAdd]) | (refine arun_skip ?_ ?_; (focus (simp [awant, hv]; done))) | (refine arun_c (3) (nameIn_AC .loose s (by omega)) ?_; (rintro _ ⟨y, rfl⟩)) | (refine arun_c (1) (pick_AC 30 (by omega) (by omega)) ?_; (rintro _ ⟨u, rfl, -⟩)) | (refine AW.regionK [] (fun K hK => ?_)) | (refine AW.regionDK [] (pcs [] []) (by kernel_rfl) (by kernel_rfl) (fun K hK => ?_)) | (refine AW.condT ?_ ?_; (focus (simp [aev, hv]; done))) | (refine AW.condF ?_ ?_; (focus (simp [aev, hv]; done))) | with_reducible refine AW.block ?_ | ((first | ((first | refine arun_nil ?_ | refine arunD_nil ?_); refine hK _ ?_; clear hK K) | refine AW.skip ?_ | refine AW.exit ?_ | refine AW.ret ?_); simp only [thenA_exit, inBlockA_exit, if_true, if_false, Nat.reduceEqDiff, thenA_normal, inBlockA_normal, reduceIte, thenA_ret, inBlockA_ret, endQ_ret, endR_ret, endG_ret, endQ_normal, endR_normal, endG_normal])))
    cases hu : (u == 0)
    · (repeat (first | with_reducible refine AW.seq ?_ | ((first | refine arun_kn 4 rfl (fun C hC => ?_) | refine arunD_kn 4 rfl (fun C hC => ?_)); (repeat ((conv => whnf); simp [hu])); refine hC _ ?_; clear hC C; simp only [List.drop, Nat.reduceAdd]) | ((first | refine arun_kn 1 rfl (fun C hC => ?_) | refine arunD_kn 1 rfl (fun C hC => ?_)); (repeat ((conv => whnf); simp [hu])); refine hC _ ?_; clear hC C; simp only [List.drop, Nat.reduceAdd]) | (refine arun_skip ?_ ?_; (focus (simp [awant, hu]; done))) | (refine AW.regionK [] (fun K hK => ?_)) | (refine AW.regionDK [] (pcs [] []) (by kernel_rfl) (by kernel_rfl) (fun K hK => ?_)) | (refine AW.condT ?_ ?_; (focus (simp [aev, hu]; done))) | (refine AW.condF ?_ ?_; (focus (simp [aev, hu]; done))) | with_reducible refine AW.block ?_ | ((first | ((first | refine arun_nil ?_ | refine arunD_nil ?_); refine hK _ ?_; clear hK K) | refine AW.skip ?_ | refine AW.exit ?_ | refine AW.ret ?_); simp only [thenA_exit, inBlockA_exit, if_true, if_false, Nat.reduceEqDiff, thenA_normal, inBlockA_normal, reduceIte, thenA_ret, inBlockA_ret, endQ_ret, endR_ret, endG_ret, endQ_normal, endR_normal, endG_normal])))
      exact ⟨changeZ y true, by simp [changeZ, ares, aresL, upd, rowsOf_cons], changeZ_pur _ _, _, changeZ_wk _ _, y, true, Nd.zero, sml_leaf 0 0 ⟨#[]⟩, rfl⟩
    · (repeat (first | with_reducible refine AW.seq ?_ | ((first | refine arun_kn 4 rfl (fun C hC => ?_) | refine arunD_kn 4 rfl (fun C hC => ?_)); (repeat ((conv => whnf); simp [hu])); refine hC _ ?_; clear hC C; simp only [List.drop, Nat.reduceAdd]) | ((first | refine arun_kn 1 rfl (fun C hC => ?_) | refine arunD_kn 1 rfl (fun C hC => ?_)); (repeat ((conv => whnf); simp [hu])); refine hC _ ?_; clear hC C; simp only [List.drop, Nat.reduceAdd]) | (refine arun_skip ?_ ?_; (focus (simp [awant, hu]; done))) | (refine arun_c (M) (hN) ?_; (rintro _ ⟨n', hn', rfl⟩)) | (refine AW.regionK [] (fun K hK => ?_)) | (refine AW.regionDK [] (pcs [] []) (by kernel_rfl) (by kernel_rfl) (fun K hK => ?_)) | (refine AW.condT ?_ ?_; (focus (simp [aev, hu]; done))) | (refine AW.condF ?_ ?_; (focus (simp [aev, hu]; done))) | with_reducible refine AW.block ?_ | ((first | ((first | refine arun_nil ?_ | refine arunD_nil ?_); refine hK _ ?_; clear hK K) | refine AW.skip ?_ | refine AW.exit ?_ | refine AW.ret ?_); simp only [thenA_exit, inBlockA_exit, if_true, if_false, Nat.reduceEqDiff, thenA_normal, inBlockA_normal, reduceIte, thenA_ret, inBlockA_ret, endQ_ret, endR_ret, endG_ret, endQ_normal, endR_normal, endG_normal])))
      exact ⟨changeA y true n', by simp [changeA, changeL_eq, ares, aresL, upd, rowsOf_cons], change_pur _ _ _, _, Wk.refl _, y, true, n', hn', rfl⟩
theorem cC_le : cS + 2 + cN + cC ≤ 1000000 := by decide +kernel
theorem drawApplyChange_AC0 (zs : List Int) (hl : zs.length ≤ 1048576) (hb : ByteL zs) : AC0 Try.prog 52 [.view .loose 1 (bytesE zs)] (fun r => ∃ (s : Sto) (nm : ByteArray) (g : Bool) (n : Nd), s.1.length ≤ 1000 ∧ Sml n ∧ r = .tup [storeA s, changeA nm g n]) := by
  have hc := cC_le
  have hlt : cS + 2 + cN + cC ≤ cS + 2 + cN + cC := Nat.le_refl _
  have hS := anyStore_AC
  have hC := fun s hs => anyChange_AC s hs
  generalize cC = M at *
  generalize hD : cS + 2 + cN + M = D at *
  generalize cS + 2 + cN = C at *
  refine AC0.of tab_ok mixed_ok Try.func52 (by rfl) (by kernel_rfl) ?_; rintro ⟨P, T, hT, hm, w0, S0, rd0, k0⟩ hP hTT hk0; dsimp only at hP hTT hk0; subst hP hTT hk0; unfold initSt; rw [Try.ntmps52]
  (repeat (first | with_reducible refine AW.seq ?_ | ((first | refine arun_kn 4 rfl (fun C hC => ?_) | refine arunD_kn 4 rfl (fun C hC => ?_)); (repeat ((conv => whnf); simp)); refine hC _ ?_; clear hC C; simp only [List.drop, Nat.reduceAdd]) | ((first | refine arun_kn 1 rfl (fun C hC => ?_) | refine arunD_kn 1 rfl (fun C hC => ?_)); (repeat ((conv => whnf); simp)); refine hC _ ?_; clear hC C; simp only [List.drop, Nat.reduceAdd]) | (refine arun_skip ?_ ?_; (focus (simp [awant]; done))) | (refine arun_cN D (newReader_ACN zs (0 + D) hl (by omega) hb) ?_) | (refine arun_c (C) (hS) ?_; (rintro _ ⟨s, hs, rfl⟩)) | (refine arun_c (M) (hC s hs) ?_; (rintro _ ⟨nm, g, n, hn, rfl⟩)) | (refine arunD_c (C) (hS) ?_; (rintro _ ⟨s, hs, rfl⟩); intro _) | (refine arunD_cE (M) (hC s hs) (by exact ⟨_, ⟨⟨#[]⟩, false, _, sml_leaf 0 0 ⟨#[]⟩, rfl⟩, change_in _ _ _⟩) ?_; (rintro _ ⟨nm, g, n, hn, rfl⟩); intro _) | (refine AW.regionK [] (fun K hK => ?_)) | (refine AW.regionDK [] (pcs [(3, M, fun r => ∃ (nm : ByteArray) (g : Bool) (n : Nd), Sml n ∧ r = changeA nm g n)] []) (by kernel_rfl) (by kernel_rfl) (fun K hK => ?_)) | (refine AW.condT ?_ ?_; (focus (simp [aev]; done))) | (refine AW.condF ?_ ?_; (focus (simp [aev]; done))) | with_reducible refine AW.block ?_ | ((first | ((first | refine arun_nil ?_ | refine arunD_nil ?_); refine hK _ ?_; clear hK K) | refine AW.skip ?_ | refine AW.exit ?_ | refine AW.ret ?_); simp only [thenA_exit, inBlockA_exit, if_true, if_false, Nat.reduceEqDiff, thenA_normal, inBlockA_normal, reduceIte, thenA_ret, inBlockA_ret, endQ_ret, endR_ret, endG_ret, endQ_normal, endR_normal, endG_normal])))
  exact ⟨.tup [storeA s, changeA nm g n], by simp [changeA, changeL_eq, ares, aresL, upd, rowsOf_cons], tup2_pur (storeA_pur s) (change_pur _ _ _), s, nm, g, n, hs, hn, rfl⟩
end Go.Proofs.Ytmeobmegnneegaa.Eng
namespace Go.Proofs.Ytmeobmegnneegaa
open Go.RowKit
end Go.Proofs.Ytmeobmegnneegaa
namespace Go.Proofs.Ytmeobmegnneegaa
open Go Go.RowKit
section
variable {α : Type} {E : Rep α}
def RCells (E : Rep α) (w : World) (S : Nat → Prop) : List α → List Value → Prop
  | [], cs => cs = []
  | x :: l, cs => ∃ c d, cs = c ++ d ∧ E.R w S x c ∧ RCells E w S l d
def FCells (E : Rep α) (w : World) : List α → List Value → List Nat → Prop
  | [], cs, fp => cs = [] ∧ fp = []
  | x :: l, cs, fp => ∃ c d f g, cs = c ++ d ∧ fp = f ++ g ∧ E.F w x c f ∧ FCells E w l d g
theorem RCells.len {w : World} {S : Nat → Prop} : ∀ {l : List α} {cs : List Value}, RCells E w S l cs → cs.length = l.length * E.n
  | [], _, h => by cases h; simp
  | x :: l, cs, ⟨c, d, e, h1, h2⟩ => by rw [e, List.length_append, E.rlen h1, RCells.len h2, List.length_cons, Nat.succ_mul]; omega
theorem RCells.snoc {w : World} {S : Nat → Prop} {x : α} {c : List Value} (hx : E.R w S x c) : ∀ {l : List α} {cs : List Value}, RCells E w S l cs → RCells E w S (l ++ [x]) (cs ++ c)
  | [], _, h => by cases h; exact ⟨c, [], by simp, hx, rfl⟩
  | y :: l, cs, ⟨c', d, e, h1, h2⟩ => ⟨c', d ++ c, by rw [e, List.append_assoc], h1, RCells.snoc hx h2⟩
theorem RCells.app {w : World} {S : Nat → Prop} {m : List α} {ds : List Value} (hm : RCells E w S m ds) : ∀ {l : List α} {cs : List Value}, RCells E w S l cs → RCells E w S (l ++ m) (cs ++ ds)
  | [], _, h => by cases h; simpa using hm
  | y :: l, cs, ⟨c', d, e, h1, h2⟩ => ⟨c', d ++ ds, by rw [e, List.append_assoc], h1, RCells.app hm h2⟩
theorem RCells.ext {X S : Nat → Prop} {w w' : World} (h : Ext X w w') (hS : ∀ k, S k → ¬ X k) : ∀ {l : List α} {cs : List Value}, RCells E w S l cs → RCells E w' S l cs
  | [], _, h => h
  | x :: l, cs, ⟨c, d, e, h1, h2⟩ => ⟨c, d, e, E.ext h hS h1, RCells.ext h hS h2⟩
theorem RCells.mono {S T : Nat → Prop} {w : World} (hS : ∀ k, S k → T k) : ∀ {l : List α} {cs : List Value}, RCells E w S l cs → RCells E w T l cs
  | [], _, h => h
  | x :: l, cs, ⟨c, d, e, h1, h2⟩ => ⟨c, d, e, E.mono hS h1, RCells.mono hS h2⟩
theorem RCells.lt {S : Nat → Prop} {w : World} : ∀ {l : List α} {cs : List Value}, RCells E w S l cs → RCells E w (fun k => S k ∧ k < w.heap.size) l cs
  | [], _, h => h
  | x :: l, cs, ⟨c, d, e, h1, h2⟩ => ⟨c, d, e, E.lt h1, RCells.lt h2⟩
theorem RCells.get {w : World} {S : Nat → Prop} : ∀ {l : List α} {cs : List Value}, RCells E w S l cs → ∀ i (h : i < l.length), ∃ c, (∀ j v, c[j]? = some v → cs[i * E.n + j]? = some v) ∧ E.R w S l[i] c
  | [], _, _, i, h => absurd h (by simp)
  | x :: l, cs, ⟨c, d, e, h1, h2⟩, 0, _ => ⟨c, fun j v hj => by
      subst e; rw [Nat.zero_mul, Nat.zero_add, List.getElem?_append_left (List.getElem?_eq_some_iff.1 hj).1]; exact hj, h1⟩
  | x :: l, cs, ⟨c, d, e, h1, h2⟩, i + 1, h => by
    obtain ⟨c', h3, h4⟩ := RCells.get h2 i (by simpa using h)
    refine ⟨c', fun j v hj => ?_, by simpa using h4⟩
    subst e
    have hl := E.rlen h1
    rw [List.getElem?_append_right (by rw [hl, Nat.succ_mul]; omega), hl, show (i + 1) * E.n + j - E.n = i * E.n + j by rw [Nat.succ_mul]; omega]
    exact h3 j v hj
theorem FCells.len {w : World} : ∀ {l : List α} {cs : List Value} {fp : List Nat}, FCells E w l cs fp → cs.length = l.length * E.n
  | [], _, _, h => by rw [h.1]; simp
  | x :: l, cs, fp, ⟨c, d, f, g, e, _, h1, h2⟩ => by rw [e, List.length_append, E.flen h1, FCells.len h2, List.length_cons, Nat.succ_mul]; omega
theorem FCells.snoc {w : World} {x : α} {c : List Value} {f' : List Nat} (hx : E.F w x c f') : ∀ {l : List α} {cs : List Value} {fp : List Nat}, FCells E w l cs fp → FCells E w (l ++ [x]) (cs ++ c) (fp ++ f')
  | [], _, _, h => by obtain ⟨rfl, rfl⟩ := h; exact ⟨c, [], f', [], by simp, by simp, hx, rfl, rfl⟩
  | y :: l, cs, fp, ⟨c', d, f, g, e1, e2, h1, h2⟩ => ⟨c', d ++ c, f, g ++ f', by rw [e1, List.append_assoc], by rw [e2, List.append_assoc], h1, FCells.snoc hx h2⟩
theorem FCells.keep {w w' : World} : ∀ {l : List α} {cs : List Value} {fp : List Nat}, FCells E w l cs fp → (∀ b ∈ fp, ∀ o, w'.cell? ⟨b, o, none⟩ = w.cell? ⟨b, o, none⟩) → FCells E w' l cs fp
  | [], _, _, h, _ => h
  | x :: l, cs, fp, ⟨c, d, f, g, e1, e2, h1, h2⟩, hk => ⟨c, d, f, g, e1, e2, E.keep h1 (fun b hb => hk b (by rw [e2]; simp [hb])), FCells.keep h2 (fun b hb => hk b (by rw [e2]; simp [hb]))⟩
theorem FCells.toR {w : World} {S : Nat → Prop} : ∀ {l : List α} {cs : List Value} {fp : List Nat}, FCells E w l cs fp → (∀ b ∈ fp, S b) → RCells E w S l cs
  | [], _, _, h, _ => h.1
  | x :: l, cs, fp, ⟨c, d, f, g, e1, e2, h1, h2⟩, hk => ⟨c, d, e1, E.toR h1 (fun b hb => hk b (by rw [e2]; simp [hb])), FCells.toR h2 (fun b hb => hk b (by rw [e2]; simp [hb]))⟩
theorem FCells.row {w : World} {b : Nat} : ∀ {l : List α} {cs : List Value} {fp : List Nat} {o : Nat}, FCells E w l cs fp → (∀ i v, cs[i]? = some v → w.cell? ⟨b, o + i, none⟩ = some v) → RowF E w b o l fp
  | [], _, _, _, h, _ => h.2
  | x :: l, cs, fp, o, ⟨c, d, f, g, e1, e2, h1, h2⟩, hk => by
    have hl := E.flen h1
    refine ⟨f, g, c, e2, fun i v hi => hk i v (by rw [e1, List.getElem?_append_left (List.getElem?_eq_some_iff.1 hi).1]; exact hi), h1, FCells.row h2 (fun i v hi => ?_)⟩
    have := hk (E.n + i) v (by rw [e1, List.getElem?_append_right (by omega), hl, Nat.add_sub_cancel_left]; exact hi)
    rw [Nat.add_assoc]; exact this
def rowB (t : Value) (k : Nat) : Prop := t.ownBlock = some k
def RowR (E : Rep α) (B : Nat) (T : TypeId) (w : World) (t : Value) (l : List α) : Prop := ∃ cs, w.ownsRow B T E.n t l.length cs ∧ RCells E w (offRow B t) l cs
def RowO (E : Rep α) (B : Nat) (T : TypeId) (w : World) (t : Value) (l : List α) : Prop :=
  ∃ cs fp, w.ownsRow B T E.n t l.length cs ∧ FCells E w l cs fp ∧ Free B w fp ∧ ∀ b ∈ fp, ¬ rowB t b
variable {B : Nat} {T : TypeId} {w w' w0 : World} {t : Value} {l : List α}
theorem RowR.nil : RowR E B T w (.slice none 0 0) [] := ⟨[], World.ownsRow_nil _ _ _ _, rfl⟩
theorem RowO.nil : RowO E B T w (.slice none 0 0) [] := ⟨[], [], World.ownsRow_nil _ _ _ _, ⟨rfl, rfl⟩, Free.nil _ _, by simp⟩
theorem RowR.made (h : B ≤ w.heap.size) : RowR E B T (w.alloc (.cells #[] T)) (.slice (some ⟨w.heap.size, 0, Option.none⟩) 0 0) [] :=
  ⟨[], World.ownsRow_made w #[] 0 h (by unfold maxLen; omega) (by simp), rfl⟩
theorem RowO.made (h : B ≤ w.heap.size) : RowO E B T (w.alloc (.cells #[] T)) (.slice (some ⟨w.heap.size, 0, Option.none⟩) 0 0) [] :=
  ⟨[], [], World.ownsRow_made w #[] 0 h (by unfold maxLen; omega) (by simp), ⟨rfl, rfl⟩, Free.nil _ _, by simp⟩
theorem RowR.grow (h : RowR E B T w t l) (hg : Grow w w') : RowR E B T w' t l := by
  obtain ⟨cs, h1, h2⟩ := h; exact ⟨cs, row_grow h1 hg, h2.ext hg (fun _ _ h => h)⟩
theorem RowO.grow (h : RowO E B T w t l) (hg : Grow w w') : RowO E B T w' t l := by
  obtain ⟨cs, fp, h1, h2, h3, h4⟩ := h; exact ⟨cs, fp, row_grow h1 hg, h2.keep (hg.keeps h3 (fun _ _ h => h)), h3.ext hg (fun _ _ h => h), h4⟩
theorem RowR.slice (h : RowR E B T w t l) : ∃ a c, t = .slice a l.length c := by
  obtain ⟨cs, h1, _⟩ := h
  rcases h1.2 with ⟨rfl, h0⟩ | ⟨g, cap, cur, rfl, _⟩
  · exact ⟨_, _, by rw [h0]⟩
  · exact ⟨_, _, rfl⟩
theorem RowO.slice (h : RowO E B T w t l) : ∃ a c, t = .slice a l.length c := by
  obtain ⟨cs, fp, h1, _⟩ := h
  rcases h1.2 with ⟨rfl, h0⟩ | ⟨g, cap, cur, rfl, _⟩
  · exact ⟨_, _, by rw [h0]⟩
  · exact ⟨_, _, rfl⟩
theorem RowR.slR (h : RowR E B T w t l) : ∃ a c, t = .slice a l.length c ∧ SlR E w (upB B) a c l := by
  obtain ⟨cs, ⟨h1, h2⟩, h3⟩ := h
  rcases h2 with ⟨rfl, h0⟩ | ⟨g, cap, cur, rfl, hb, hg, hle, hcap, hcs, htake⟩
  · exact ⟨none, 0, by rw [h0], by omega, by unfold big; omega, .inl (List.length_eq_zero_iff.1 h0)⟩
  · refine ⟨_, cap, rfl, hle, by unfold maxLen at hcap; unfold big; omega, .inr ⟨g, 0, rfl, hb, fun i hi => ?_⟩⟩
    obtain ⟨c, h4, h5⟩ := h3.get i hi
    refine ⟨c, fun j v hj => ?_, E.mono (fun k hk => hk.1) h5⟩
    have := row_cells hg htake (i * E.n + j) v (h4 j v hj)
    rw [Nat.add_assoc]; exact this
theorem RowR.rv {hp : 0 < E.n} (h : RowR E B T w t l) : RV (slRep E hp) packO w (upB B) l t := by
  obtain ⟨a, c, rfl, hs⟩ := h.slR; exact ⟨_, rfl, a, c, rfl, hs⟩
theorem grownBy_rowB (h : w.grownBy w' t.ownBlock) : Ext (rowB t) w w' := grownBy_ext h
theorem RowR.snoc {x : α} {c cs : List Value} {t' : Value} (h1 : w.ownsRow B T E.n t l.length cs) (h2 : RCells E w (fun k => offRow B t k ∧ k < w.heap.size) l cs) (hx : E.R w (fun k => offRow B t k ∧ k < w.heap.size) x c)
    (h3 : w'.ownsRow B T E.n t' (l.length + 1) (cs ++ c)) (hg : w.grownBy w' t.ownBlock) (hv : t'.ownBlock = t.ownBlock ∨ t'.ownBlock = some w.heap.size) : RowR E B T w' t' (l ++ [x]) := by
  have he := grownBy_rowB hg
  have hoff : ∀ k, (offRow B t k ∧ k < w.heap.size) → offRow B t' k := fun k hk => ⟨hk.1.1, fun e => by
    rcases hv with hv | hv
    · exact hk.1.2 (hv ▸ e)
    · rw [hv] at e; cases e; omega⟩
  refine ⟨cs ++ c, by simpa using h3, ?_⟩
  exact (RCells.snoc (E.ext he (fun k hk => hk.1.2) hx) (h2.ext he (fun k hk => hk.1.2))).mono hoff
theorem RowO.snoc {x : α} {c : List Value} {f : List Nat} {t' : Value} {cs : List Value} {fp : List Nat} (hown : w0.ownsRow B T E.n t l.length cs) (hF : FCells E w0 l cs fp) (hfr : Free B w0 fp) (hoff : ∀ b ∈ fp, ¬ rowB t b)
    (hg : Grow w0 w) (hx : E.F w x c f) (hfx : Free w0.heap.size w f) (hb : B ≤ w0.heap.size)
    (h3 : w'.ownsRow B T E.n t' (l.length + 1) (cs ++ c)) (hgr : w.grownBy w' t.ownBlock) (hv : t'.ownBlock = t.ownBlock ∨ t'.ownBlock = some w.heap.size) : RowO E B T w' t' (l ++ [x]) := by
  have he := grownBy_rowB hgr
  have hlow := hown.lt
  have hfr1 := hfr.ext hg (fun _ _ h => h)
  have hofx : ∀ b ∈ f, ¬ rowB t b := fun b hb' e => by have := (hlow b e).2; have := (hfx.2 b hb').1; omega
  refine ⟨cs ++ c, fp ++ f, by simpa using h3, FCells.snoc (E.keep hx (he.keeps hfx hofx)) ((hF.keep (hg.keeps hfr (fun _ _ h => h))).keep (he.keeps hfr1 hoff)), ?_, fun b hb' e => ?_⟩
  · refine Free.app2 (hfr1.ext he hoff) ((hfx.ext he hofx).mono hb) (fun y h1 h2 => ?_)
    have := (hfr.2 y h1).2.1
    have := (hfx.2 y h2).1
    omega
  · rcases List.mem_append.1 hb' with h1 | h1
    · rcases hv with hv | hv
      · exact hoff b h1 (hv.symm.trans e)
      · unfold rowB at e; rw [hv] at e; cases e; have := (hfr1.2 _ h1).2.1; omega
    · rcases hv with hv | hv
      · exact hofx b h1 (hv.symm.trans e)
      · unfold rowB at e; rw [hv] at e; cases e; have := (hfx.2 _ h1).2.1; omega
end
end Go.Proofs.Ytmeobmegnneegaa
namespace Go.Proofs.Ytmeobmegnneegaa
open Go.RowKit
def strOf : Value → ByteArray
  | .string s => s
  | _ => ⟨#[]⟩
end Go.Proofs.Ytmeobmegnneegaa
