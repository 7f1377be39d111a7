/-
  The walks of the reference's validNode and what it calls.
-/
import Derived.Test.YtchiakeceiefdaaValid
namespace Go.Proofs.Ytchiakeceiefdaa
open Go.RowKit

theorem byte_lt (c : UInt8) : (c.toNat : Int) < 256 := by have := c.toNat_lt; omega

/-- A number lies between two others. -/
def inR (a b c : Int) : Bool := decide (b ≤ a) && decide (a ≤ c)

theorem inRange_ok (a b c : Int) (w : World) :
    Calls Try.prog 64 #[.int .i64 a, .int .i64 b, .int .i64 c] w fun e w' => e = .returned (.bool (inR a b c)) ∧ w' = w := by
  go_enter Try.func64, Try.ntmps64
  go_wp2
  all_goals go_ret
  all_goals exact ⟨by first | (simp_all [inR]; done) | (simp_all [inR]; omega), rfl⟩

set_option maxHeartbeats 400000 in
theorem validText_ok (s : ByteArray) (w : World) (hs : s.size ≤ big) :
    Calls Try.prog 141 #[.string s] w fun e w' => e = .returned (.bool (plainT s)) ∧ w' = w := by
  unfold big at hs
  go_enter Try.func141, Try.ntmps141
  go_wp2
  go_loop [2, 3] (fun n i => n = .bool false ∧ ∃ k : Nat, k ≤ s.size ∧ i = .int .i64 k ∧ (s.data.toList.take k).all okB = true) (fun _ i => s.size - (intOf i).toNat)
  case atStart => exact ⟨rfl, 0, Nat.zero_le _, rfl, rfl⟩
  case round =>
    obtain ⟨rfl, k, hk, rfl, hall⟩ := hrel
    by_cases hlt : k < s.size
    · have Hall := Lib.hid hall
      have hby := byte_lt s[k]
      clear hall
      cases hc : inR (s[k].toNat : Int) 32 126
      · have Hf := Lib.hid (all_stop s k hlt (p := okB) (by simpa [okB, inR] using hc))
        go_wp2_with (go_at_call 64; refine (inRange_ok _ _ _ _).mono ?_; rintro e w' ⟨rfl, rfl⟩)
        go_ret
        exact ⟨by simp [plainT, Hf.out], rfl⟩
      · have Hc := Lib.hid hc
        go_wp2_with (go_at_call 64; refine (inRange_ok _ _ _ _).mono ?_; rintro e w' ⟨rfl, rfl⟩)
        go_round
        case rel => exact ⟨rfl, k + 1, by omega, by go_num, all_step s k hlt Hall.out (by simpa [okB, inR] using Hc.out)⟩
        case measure => simp [intOf]; omega
    · go_wp2
      go_ret
      exact ⟨by have : k = s.data.toList.length := by simp; omega
                rw [this, List.take_length] at hall
                simp [plainT, hall]; omega, rfl⟩


theorem shapeL_zero {l : List Nd} {d : Nat} (h : l.length = 0) : shapeL l d = true := by
  rw [List.length_eq_zero_iff.1 h]; simp [shapeL]

set_option maxHeartbeats 1000000 in
theorem names_ok (a : Option Addr) (c : Nat) (xs : List ByteArray) (w : World) (ha : StrsR w any a c xs) :
    Calls Try.prog 111 #[.slice a xs.length c] w fun e w' => e = .returned (.bool (namesB xs)) ∧ Grow w w' := by
  have hbig : xs.length ≤ 9223372036854775807 := ha.2.1
  have Ha := Lib.hid ha
  clear ha
  go_enter Try.func111, Try.ntmps111
  go_wp2
  go_loopw [2, 3] (fun n i wr => n = .bool false ∧ Grow w wr ∧ ∃ k : Nat, k ≤ xs.length ∧ i = .int .i64 k ∧ namesB xs = namesAt xs k) (fun _ i _ => xs.length - (intOf i).toNat)
  case atStart => exact ⟨rfl, Ext.refl _ _, 0, Nat.zero_le _, rfl, (namesAt_zero xs).symm⟩
  case round =>
    obtain ⟨rfl, hg, k, hk, rfl, hr⟩ := hrel
    have Hr := Lib.hid hr
    clear hr
    by_cases hlt : k < xs.length
    · obtain ⟨_, _, hxs, ha4⟩ := (Ha.out).ext hg (fun _ _ h => h)
      rcases ha4 with rfl | ⟨ba, oa, rfl, _, hca⟩
      · simp at hlt
      have hx := hca k hlt
      have hsz := hxs _ (List.getElem_mem hlt)
      cases hp : plainT xs[k]
      · have Hs : Hid (namesAt xs k = false) := Lib.hid (by
          rcases Nat.eq_zero_or_pos k with rfl | hk0
          · rw [namesAt_first xs hlt, hp]; rfl
          · rw [namesAt_next xs k hlt hk0, hp]; simp)
        have Hp := Lib.hid hp
        clear hca Ha hp
        go_wp2
        go_quiet ((go_at_call 141; exact Calls.quiet_of_same (by simpa only [Hp.out] using validText_ok xs[k] _ hsz)))
        go_wp2
        go_ret
        exact ⟨by simp [Hr.out, Hs.out], hg.drewN _⟩
      · have Hp := Lib.hid hp
        by_cases hk0 : 0 < k
        · have hy := hca (k - 1) (by omega)
          have Hs := Lib.hid (namesAt_next xs k hlt hk0)
          have hki : (0 : Int) < (k : Int) := by omega
          clear hca Ha hp
          rcases bl_cases xs[k - 1] xs[k] with ⟨l1, l2, l3, l4, _⟩ | ⟨l1, l2, l3, l4, _⟩ | l0
          · go_wp2
            go_quiet ((go_at_call 141; exact Calls.quiet_of_same (by simpa only [Hp.out] using validText_ok xs[k] _ hsz)))
            go_wp2
            go_roundw
            case rel => exact ⟨rfl, hg.drewN _, k + 1, by omega, by go_num, by rw [Hr.out, Hs.out, Hp.out, l1]; rfl⟩
            case measure => simp [intOf]; omega
          · go_wp2
            go_quiet ((go_at_call 141; exact Calls.quiet_of_same (by simpa only [Hp.out] using validText_ok xs[k] _ hsz)))
            go_wp2
            go_ret; exact ⟨by simp [Hr.out, Hs.out, Hp.out, l1], hg.drewN _⟩
          · rw [l0] at hy Hs
            clear l0
            have l1 := blF_irrefl xs[k]
            go_wp2
            go_quiet ((go_at_call 141; exact Calls.quiet_of_same (by simpa only [Hp.out] using validText_ok xs[k] _ hsz)))
            go_wp2
            go_ret; exact ⟨by simp [Hr.out, Hs.out, Hp.out, l1], hg.drewN _⟩
        · obtain rfl : k = 0 := by omega
          simp only [Nat.add_zero] at hx
          have Hs := Lib.hid (namesAt_first xs hlt)
          clear hca Ha hp
          go_wp2
          go_quiet ((go_at_call 141; exact Calls.quiet_of_same (by simpa only [Hp.out] using validText_ok xs[0] _ hsz)))
          go_wp2
          go_roundw
          case rel => exact ⟨rfl, hg.drewN _, 1, by omega, by go_num, by rw [Hr.out, Hs.out, Hp.out]; rfl⟩
          case measure => simp [intOf]; omega
    · go_wp2
      go_ret
      exact ⟨by simp [Hr.out, namesAt_end _ _ hlt], hg⟩


/-- What the reference's 'shape' answers for a node. -/
def ShapeOk (n : Nd) : Prop := ∀ (d : Nat) (dep : Int) (v : Value) (w : World), d ≤ 5 → dep = (d : Int) → NodeR w any n v →
    Calls Try.prog 112 #[v, .int .i64 dep] w fun e w' => e = .returned (.bool (shapeB n d)) ∧ Grow w w'

set_option maxHeartbeats 400000 in
theorem kids_of (n : Nd) (ih : ∀ k ∈ n.kids, ShapeOk k) (d : Nat) (dep : Int) (v : Value) (w : World) (hd : d ≤ 4) (hdep : dep = (d : Int) + 1) (hn : NodeR w any n v) :
    Calls Try.prog 142 #[v, .int .i64 dep] w fun e w' => e = .returned (.bool (shapeL n.kids d)) ∧ Grow w w' := by
  have hd1 : 1 ≤ dep := by omega
  have hd2 : dep ≤ 5 := by omega
  have Hd := Lib.hid hdep
  have Ih := Lib.hid ih
  clear ih hdep
  obtain ⟨na, nc, ka, kc, rfl, hc⟩ := hn
  obtain ⟨htx, hns, hks⟩ := hc.parts
  have hkl : n.kids.length ≤ 9223372036854775807 := hks.2.1
  have Hks := Lib.hid hks
  clear htx hns hks hc
  unfold nodeV at *
  go_enter Try.func142, Try.ntmps142
  go_wp2
  go_loopw [4, 5] (fun n4 i wr => n4 = .bool false ∧ Grow (w.alloc (.cells #[.int .i64 n.kind, .int .i64 n.num, .string n.text, .slice na n.names.length nc, .slice ka n.kids.length kc] 30)) wr ∧ ∃ k : Nat, k ≤ n.kids.length ∧ i = .int .i64 k ∧ shapeL n.kids d = shapeL (n.kids.drop k) d) (fun _ i _ => n.kids.length - (intOf i).toNat)
  case atStart => exact ⟨rfl, Ext.refl _ _, 0, Nat.zero_le _, rfl, rfl⟩
  case round =>
    obtain ⟨rfl, hg, k, hk, rfl, hr⟩ := hrel
    have Hr := Lib.hid hr
    clear hr
    have hcc := bcell hg
    have hg0 : Grow w wr := ((Ext.refl _ _).alloc _).trans hg
    by_cases hlt : k < n.kids.length
    · obtain ⟨_, _, hks⟩ := (Hks.out).ext hg0 (fun _ _ h => h)
      rcases hks with hks | ⟨bk, ok, rfl, _, hkr⟩
      · simp [hks] at hlt
      obtain ⟨na', nc', ka', kc', c0, c1, c2, c3, c4, hkc⟩ := hkr.get k hlt
      have Hkc : Hid (NodeR wr any n.kids[k] (nodeV n.kids[k] na' nc' ka' kc')) := Lib.hid ⟨_, _, _, _, rfl, hkc⟩
      clear hkr hkc
      cases hsk : shapeB n.kids[k] d
      · have Hf := Lib.hid hsk
        have Hff := Lib.hid (shapeL_get hlt hsk)
        go_wp2_with (go_at_call 112; refine (Ih.out _ (List.getElem_mem hlt) d _ _ _ (by omega) (by have := Hd.out; omega) Hkc.out).mono ?_; rintro e w2 ⟨rfl, hg2⟩; simp only [Hf.out])
        go_ret
        exact ⟨by simp [Hff.out], hg0.trans hg2⟩
      · have Hf := Lib.hid hsk
        clear hsk
        go_wp2_with (go_at_call 112; refine (Ih.out _ (List.getElem_mem hlt) d _ _ _ (by omega) (by have := Hd.out; omega) Hkc.out).mono ?_; rintro e w2 ⟨rfl, hg2⟩; simp only [Hf.out])
        go_roundw
        case rel => exact ⟨rfl, hg.trans hg2, k + 1, by omega, by go_num, by rw [Hr.out, drop_cons _ _ hlt, shapeL, Hf.out]; rfl⟩
        case measure => simp [intOf]; omega
    · go_wp2
      go_ret
      exact ⟨by simp [Hr.out, List.drop_eq_nil_of_le (Nat.le_of_not_lt hlt), shapeL], hg0⟩

end Go.Proofs.Ytchiakeceiefdaa
