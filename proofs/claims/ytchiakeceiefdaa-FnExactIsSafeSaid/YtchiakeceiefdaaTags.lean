/-
  The walks of what makes lists of tags, operations and requests valid.
-/
import Derived.Test.YtchiakeceiefdaaRules
namespace Go.Proofs.Ytchiakeceiefdaa
open Go.RowKit

def star : ByteArray := { data := #[42] }
def tagsB1 (s : ByteArray) : Bool := (s.toList == star.toList) || tagB s
def tagsB (l : List ByteArray) : Bool := decide (l.length ≤ 4) && l.all tagsB1

theorem star_cases (s : ByteArray) : (s.toList = [42] ∧ tagsB1 s = true) ∨ (¬ s.toList = [42] ∧ tagB s = true ∧ tagsB1 s = true) ∨
    (¬ s.toList = [42] ∧ tagB s = false ∧ tagsB1 s = false) := by
  have hs : star.toList = [42] := by rw [ByteArray.toList_eq]; rfl
  unfold tagsB1
  rw [hs]
  by_cases h : s.toList = [42] <;> cases h2 : tagB s <;> simp [h]

set_option maxHeartbeats 400000 in
theorem areTags_ok (a : Option Addr) (c : Nat) (xs : List ByteArray) (w : World) (ha : StrsR w any a c xs) :
    Calls Try.prog 124 #[.slice a xs.length c] w fun e w' => e = .returned (.bool (tagsB xs)) ∧ w = w' := by
  have hbig : xs.length ≤ 9223372036854775807 := ha.2.1
  have Ha := Lib.hid ha
  clear ha
  by_cases hl : 4 < xs.length
  · go_enter Try.func124, Try.ntmps124
    go_wp2
    go_ret
    exact ⟨by simp [tagsB]; omega, rfl⟩
  · go_enter Try.func124, Try.ntmps124
    go_wp2
    go_loop [2, 4, 10] (fun n _ i => n = .bool false ∧ ∃ k : Nat, k ≤ xs.length ∧ i = .int .i64 k ∧ Hid (xs.all tagsB1 = (xs.drop k).all tagsB1)) (fun _ _ i => xs.length - (intOf i).toNat)
    case atStart => exact ⟨rfl, 0, Nat.zero_le _, rfl, Lib.hid rfl⟩
    case round =>
      obtain ⟨rfl, k, hk, rfl, Hr⟩ := hrel
      by_cases hlt : k < xs.length
      · obtain ⟨_, _, hxs, ha4⟩ := Ha.out
        rcases ha4 with rfl | ⟨ba, oa, rfl, _, hca⟩
        · simp at hlt
        have hx := hca k hlt
        have hsz := hxs _ (List.getElem_mem hlt)
        have Hs := Lib.hid (allD_step (p := tagsB1) xs k hlt)
        clear hca Ha hxs
        rcases star_cases xs[k] with ⟨hb, hp⟩ | ⟨hb, ht, hp⟩ | ⟨hb, ht, hp⟩
        · have Hp := Lib.hid hp
          clear hp
          have hb2 : (!xs[k].toList == [42]) = false := by simp [hb]
          go_wp2
          go_round
          case rel => exact ⟨rfl, k + 1, by omega, by go_num, Lib.hid (by rw [Hr.out, Hs.out, Hp.out, Bool.true_and])⟩
          case measure => simp [intOf]; omega
        · have Hp := Lib.hid hp
          clear hp
          have hb2 : (!xs[k].toList == [42]) = true := by simp [hb]
          go_wp2_with (go_at_call 146; refine (isSum_ok _ _ hsz).mono ?_; rintro e w' ⟨rfl, rfl⟩)
          go_round
          case rel => exact ⟨rfl, k + 1, by omega, by go_num, Lib.hid (by rw [Hr.out, Hs.out, Hp.out, Bool.true_and])⟩
          case measure => simp [intOf]; omega
        · have Hp := Lib.hid hp
          clear hp
          have hb2 : (!xs[k].toList == [42]) = true := by simp [hb]
          go_wp2_with (go_at_call 146; refine (isSum_ok _ _ hsz).mono ?_; rintro e w' ⟨rfl, rfl⟩)
          go_ret
          exact ⟨by simp [tagsB, Hr.out, Hs.out, Hp.out], rfl⟩
      · have Hs := Lib.hid (allD_end (p := tagsB1) xs k hlt)
        go_wp2
        go_ret
        exact ⟨by simp [tagsB, Hr.out, Hs.out]; omega, rfl⟩

set_option maxHeartbeats 400000 in
theorem validTags_ok (a : Option Addr) (c : Nat) (xs : List ByteArray) (w : World) (ha : StrsR w any a c xs) :
    Calls Try.prog 122 #[.slice a xs.length c] w fun e w' => e = .returned (.bool (tagsB xs)) ∧ w = w' := by
  have hbig : xs.length ≤ 9223372036854775807 := ha.2.1
  have Ha := Lib.hid ha
  clear ha
  go_enter Try.func122, Try.ntmps122
  go_wp2
  go_loop [2, 3] (fun n i => n = .bool false ∧ ∃ k : Nat, k ≤ xs.length ∧ i = .int .i64 k ∧ Hid (xs.all tagsB1 = (xs.drop k).all tagsB1)) (fun _ i => xs.length - (intOf i).toNat)
  case atStart => exact ⟨rfl, 0, Nat.zero_le _, rfl, Lib.hid rfl⟩
  case round =>
    obtain ⟨rfl, k, hk, rfl, Hr⟩ := hrel
    by_cases hlt : k < xs.length
    · obtain ⟨_, _, hxs, ha4⟩ := Ha.out
      rcases ha4 with rfl | ⟨ba, oa, rfl, _, hca⟩
      · simp at hlt
      have hx := hca k hlt
      have hsz := hxs _ (List.getElem_mem hlt)
      have Hs := Lib.hid (allD_step (p := tagsB1) xs k hlt)
      clear hca Ha hxs
      rcases star_cases xs[k] with ⟨hb, hp⟩ | ⟨hb, ht, hp⟩ | ⟨hb, ht, hp⟩
      · have Hp := Lib.hid hp
        clear hp
        have hb2 : (!xs[k].toList == [42]) = false := by simp [hb]
        go_wp2
        go_round
        case rel => exact ⟨rfl, k + 1, by omega, by go_num, Lib.hid (by rw [Hr.out, Hs.out, Hp.out, Bool.true_and])⟩
        case measure => simp [intOf]; omega
      · have Hp := Lib.hid hp
        clear hp
        have hb2 : (!xs[k].toList == [42]) = true := by simp [hb]
        go_wp2_with (go_at_call 145; refine (validTag_ok _ _ hsz).mono ?_; rintro e w' ⟨rfl, rfl⟩)
        go_round
        case rel => exact ⟨rfl, k + 1, by omega, by go_num, Lib.hid (by rw [Hr.out, Hs.out, Hp.out, Bool.true_and])⟩
        case measure => simp [intOf]; omega
      · have Hp := Lib.hid hp
        clear hp
        have hb2 : (!xs[k].toList == [42]) = true := by simp [hb]
        go_wp2_with (go_at_call 145; refine (validTag_ok _ _ hsz).mono ?_; rintro e w' ⟨rfl, rfl⟩)
        go_ret
        exact ⟨by simp [tagsB, Hr.out, Hs.out, Hp.out], rfl⟩
    · have Hs := Lib.hid (allD_end (p := tagsB1) xs k hlt)
      go_wp2
      go_ret
      exact ⟨by simp [tagsB, Hr.out, Hs.out]; omega, rfl⟩

end Go.Proofs.Ytchiakeceiefdaa
