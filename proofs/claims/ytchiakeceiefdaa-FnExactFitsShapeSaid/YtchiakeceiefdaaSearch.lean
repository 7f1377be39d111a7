/-
  Ascending texts, and the walk of slices.BinarySearch at texts.
-/
import Derived.Test.YtchiakeceiefdaaLeaf
import Derived.Deep.LoopGhost
namespace Go.Proofs.Ytchiakeceiefdaa
open Go.RowKit

/-- Texts that ascend. -/
def Asc (xs : List ByteArray) : Prop := ∀ i j (hi : i < xs.length) (hj : j < xs.length), i < j → lt xs[i] xs[j] = true

theorem namesFrom_asc : ∀ (p : Option ByteArray) (xs : List ByteArray), namesFrom p xs = true → Asc xs ∧ ∀ y, p = some y → ∀ i (h : i < xs.length), lt y xs[i] = true
  | p, [], _ => ⟨fun i j hi => absurd hi (by simp), fun y _ i h => absurd h (by simp)⟩
  | p, x :: r, h => by
    simp only [namesFrom, Bool.and_eq_true] at h
    obtain ⟨⟨_, h2⟩, h3⟩ := h
    obtain ⟨ha, hb⟩ := namesFrom_asc (some x) r h3
    have hb := hb x rfl
    refine ⟨fun i j hi hj hij => ?_, fun y hy i hi => ?_⟩
    · cases j with
      | zero => omega
      | succ j =>
        cases i with
        | zero => exact hb j (by simpa using hj)
        | succ i => exact ha i j (by simpa using hi) (by simpa using hj) (by omega)
    · subst hy
      simp only at h2
      cases i with
      | zero => exact h2
      | succ i => exact bl_trans _ _ _ h2 (hb i (by simpa using hi))

theorem namesB_asc {xs : List ByteArray} (h : namesB xs = true) : Asc xs := (namesFrom_asc none xs h).1

/-- How many texts are less. -/
def lbound (xs : List ByteArray) (s : ByteArray) : Nat := xs.countP (fun x => lt x s)
def mem (xs : List ByteArray) (s : ByteArray) : Bool := xs.any fun x => decide (x = s)
theorem mem_iff {xs : List ByteArray} {s : ByteArray} : mem xs s = true ↔ s ∈ xs := by
  unfold mem; simp
theorem mem_no {xs : List ByteArray} {s : ByteArray} (h : ¬ s ∈ xs) : mem xs s = false := by
  cases h' : mem xs s
  · rfl
  · exact absurd (mem_iff.1 h') h
theorem lt_irr (x : ByteArray) : lt x x = false := bl_irrefl _

theorem lb_of {xs : List ByteArray} {s : ByteArray} {k : Nat} (hk : k ≤ xs.length) (h1 : ∀ t (h : t < xs.length), t < k → lt xs[t] s = true) (h2 : ∀ t (h : t < xs.length), k ≤ t → lt xs[t] s = false) : lbound xs s = k := by
  unfold lbound
  conv => lhs; rw [← List.take_append_drop k xs]
  rw [List.countP_append]
  have e1 : (xs.take k).countP (fun x => lt x s) = k := by
    rw [List.countP_eq_length.2, List.length_take, Nat.min_eq_left hk]
    intro a ha
    obtain ⟨i, hi, rfl⟩ := List.getElem_of_mem ha
    rw [List.getElem_take]
    exact h1 i (by simp at hi; omega) (by simp at hi; omega)
  have e2 : (xs.drop k).countP (fun x => lt x s) = 0 := by
    rw [List.countP_eq_zero]
    intro a ha
    obtain ⟨i, hi, rfl⟩ := List.getElem_of_mem ha
    rw [List.getElem_drop]
    simpa using h2 (k + i) (by simp at hi; omega) (by omega)
  omega

theorem lb_end {xs : List ByteArray} {s : ByteArray} {k : Nat} (ha : Asc xs) (hk : k ≤ xs.length) (h1 : ∀ t (h : t < xs.length), t < k → lt xs[t] s = true) (h2 : ∀ t (h : t < xs.length), k ≤ t → lt xs[t] s = false) :
    lbound xs s = k ∧ (∀ h : k < xs.length, mem xs s = decide (xs[k] = s)) ∧ (¬ k < xs.length → mem xs s = false) := by
  refine ⟨lb_of hk h1 h2, fun h => ?_, fun h => ?_⟩
  · by_cases e : xs[k] = s
    · have : s ∈ xs := e ▸ List.getElem_mem h
      rw [mem_iff.2 this]; simp [e]
    · have : ¬ s ∈ xs := by
        intro hm
        obtain ⟨i, hi, rfl⟩ := List.getElem_of_mem hm
        rcases Nat.lt_trichotomy i k with h' | h' | h'
        · have := h1 i hi h'; rw [lt_irr] at this; cases this
        · subst h'; exact e rfl
        · have := ha k i h hi h'; have := h2 k h (Nat.le_refl _); simp_all
      rw [mem_no this]; simp [e]
  · have : ¬ s ∈ xs := by
      intro hm
      obtain ⟨i, hi, rfl⟩ := List.getElem_of_mem hm
      have := h1 i hi (by omega); rw [lt_irr] at this; cases this
    exact mem_no this

theorem cmpIsNaN_ok (s : ByteArray) (w : World) : Calls Try.prog 165 #[.string s] w fun e w' => e = .returned (.bool false) ∧ w' = w := by
  go_enter Try.func165, Try.ntmps165
  go_wp2
  go_ret
  exact ⟨by simp, rfl⟩
theorem slicesIsNaN_ok (s : ByteArray) (w : World) : Calls Try.prog 159 #[.string s] w fun e w' => e = .returned (.bool false) ∧ w' = w := by
  go_enter Try.func159, Try.ntmps159
  go_wp2
  go_ret
  exact ⟨by simp, rfl⟩
theorem cmpLess_ok (s t : ByteArray) (w : World) : Calls Try.prog 158 #[.string s, .string t] w fun e w' => e = .returned (.bool (lt s t)) ∧ w' = w := by
  go_enter Try.func158, Try.ntmps158
  go_wp2_with (go_at_call 165; refine (cmpIsNaN_ok _ _).mono ?_; rintro e w' ⟨rfl, rfl⟩)
  go_ret
  exact ⟨by simp, rfl⟩

set_option maxHeartbeats 4000000 in
theorem bsearch_ok (a : Option Addr) (c : Nat) (xs : List ByteArray) (s : ByteArray) (w : World) (ha : StrsR w any a c xs) (hsort : Asc xs) (hbig : xs.length ≤ 4611686018427387903) :
    Calls Try.prog 140 #[.slice a xs.length c, .string s] w fun e w' => e = .returned (.tuple #[.int .i64 (lbound xs s : Nat), .bool (mem xs s)]) ∧ Grow w w' := by
  have Ha := Lib.hid ha
  have S := Lib.hid hsort
  clear ha hsort
  go_enter Try.func140, Try.ntmps140
  go_wp2
  go_loopg [7, 8] xs.length (fun g s7 s8 wr => ∃ lo hi : Nat, s7 = .int .i64 lo ∧ s8 = .int .i64 hi ∧ lo ≤ hi ∧ hi ≤ xs.length ∧ hi - lo ≤ g ∧ Grow w wr ∧ (∀ t (h : t < xs.length), t < lo → lt xs[t] s = true) ∧ (∀ t (h : t < xs.length), hi ≤ t → lt xs[t] s = false))
  case atStart => exact ⟨0, xs.length, rfl, rfl, Nat.zero_le _, Nat.le_refl _, by omega, Ext.refl _ _, fun t _ ht => absurd ht (Nat.not_lt_zero _), fun t h1 h2 => by omega⟩
  case round =>
    obtain ⟨lo, hi, rfl, rfl, hlh, hin, hg, hgr, h1, h2⟩ := hrel
    have I1 := Lib.hid h1
    have I2 := Lib.hid h2
    clear h1 h2
    by_cases hlt : lo < hi
    · obtain ⟨_, _, _, ha4⟩ := (Ha.out).ext hgr (fun _ _ h => h)
      rcases ha4 with rfl | ⟨ba, oa, rfl, _, hca⟩
      · exfalso; simp at hin; omega
      have hm : (lo + hi) / 2 < xs.length := by omega
      have cm := hca ((lo + hi) / 2) hm
      clear hca Ha
      cases hyx : lt xs[(lo + hi) / 2] s
      · have Y := Lib.hid hyx
        clear hyx
        go_wp2_with (first | (go_at_call 158; refine (cmpLess_ok _ _ _).mono ?_; rintro e w' ⟨rfl, rfl⟩; simp only [Y.out]) | (go_at_call 159; refine (slicesIsNaN_ok _ _).mono ?_; rintro e w' ⟨rfl, rfl⟩))
        go_roundg ((lo + hi) / 2 - lo)
        case measure => omega
        case rel =>
          refine ⟨lo, (lo + hi) / 2, rfl, by rw [show ((lo : Int) + (hi : Int)) / 2 = (((lo + hi) / 2 : Nat) : Int) by omega], by omega, by omega, Nat.le_refl _, hgr, I1.out, fun t h ht => ?_⟩
          rcases Nat.eq_or_lt_of_le ht with rfl | h'
          · exact Y.out
          · have := S.out _ t hm h h'
            cases hx : lt xs[t] s
            · rfl
            · have := bl_trans _ _ _ this hx
              have := Y.out
              simp_all
      · have Y := Lib.hid hyx
        clear hyx
        go_wp2_with (first | (go_at_call 158; refine (cmpLess_ok _ _ _).mono ?_; rintro e w' ⟨rfl, rfl⟩; simp only [Y.out]) | (go_at_call 159; refine (slicesIsNaN_ok _ _).mono ?_; rintro e w' ⟨rfl, rfl⟩))
        go_roundg (hi - ((lo + hi) / 2 + 1))
        case measure => omega
        case rel =>
          refine ⟨(lo + hi) / 2 + 1, hi, by rw [show ((lo : Int) + (hi : Int)) / 2 + 1 = (((lo + hi) / 2 + 1 : Nat) : Int) by omega], rfl, by omega, hin, Nat.le_refl _, hgr, fun t h ht => ?_, I2.out⟩
          rcases Nat.eq_or_lt_of_le (show t ≤ (lo + hi) / 2 by omega) with rfl | h'
          · exact Y.out
          · exact bl_trans _ _ _ (S.out t _ h hm h') Y.out
    · have : hi = lo := by omega
      subst this
      obtain ⟨e1, e2, e3⟩ := lb_end S.out hin I1.out I2.out
      have E1 := Lib.hid e1
      have E2 := Lib.hid e2
      have E3 := Lib.hid e3
      clear e1 e2 e3
      by_cases hn : hi < xs.length
      · obtain ⟨_, _, _, ha4⟩ := (Ha.out).ext hgr (fun _ _ h => h)
        rcases ha4 with rfl | ⟨ba, oa, rfl, _, hca⟩
        · exfalso; simp at hn
        have cm := hca hi hn
        clear hca Ha
        have q1 := beq_toList xs[hi] s
        have E2' := Lib.hid (E2.out hn)
        cases hd : decide (xs[hi] = s)
        · rw [hd] at q1
          have HD := Lib.hid hd
          clear hd
          go_wp2_with (first | (go_at_call 158; refine (cmpLess_ok _ _ _).mono ?_; rintro e w' ⟨rfl, rfl⟩) | (go_at_call 159; refine (slicesIsNaN_ok _ _).mono ?_; rintro e w' ⟨rfl, rfl⟩))
          go_ret2
          exact ⟨by rw [E1.out, E2'.out, HD.out]; first | rfl | simp, hgr⟩
        · rw [hd] at q1
          have HD := Lib.hid hd
          clear hd
          go_wp2_with (first | (go_at_call 158; refine (cmpLess_ok _ _ _).mono ?_; rintro e w' ⟨rfl, rfl⟩) | (go_at_call 159; refine (slicesIsNaN_ok _ _).mono ?_; rintro e w' ⟨rfl, rfl⟩))
          go_ret2
          exact ⟨by rw [E1.out, E2'.out, HD.out]; first | rfl | simp, hgr⟩
      · have E3' := Lib.hid (E3.out hn)
        go_wp2_with (first | (go_at_call 158; refine (cmpLess_ok _ _ _).mono ?_; rintro e w' ⟨rfl, rfl⟩) | (go_at_call 159; refine (slicesIsNaN_ok _ _).mono ?_; rintro e w' ⟨rfl, rfl⟩))
        go_ret2
        exact ⟨by rw [E1.out, E3'.out]; first | rfl | simp, hgr⟩

end Go.Proofs.Ytchiakeceiefdaa
