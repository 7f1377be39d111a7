/-
  The order of texts, byte by byte.
-/
import Derived.Test.YtchiakeceiefdaaMem
namespace Go.Proofs.Ytchiakeceiefdaa
open Go Go.RowKit

/-- Text a is less than text b. -/
abbrev lt (a b : ByteArray) : Bool := Op.bytesLess a.toList b.toList

theorem bl_irrefl : ∀ x : List UInt8, Op.bytesLess x x = false
  | [] => rfl
  | a :: x => by simp [Op.bytesLess, bl_irrefl x]

theorem bl_tri : ∀ x y : List UInt8, (Op.bytesLess x y || x == y) = !Op.bytesLess y x
  | [], [] => rfl
  | [], b :: y => by simp [Op.bytesLess]
  | a :: x, [] => by simp [Op.bytesLess]
  | a :: x, b :: y => by
    have ih := bl_tri x y
    simp only [Op.bytesLess, List.cons_beq_cons]
    rcases (show a.toNat < b.toNat ∨ a.toNat = b.toNat ∨ b.toNat < a.toNat from by omega) with h | h | h
    · have h1 : a < b := UInt8.lt_iff_toNat_lt.2 h
      have h2 : ¬ b < a := fun h' => by have := UInt8.lt_iff_toNat_lt.1 h'; omega
      have h3 : ¬ a = b := fun e => by subst e; omega
      have h4 : ¬ b = a := fun e => h3 e.symm
      simp [h1, h2, h4]
    · have h3 : a = b := UInt8.toNat_inj.1 h
      subst h3
      have h1 : ¬ a < a := fun h' => by have := UInt8.lt_iff_toNat_lt.1 h'; omega
      simp [h1, ih]
    · have h1 : b < a := UInt8.lt_iff_toNat_lt.2 h
      have h2 : ¬ a < b := fun h' => by have := UInt8.lt_iff_toNat_lt.1 h'; omega
      have h3 : ¬ a = b := fun e => by subst e; omega
      have h4 : ¬ b = a := fun e => h3 e.symm
      simp [h1, h2, h3]

theorem bl_trans : ∀ x y z : List UInt8, Op.bytesLess x y = true → Op.bytesLess y z = true → Op.bytesLess x z = true
  | x, [], _, h, _ => by cases x <;> simp [Op.bytesLess] at h
  | _, _ :: _, [], _, h => by simp [Op.bytesLess] at h
  | [], _ :: _, _ :: _, _, _ => rfl
  | a :: x, b :: y, c :: z, h1, h2 => by
    simp only [Op.bytesLess, Bool.or_eq_true, Bool.and_eq_true, decide_eq_true_eq, beq_iff_eq] at h1 h2 ⊢
    rcases h1 with h1 | ⟨rfl, h1⟩
    · rcases h2 with h2 | ⟨rfl, h2⟩
      · exact .inl (UInt8.lt_iff_toNat_lt.2 (Nat.lt_trans (UInt8.lt_iff_toNat_lt.1 h1) (UInt8.lt_iff_toNat_lt.1 h2)))
      · exact .inl h1
    · rcases h2 with h2 | ⟨rfl, h2⟩
      · exact .inl h2
      · exact .inr ⟨rfl, bl_trans x y z h1 h2⟩

theorem bl_asymm (x y : List UInt8) (h : Op.bytesLess x y = true) : Op.bytesLess y x = false := by
  cases h' : Op.bytesLess y x
  · rfl
  · have := bl_trans _ _ _ h h'
    rw [bl_irrefl] at this; cases this

theorem toList_inj {a b : ByteArray} (h : a.toList = b.toList) : a = b := by
  have h' : a.data.toList = b.data.toList := by rw [← ByteArray.toList_eq, ← ByteArray.toList_eq]; exact h
  cases a; cases b; simp_all [Array.toList_inj]

theorem beq_toList (a b : ByteArray) : (a.toList == b.toList) = decide (a = b) := by
  by_cases h : a = b
  · simp [h]
  · have : ¬ a.toList = b.toList := fun e => h (toList_inj e)
    simp [h, this]

/-- Of two texts one is less, or they are equal: all tests at once. -/
theorem bl_cases (x y : ByteArray) :
    (Op.bytesLess x.toList y.toList = true ∧ Op.bytesLess y.toList x.toList = false ∧ (x.toList == y.toList) = false ∧ (y.toList == x.toList) = false ∧ x ≠ y) ∨
    (Op.bytesLess x.toList y.toList = false ∧ Op.bytesLess y.toList x.toList = true ∧ (x.toList == y.toList) = false ∧ (y.toList == x.toList) = false ∧ x ≠ y) ∨
    x = y := by
  by_cases h : x = y
  · exact .inr (.inr h)
  · have h1 : (x.toList == y.toList) = false := by rw [beq_toList]; simp [h]
    have h2 : (y.toList == x.toList) = false := by rw [beq_toList]; simp [Ne.symm h]
    have h3 := bl_tri x.toList y.toList
    rw [h1, Bool.or_false] at h3
    cases h4 : Op.bytesLess y.toList x.toList
    · exact .inl ⟨by rw [h3, h4]; rfl, rfl, h1, h2, h⟩
    · exact .inr (.inl ⟨by rw [h3, h4]; rfl, rfl, h1, h2, h⟩)

theorem blF_irrefl (x : ByteArray) : Op.bytesLess x.toList x.toList = false := bl_irrefl _

end Go.Proofs.Ytchiakeceiefdaa
