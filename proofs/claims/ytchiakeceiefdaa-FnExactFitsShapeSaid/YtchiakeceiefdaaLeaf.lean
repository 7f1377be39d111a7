/-
  The walks of the leaves: texts, names, parts of nodes.
-/
import Derived.Test.YtchiakeceiefdaaRows
import Derived.Test.YtchiakeceiefdaaTxt
import Derived.Test.YtchiakeceiefdaaReg
namespace Go.Proofs.Ytchiakeceiefdaa
open Go.RowKit

def okB (c : UInt8) : Bool := decide (32 ≤ (c.toNat : Int)) && decide ((c.toNat : Int) ≤ 126)
def plainT (s : ByteArray) : Bool := decide (s.size ≤ 12) && s.data.toList.all okB

theorem take_snoc (s : ByteArray) (k : Nat) (h : k < s.size) : s.data.toList.take (k + 1) = s.data.toList.take k ++ [s[k]] := by
  rw [List.take_succ_eq_append_getElem (by simpa using h)]; rfl

theorem all_step {p : UInt8 → Bool} (s : ByteArray) (k : Nat) (h : k < s.size) (h1 : (s.data.toList.take k).all p = true) (h2 : p s[k] = true) : (s.data.toList.take (k + 1)).all p = true := by
  rw [take_snoc s k h, List.all_append, h1]; simp [h2]

theorem all_stop {p : UInt8 → Bool} (s : ByteArray) (k : Nat) (h : k < s.size) (h2 : p s[k] = false) : s.data.toList.all p = false := by
  rw [List.all_eq_false]
  exact ⟨s[k], by simp [ByteArray.getElem_eq_getElem_data], by simp [h2]⟩

set_option maxHeartbeats 400000 in
theorem isPlainText_ok (s : ByteArray) (w : World) (hs : s.size ≤ big) :
    Calls Try.prog 144 #[.string s] w fun e w' => e = .returned (.bool (plainT s)) ∧ w' = w := by
  unfold big at hs
  by_cases hl : 12 < s.size
  · go_enter Try.func144, Try.ntmps144
    go_wp2
    go_ret
    exact ⟨by simp [plainT]; omega, rfl⟩
  · go_enter Try.func144, Try.ntmps144
    go_wp2
    go_loop [2, 3] (fun n i => n = .bool false ∧ ∃ k : Nat, k ≤ s.size ∧ i = .int .i64 k ∧ (s.data.toList.take k).all okB = true) (fun _ i => s.size - (intOf i).toNat)
    case atStart => exact ⟨rfl, 0, Nat.zero_le _, rfl, rfl⟩
    case round =>
      obtain ⟨rfl, k, hk, rfl, hall⟩ := hrel
      by_cases hlt : k < s.size
      · have Hall := Lib.hid hall
        clear hall
        by_cases hc : 32 ≤ (s[k].toNat : Int) ∧ (s[k].toNat : Int) ≤ 126
        · obtain ⟨hc1, hc2⟩ := hc
          go_wp2
          go_round
          case rel => exact ⟨rfl, k + 1, by omega, by go_num, all_step s k hlt Hall.out (by simp [okB]; omega)⟩
          case measure => simp [intOf]; omega
        · have hf : okB s[k] = false := by simp [okB]; omega
          have Hf := Lib.hid (all_stop s k hlt hf)
          clear hf
          go_wp2
          all_goals (go_ret; exact ⟨by simp [plainT, Hf.out], rfl⟩)
      · go_wp2
        go_ret
        exact ⟨by have : k = s.data.toList.length := by simp; omega
                  rw [this, List.take_length] at hall
                  simp [plainT, hall]; omega, rfl⟩

theorem take_snoc' {α : Type} (l : List α) (k : Nat) (h : k < l.length) : l.take (k + 1) = l.take k ++ [l[k]] := List.take_succ_eq_append_getElem h
theorem drop_cons {α : Type} (xs : List α) (k : Nat) (h : k < xs.length) : xs.drop k = xs[k] :: xs.drop (k + 1) := List.drop_eq_getElem_cons h

def namesFrom : Option ByteArray → List ByteArray → Bool
  | _, [] => true
  | p, x :: r => plainT x && (match p with | none => true | some y => Op.bytesLess y.toList x.toList) && namesFrom (some x) r
def namesB (xs : List ByteArray) : Bool := namesFrom none xs
def areNamesB (xs : List ByteArray) : Bool := decide (xs.length ≤ 6) && namesB xs

/-- What is left of the names from place k on. -/
def namesAt (xs : List ByteArray) (k : Nat) : Bool := namesFrom (if k = 0 then none else xs[k - 1]?) (xs.drop k)

theorem namesAt_zero (xs : List ByteArray) : namesAt xs 0 = namesB xs := by simp [namesAt, namesB]
theorem namesAt_end (xs : List ByteArray) (k : Nat) (h : ¬ k < xs.length) : namesAt xs k = true := by
  unfold namesAt; rw [List.drop_eq_nil_of_le (by omega)]; cases k <;> simp [namesFrom]
theorem namesAt_first (xs : List ByteArray) (h : 0 < xs.length) : namesAt xs 0 = (plainT xs[0] && namesAt xs 1) := by
  unfold namesAt; rw [drop_cons xs 0 h]; simp [namesFrom, h]
theorem namesAt_next (xs : List ByteArray) (k : Nat) (h : k < xs.length) (h0 : 0 < k) : namesAt xs k = (plainT xs[k] && Op.bytesLess xs[k - 1].toList xs[k].toList && namesAt xs (k + 1)) := by
  unfold namesAt
  rw [drop_cons xs k h, if_neg (by omega), List.getElem?_eq_getElem (by omega)]
  simp [namesFrom, h]

set_option maxHeartbeats 400000 in
theorem areNames_ok (a : Option Addr) (c : Nat) (xs : List ByteArray) (w : World) (S : Nat → Prop) (ha : StrsR w S a c xs) :
    Calls Try.prog 115 #[.slice a xs.length c] w fun e w' => e = .returned (.bool (areNamesB xs)) ∧ Grow w w' := by
  have hbig : xs.length ≤ 9223372036854775807 := ha.2.1
  have Ha := Lib.hid ha
  clear ha
  by_cases hl : 6 < xs.length
  · go_enter Try.func115, Try.ntmps115
    go_wp2
    go_ret
    exact ⟨by simp [areNamesB]; omega, Ext.refl _ _⟩
  · go_enter Try.func115, Try.ntmps115
    go_wp2
    go_loopw [2, 3, 4, 10] (fun n _ _ i wr => n = .bool false ∧ Grow w wr ∧ ∃ k : Nat, k ≤ xs.length ∧ i = .int .i64 k ∧ namesB xs = namesAt xs k) (fun _ _ _ i _ => xs.length - (intOf i).toNat)
    case atStart => exact ⟨rfl, Ext.refl _ _, 0, Nat.zero_le _, rfl, (namesAt_zero xs).symm⟩
    case round =>
      obtain ⟨rfl, hg, k, hk, rfl, hr⟩ := hrel
      have Hr := Lib.hid hr
      clear hr
      by_cases hlt : k < xs.length
      · obtain ⟨_, _, hxs, ha4⟩ := (Ha.out).ext hg (fun _ _ h => h)
        rcases ha4 with rfl | ⟨ba, oa, rfl, _, hca⟩
        · simp at hlt
        have hx := hca k hlt
        have hsz := hxs _ (List.getElem_mem hlt)
        by_cases hk0 : 0 < k
        · have hy := hca (k - 1) (by omega)
          have hs := namesAt_next xs k hlt hk0
          have Hs := Lib.hid hs
          clear hca Ha hs
          go_wp2_with (go_at_call 144; refine (isPlainText_ok _ _ hsz).mono ?_; rintro e w' ⟨rfl, rfl⟩)
          all_goals first
            | (go_ret; exact ⟨by simp_all [areNamesB, Hr.out, Hs.out], hg⟩)
            | (go_roundw
               case rel => exact ⟨rfl, hg, k + 1, by omega, by go_num, by rw [Hr.out, Hs.out]; simp_all⟩
               case measure => simp [intOf]; omega)
        · obtain rfl : k = 0 := by omega
          simp only [Nat.add_zero] at hx
          have hs := namesAt_first xs hlt
          have Hs := Lib.hid hs
          clear hca Ha hs
          go_wp2_with (go_at_call 144; refine (isPlainText_ok _ _ hsz).mono ?_; rintro e w' ⟨rfl, rfl⟩)
          all_goals first
            | (go_ret; exact ⟨by simp_all [areNamesB, Hr.out, Hs.out], hg⟩)
            | (go_roundw
               case rel => exact ⟨rfl, hg, 1, by omega, by go_num, by rw [Hr.out, Hs.out]; simp_all⟩
               case measure => simp [intOf]; omega)
      · go_wp2
        go_ret
        exact ⟨by simp [areNamesB, Hr.out, namesAt_end _ _ hlt]; omega, hg⟩

def partsB (n : Nd) : Bool :=
  (decide (n.kind = 1) || decide (n.num = 0)) && (decide (n.kind = 2) || n.text.toList.isEmpty) && (decide (n.kind = 4) || decide (n.names.length = 0)) &&
  (if n.kind = 0 then decide (n.kids.length = 0) else if n.kind = 1 then decide (-999999 ≤ n.num) && decide (n.num ≤ 999999) && decide (n.kids.length = 0)
   else if n.kind = 2 then plainT n.text && decide (n.kids.length = 0) else if n.kind = 3 then decide (n.kids.length ≤ 6)
   else if n.kind = 4 then areNamesB n.names && decide (n.kids.length = n.names.length) else false)

theorem ibeq (a b : Int) : (a == b) = decide (a = b) := by by_cases h : a = b <;> simp [h]
theorem ibne (a b : Int) : (a != b) = !decide (a = b) := by by_cases h : a = b <;> simp [h]

theorem bcell {w w' : World} (hg : Grow w w') : (∀ b o, b < w.heap.size → w'.cell? ⟨b, o, none⟩ = w.cell? ⟨b, o, none⟩) := fun b o h => hg.cell (p := ⟨b, o, none⟩) h (fun h => h)

set_option maxHeartbeats 1000000 in
theorem hasValidParts_ok (n : Nd) (v : Value) (w : World) (S : Nat → Prop) (hn : NodeR w S n v) :
    Calls Try.prog 116 #[v] w fun e w' => e = .returned (.bool (partsB n)) ∧ Grow w w' := by
  obtain ⟨na, nc, ka, kc, rfl, hc⟩ := hn
  obtain ⟨htx, hns, hks⟩ := hc.parts
  have hnl : n.names.length ≤ 9223372036854775807 := hns.2.1
  have hkl : n.kids.length ≤ 9223372036854775807 := hks.2.1
  have Hns := Lib.hid hns
  have Hks := Lib.hid hks
  have Htx := Lib.hid htx
  clear hns hks hc htx
  unfold nodeV
  go_enter Try.func116, Try.ntmps116
  go_wp2_with (first | (go_at_call 144; refine (isPlainText_ok _ _ Htx.out).mono ?_; rintro e w' ⟨rfl, rfl⟩) | (go_at_call 115; refine (areNames_ok _ _ _ _ S (Hns.out.ext ((Ext.refl nil w).alloc _) (fun _ _ h => h))).mono ?_; rintro e w' ⟨rfl, hg⟩; have hcc := bcell hg))
  all_goals go_ret
  all_goals refine ⟨?_, by repeat (first | exact Ext.refl _ _ | refine Ext.trans ?_ (by assumption) | refine Ext.drew ?_ | refine Ext.alloc ?_ _)⟩
  all_goals clear Hns Hks Htx
  all_goals (simp_all [partsB, ibeq, -List.length_eq_zero_iff])
  all_goals omega
end Go.Proofs.Ytchiakeceiefdaa
