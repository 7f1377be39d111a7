/-
  The walks of the laws' sizes of texts and nodes.
-/
import Derived.Test.YtchiakeceiefdaaLawTo
namespace Go.Proofs.Ytchiakeceiefdaa
open Go.RowKit

/-- What is left of a budget. -/
def szR (c : Nat) (left : Int) : Int := if (c : Int) ≤ left then left - c else -1

theorem szR_neg {c : Nat} {left : Int} (h : left < c) : szR c left = -1 := by unfold szR; rw [if_neg (by omega)]
theorem szR_pos {c : Nat} {left : Int} (h : (c : Int) ≤ left) : szR c left = left - c := by unfold szR; rw [if_pos h]

theorem sum_take_le (l : List Nat) (k : Nat) : (l.take k).sum ≤ l.sum := by
  induction l generalizing k with
  | nil => simp
  | cons a l ih => cases k with
    | zero => simp
    | succ k => have := ih k; simp only [List.take_succ_cons, List.sum_cons]; omega

def sumB (xs : List ByteArray) : Nat := (xs.map (·.size)).sum
theorem sumB_snoc (xs : List ByteArray) (x : ByteArray) : sumB (xs ++ [x]) = sumB xs + x.size := by simp [sumB]
theorem sumB_take (xs : List ByteArray) (k : Nat) : sumB (xs.take k) ≤ sumB xs := by
  unfold sumB; rw [List.map_take]; exact sum_take_le _ _
theorem costS_eq (xs : List ByteArray) : costS xs = xs.length + sumB xs := rfl

def sumN (l : List Nd) : Nat := (l.map costN).sum
theorem sumN_snoc (xs : List Nd) (x : Nd) : sumN (xs ++ [x]) = sumN xs + costN x := by simp [sumN]
theorem sumN_take (xs : List Nd) (k : Nat) : sumN (xs.take k) ≤ sumN xs := by
  unfold sumN; rw [List.map_take]; exact sum_take_le _ _
theorem costL_eq (l : List Nd) : costL l = l.length + sumN l := by
  induction l with
  | nil => simp [costL, sumN]
  | cons a l ih => simp only [costL, ih, sumN, List.map_cons, List.sum_cons, List.length_cons]; omega

set_option maxHeartbeats 400000 in
theorem szStringS_ok (a : Option Addr) (c : Nat) (xs : List ByteArray) (left : Int) (w : World) (ha : StrsR w any a c xs) (h0 : 0 ≤ left) (h1 : left ≤ 1048576) :
    Calls Try.prog 71 #[.slice a xs.length c, .int .i64 left] w fun e w' => e = .returned (.int .i64 (szR (costS xs) left)) ∧ Grow w w' := by
  have hbig : xs.length ≤ 9223372036854775807 := ha.2.1
  have Ha := Lib.hid ha
  clear ha
  by_cases hl : left < (xs.length : Int)
  · have Hf := Lib.hid (szR_neg (c := costS xs) (left := left) (by rw [costS_eq]; omega))
    go_enter Try.func71, Try.ntmps71
    go_wp2
    go_ret
    exact ⟨by rw [Hf.out]; simp, Ext.refl _ _⟩
  · go_enter Try.func71, Try.ntmps71
    go_wp2
    go_loopw [1, 5] (fun t i wr => Grow w wr ∧ ∃ (k : Nat) (r : Int), k ≤ xs.length ∧ i = .int .i64 k ∧ t = .int .i64 r ∧ 0 ≤ r ∧ r ≤ 1048576 ∧ Hid (r = left - xs.length - sumB (xs.take k))) (fun _ i _ => xs.length - (intOf i).toNat)
    case atStart => exact ⟨Ext.refl _ _, 0, _, Nat.zero_le _, rfl, rfl, by omega, by omega, Lib.hid (by simp [sumB])⟩
    case round =>
      obtain ⟨hg, k, r, hk, rfl, rfl, hr0, hr1, Hr⟩ := hrel
      have hst := sumB_take xs k
      by_cases hlt : k < xs.length
      · obtain ⟨_, _, hxs, ha4⟩ := (Ha.out).ext hg (fun _ _ h => h)
        rcases ha4 with rfl | ⟨ba, oa, rfl, _, hca⟩
        · simp at hlt
        have hx := hca k hlt
        have hsz : xs[k].size ≤ 9223372036854775807 := hxs _ (List.getElem_mem hlt)
        have hst2 := sumB_take xs (k + 1)
        rw [take_snoc' _ _ hlt, sumB_snoc] at hst2
        clear hca Ha
        by_cases hneg : r < (xs[k].size : Int)
        · have Hf : Hid (szR (costS xs) left = -1) := Lib.hid (szR_neg (by rw [costS_eq]; have := Hr.out; omega))
          go_wp2
          go_ret
          exact ⟨by simp [Hf.out], hg⟩
        · go_wp2
          go_roundw
          case rel => exact ⟨hg, k + 1, _, by omega, by go_num, rfl, by omega, by omega, Lib.hid (by rw [take_snoc' _ _ hlt, sumB_snoc, Hr.out]; omega)⟩
          case measure => simp [intOf]; omega
      · have hke : k = xs.length := by omega
        have Hf : Hid (szR (costS xs) left = r) := Lib.hid (by
          have h2 := Hr.out
          rw [hke, List.take_length] at h2
          rw [szR_pos (by rw [costS_eq]; omega), costS_eq]; omega)
        have Hke := Lib.hid hke
        clear hke
        go_wp2
        go_ret
        exact ⟨by simp [Hf.out], hg⟩

def SzOk (n : Nd) : Prop := ∀ (v : Value) (left : Int) (w : World), 0 ≤ left → left ≤ 1048576 → NodeR w any n v →
    Calls Try.prog 26 #[v, .int .i64 left] w fun e w' => e = .returned (.int .i64 (szR (costN n) left)) ∧ Grow w w'

set_option maxHeartbeats 400000 in
theorem szNodeS_of (l : List Nd) (ih : ∀ k ∈ l, SzOk k) (a : Option Addr) (c : Nat) (left : Int) (w : World) (hn : NodesR w any a c l) (h0 : 0 ≤ left) (h1 : left ≤ 1048576) :
    Calls Try.prog 74 #[.slice a l.length c, .int .i64 left] w fun e w' => e = .returned (.int .i64 (szR (costL l) left)) ∧ Grow w w' := by
  have hbig : l.length ≤ 9223372036854775807 := hn.2.1
  have Hn := Lib.hid hn
  have Ih := Lib.hid ih
  clear hn ih
  by_cases hl : left < (l.length : Int)
  · have Hf := Lib.hid (szR_neg (c := costL l) (left := left) (by rw [costL_eq]; omega))
    go_enter Try.func74, Try.ntmps74
    go_wp2
    go_ret
    exact ⟨by rw [Hf.out]; simp, Ext.refl _ _⟩
  · go_enter Try.func74, Try.ntmps74
    go_wp2
    go_loopw [1, 5] (fun t i wr => Grow w wr ∧ ∃ (k : Nat) (r : Int), k ≤ l.length ∧ i = .int .i64 k ∧ t = .int .i64 r ∧ 0 ≤ r ∧ r ≤ 1048576 ∧ Hid (r = left - l.length - sumN (l.take k))) (fun _ i _ => l.length - (intOf i).toNat)
    case atStart => exact ⟨Ext.refl _ _, 0, _, Nat.zero_le _, rfl, rfl, by omega, by omega, Lib.hid (by simp [sumN])⟩
    case round =>
      obtain ⟨hg, k, r, hk, rfl, rfl, hr0, hr1, Hr⟩ := hrel
      have hst := sumN_take l k
      by_cases hlt : k < l.length
      · obtain ⟨_, _, hks⟩ := (Hn.out).ext hg (fun _ _ h => h)
        rcases hks with hks | ⟨bk, ok, rfl, _, hkr⟩
        · simp [hks] at hlt
        obtain ⟨na', nc', ka', kc', c0, c1, c2, c3, c4, hkc⟩ := hkr.get k hlt
        have Hkc : Hid (NodeR wr any l[k] (nodeV l[k] na' nc' ka' kc')) := Lib.hid ⟨_, _, _, _, rfl, hkc⟩
        have hst2 := sumN_take l (k + 1)
        rw [take_snoc' _ _ hlt, sumN_snoc] at hst2
        clear hkr hkc
        by_cases hneg : r < (costN l[k] : Int)
        · have Hf : Hid (szR (costL l) left = -1) := Lib.hid (szR_neg (by rw [costL_eq]; have := Hr.out; omega))
          have Hs := Lib.hid (szR_neg hneg)
          go_wp2_with (go_at_call 26; refine (Ih.out _ (List.getElem_mem hlt) _ _ _ hr0 hr1 Hkc.out).mono ?_; rintro e w2 ⟨rfl, hg2⟩; simp only [Hs.out])
          go_ret
          exact ⟨by simp [Hf.out], hg.trans hg2⟩
        · have Hs := Lib.hid (szR_pos (c := costN l[k]) (left := r) (by omega))
          go_wp2_with (go_at_call 26; refine (Ih.out _ (List.getElem_mem hlt) _ _ _ hr0 hr1 Hkc.out).mono ?_; rintro e w2 ⟨rfl, hg2⟩; simp only [Hs.out])
          go_roundw
          case rel => exact ⟨hg.trans hg2, k + 1, _, by omega, by go_num, rfl, by omega, by omega, Lib.hid (by rw [take_snoc' _ _ hlt, sumN_snoc, Hr.out]; omega)⟩
          case measure => simp [intOf]; omega
      · have hke : k = l.length := by omega
        have Hf : Hid (szR (costL l) left = r) := Lib.hid (by
          have h2 := Hr.out
          rw [hke, List.take_length] at h2
          rw [szR_pos (by rw [costL_eq]; omega), costL_eq]; omega)
        have Hke := Lib.hid hke
        clear hke
        go_wp2
        go_ret
        exact ⟨by simp [Hf.out], hg⟩

set_option maxHeartbeats 1000000 in
theorem szNode_ok : ∀ n, SzOk n := by
  refine Nd.ind' SzOk ?_
  intro n ih v left w h0 h1 hn
  obtain ⟨na, nc, ka, kc, rfl, hc⟩ := hn
  obtain ⟨htx, hns, hks⟩ := hc.parts
  have htx' : n.text.size ≤ 9223372036854775807 := htx
  have Hns := Lib.hid hns
  have Hks := Lib.hid hks
  have Ih := Lib.hid ih
  have hce := costN_eq n
  have Hce := Lib.hid hce
  clear hns hks hc htx ih hce
  unfold nodeV at *
  by_cases a1 : left < (n.text.size : Int)
  · have Hf := Lib.hid (szR_neg (c := costN n) (left := left) (by have := Hce.out; omega))
    go_enter Try.func26, Try.ntmps26
    go_wp2_with fail
    go_ret
    exact ⟨by simp [Hf.out], (by repeat (first | with_reducible exact Ext.refl _ _ | with_reducible refine Ext.trans ?_ (by assumption) | with_reducible refine Ext.drew ?_ | with_reducible refine Ext.drewN ?_ _ | with_reducible refine Ext.alloc ?_ _ | with_reducible refine Ext.setNew ?_ (by simp; done) _ | with_reducible refine Ext.setNew ?_ (by simp; omega) _))⟩
  by_cases a2 : left - n.text.size < (costS n.names : Int)
  · have Hf := Lib.hid (szR_neg (c := costN n) (left := left) (by have := Hce.out; omega))
    have Hs := Lib.hid (szR_neg a2)
    go_enter Try.func26, Try.ntmps26
    go_wp2_with (go_at_call 71; refine (szStringS_ok _ _ _ _ _ (Hns.out.grow (by repeat (first | with_reducible exact Ext.refl _ _ | with_reducible refine Ext.trans ?_ (by assumption) | with_reducible refine Ext.drew ?_ | with_reducible refine Ext.drewN ?_ _ | with_reducible refine Ext.alloc ?_ _ | with_reducible refine Ext.setNew ?_ (by simp; done) _ | with_reducible refine Ext.setNew ?_ (by simp; omega) _))) (by omega) (by omega)).mono ?_; rintro e w2 ⟨rfl, hg2⟩; simp only [Hs.out])
    go_ret
    exact ⟨by simp [Hf.out], (by repeat (first | with_reducible exact Ext.refl _ _ | with_reducible refine Ext.trans ?_ (by assumption) | with_reducible refine Ext.drew ?_ | with_reducible refine Ext.drewN ?_ _ | with_reducible refine Ext.alloc ?_ _ | with_reducible refine Ext.setNew ?_ (by simp; done) _ | with_reducible refine Ext.setNew ?_ (by simp; omega) _))⟩
  have Hs := Lib.hid (szR_pos (c := costS n.names) (left := left - n.text.size) (by omega))
  by_cases a3 : left - n.text.size - costS n.names < (costL n.kids : Int)
  · have Hf := Lib.hid (szR_neg (c := costN n) (left := left) (by have := Hce.out; omega))
    have Hs2 := Lib.hid (szR_neg a3)
    go_enter Try.func26, Try.ntmps26
    go_wp2_with (first | (go_at_call 71; refine (szStringS_ok _ _ _ _ _ (Hns.out.grow (by repeat (first | with_reducible exact Ext.refl _ _ | with_reducible refine Ext.trans ?_ (by assumption) | with_reducible refine Ext.drew ?_ | with_reducible refine Ext.drewN ?_ _ | with_reducible refine Ext.alloc ?_ _ | with_reducible refine Ext.setNew ?_ (by simp; done) _ | with_reducible refine Ext.setNew ?_ (by simp; omega) _))) (by omega) (by omega)).mono ?_; rintro e w2 ⟨rfl, hg2⟩; simp only [Hs.out]; have hcc := bcell hg2) | (go_at_call 74; refine (szNodeS_of _ Ih.out _ _ _ _ (Hks.out.grow (by repeat (first | with_reducible exact Ext.refl _ _ | with_reducible refine Ext.trans ?_ (by assumption) | with_reducible refine Ext.drew ?_ | with_reducible refine Ext.drewN ?_ _ | with_reducible refine Ext.alloc ?_ _ | with_reducible refine Ext.setNew ?_ (by simp; done) _ | with_reducible refine Ext.setNew ?_ (by simp; omega) _))) (by omega) (by omega)).mono ?_; rintro e w3 ⟨rfl, hg3⟩; simp only [Hs2.out]))
    go_ret
    exact ⟨by simp [Hf.out], (by repeat (first | with_reducible exact Ext.refl _ _ | with_reducible refine Ext.trans ?_ (by assumption) | with_reducible refine Ext.drew ?_ | with_reducible refine Ext.drewN ?_ _ | with_reducible refine Ext.alloc ?_ _ | with_reducible refine Ext.setNew ?_ (by simp; done) _ | with_reducible refine Ext.setNew ?_ (by simp; omega) _))⟩
  · have Hf := Lib.hid (szR_pos (c := costN n) (left := left) (by have := Hce.out; omega))
    have Hs2 := Lib.hid (szR_pos (c := costL n.kids) (left := left - n.text.size - costS n.names) (by omega))
    go_enter Try.func26, Try.ntmps26
    go_wp2_with (first | (go_at_call 71; refine (szStringS_ok _ _ _ _ _ (Hns.out.grow (by repeat (first | with_reducible exact Ext.refl _ _ | with_reducible refine Ext.trans ?_ (by assumption) | with_reducible refine Ext.drew ?_ | with_reducible refine Ext.drewN ?_ _ | with_reducible refine Ext.alloc ?_ _ | with_reducible refine Ext.setNew ?_ (by simp; done) _ | with_reducible refine Ext.setNew ?_ (by simp; omega) _))) (by omega) (by omega)).mono ?_; rintro e w2 ⟨rfl, hg2⟩; simp only [Hs.out]; have hcc := bcell hg2) | (go_at_call 74; refine (szNodeS_of _ Ih.out _ _ _ _ (Hks.out.grow (by repeat (first | with_reducible exact Ext.refl _ _ | with_reducible refine Ext.trans ?_ (by assumption) | with_reducible refine Ext.drew ?_ | with_reducible refine Ext.drewN ?_ _ | with_reducible refine Ext.alloc ?_ _ | with_reducible refine Ext.setNew ?_ (by simp; done) _ | with_reducible refine Ext.setNew ?_ (by simp; omega) _))) (by omega) (by omega)).mono ?_; rintro e w3 ⟨rfl, hg3⟩; simp only [Hs2.out]))
    go_ret
    exact ⟨by have h1 := Hf.out; have h2 := Hce.out; rw [h1]; simp; omega, (by repeat (first | with_reducible exact Ext.refl _ _ | with_reducible refine Ext.trans ?_ (by assumption) | with_reducible refine Ext.drew ?_ | with_reducible refine Ext.drewN ?_ _ | with_reducible refine Ext.alloc ?_ _ | with_reducible refine Ext.setNew ?_ (by simp; done) _ | with_reducible refine Ext.setNew ?_ (by simp; omega) _))⟩

end Go.Proofs.Ytchiakeceiefdaa
