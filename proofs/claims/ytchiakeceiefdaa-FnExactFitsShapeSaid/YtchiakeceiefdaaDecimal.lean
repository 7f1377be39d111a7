/-
  The walk of spec.decimal at one digit, and of spec.place.
-/
import Derived.Test.YtchiakeceiefdaaNameIn
import Derived.Laws.IdiomStrings
namespace Go.Proofs.Ytchiakeceiefdaa
open Go.RowKit

/-- A text of bytes. -/
def txt (l : List UInt8) : ByteArray := ⟨l.toArray⟩
/-- The digit of a number below ten. -/
def dig1 (k : Nat) : List UInt8 := [48 + k.toUInt8]

theorem dig_nat (k : Nat) (hk : k < 10) : (((48 + k.toUInt8 : UInt8)).toNat : Int) = 48 + (k : Int) := by
  have h1 : (48 + k.toUInt8 : UInt8).toNat = 48 + k := by
    rw [UInt8.toNat_add]
    have : (k.toUInt8).toNat = k := by simp; omega
    rw [this]
    show (48 + k) % 256 = _
    omega
  rw [h1]; simp

theorem conv1 (k : Nat) (hk : k < 10) (w : World) : (convert 22 9 (.slice (some ⟨w.heap.size, 0, none⟩) 1 1)).run Try.prog (w.alloc (.cells #[.int .u8 (48 + (k : Int))] 5)) =
    .ok (.string (txt (dig1 k))) (w.alloc (.cells #[.int .u8 (48 + (k : Int))] 5)) := by
  refine run_convert_bytes_back (P := Try.prog) _ 22 9 5 ⟨w.heap.size, 0, none⟩ 1 (dig1 k) Try.underlying22 Try.underlying5 Try.underlying9 ?_
  intro j hj
  simp only [dig1, List.length_cons, List.length_nil] at hj
  obtain rfl : j = 0 := by omega
  show (w.alloc _).cell? ⟨w.heap.size, 0 + 0, none⟩ = _
  rw [World.cell?_alloc_new]
  simp [dig1]; omega

set_option maxRecDepth 100000 in
set_option maxHeartbeats 1000000 in
theorem decimal_small (k : Nat) (w : World) (hk : k < 10) :
    Calls Try.prog 143 #[.int .i64 (k : Int)] w fun e w' => e = .returned (.string (txt (dig1 k))) ∧ Grow w w' := by
  have hcv := conv1 k hk w
  go_enter Try.func143, Try.ntmps143
  go_wp2_with fail
  go_ret
  exact ⟨rfl, (by repeat (first | with_reducible exact Ext.refl _ _ | with_reducible refine Ext.trans ?_ (by assumption) | with_reducible refine Ext.drew ?_ | with_reducible refine Ext.drewN ?_ _ | with_reducible refine Ext.alloc ?_ _ | with_reducible refine Ext.setNew ?_ (by simp; done) _ | with_reducible refine Ext.setNew ?_ (by simp; omega) _))⟩

/-- Whether the step leads to place i. -/
def hit (n : Nd) (s : ByteArray) (i : Nat) : Bool := if n.kind = 4 then decide (n.names[i]? = some s) else if n.kind = 3 then decide (txt (dig1 i) = s) else false
def placeFrom (n : Nd) (s : ByteArray) : Nat → Nat → Int
  | _, 0 => -1
  | i, m + 1 => if hit n s i then (i : Int) else placeFrom n s (i + 1) m
/-- The place of a step, -1 if there is none. -/
def placeOf (n : Nd) (s : ByteArray) : Int := placeFrom n s 0 n.kids.length

theorem placeFrom_step (n : Nd) (s : ByteArray) {k : Nat} (h : k < n.kids.length) : placeFrom n s k (n.kids.length - k) = if hit n s k then (k : Int) else placeFrom n s (k + 1) (n.kids.length - (k + 1)) := by
  obtain ⟨m, hm⟩ : ∃ m, n.kids.length - k = m + 1 := ⟨n.kids.length - k - 1, by omega⟩
  rw [hm, placeFrom, show n.kids.length - (k + 1) = m by omega]

set_option maxRecDepth 100000 in
set_option maxHeartbeats 4000000 in
theorem place_ok (n : Nd) (s : ByteArray) (v : Value) (w : World) (hm : n.kind = 4 → n.kids.length ≤ n.names.length) (h6 : n.kids.length ≤ 9) (hn : NodeR w any n v) :
    Calls Try.prog 114 #[v, .string s] w fun e w' => e = .returned (.int .i64 (placeOf n s)) ∧ Grow w w' := by
  obtain ⟨na, nc, ka, kc, rfl, hc⟩ := hn
  obtain ⟨htx, hns, hks⟩ := hc.parts
  have hnl : n.names.length ≤ 9223372036854775807 := hns.2.1
  have Hns := Lib.hid hns
  have HM := Lib.hid hm
  clear hc htx hns hks hm
  unfold nodeV
  go_enter Try.func114, Try.ntmps114
  go_wp2
  go_loopw [4, 5] (fun n4 i wr => n4 = .int .i64 0 ∧ Grow (w.alloc (.cells #[.int .i64 n.kind, .int .i64 n.num, .string n.text, .slice na n.names.length nc, .slice ka n.kids.length kc] 30)) wr ∧ ∃ k : Nat, k ≤ n.kids.length ∧ i = .int .i64 k ∧ placeOf n s = placeFrom n s k (n.kids.length - k)) (fun _ i _ => n.kids.length - (intOf i).toNat)
  case atStart => exact ⟨rfl, Ext.refl _ _, 0, Nat.zero_le _, rfl, rfl⟩
  case round =>
    obtain ⟨rfl, hg, k, hk, rfl, hr⟩ := hrel
    have Hr := Lib.hid hr
    clear hr
    have hcc := bcell hg
    have hg0 : Grow w wr := ((Ext.refl _ _).alloc _).trans hg
    by_cases hlt : k < n.kids.length
    · have Hst := Lib.hid (placeFrom_step n s hlt)
      have hh := Lib.hid (show hit n s k = if n.kind = 4 then decide (n.names[k]? = some s) else if n.kind = 3 then decide (txt (dig1 k) = s) else false from rfl)
      by_cases k4 : n.kind = 4
      · have hkn : k < n.names.length := by have := HM.out k4; omega
        rcases ((Hns.out).ext hg0 (fun _ _ h => h)).2.2.2 with hh0 | ⟨ba, oa, rfl, _, hca⟩
        · rw [hh0] at hkn; simp at hkn
        have cm := hca k hkn
        have b4 : (n.kind == 4) = true := by simp [k4]
        have hb := beq_toList n.names[k] s
        clear hca
        cases hd : decide (n.names[k] = s)
        · have Hh : Hid (hit n s k = false) := Lib.hid (by rw [hh.out, if_pos k4]; simpa [hkn] using hd)
          have b3 : (n.kind == 3) = false := by simp [k4]
          rw [hd] at hb
          clear hd k4
          go_wp2
          go_roundw
          case rel => exact ⟨rfl, hg, k + 1, by omega, by go_num, by rw [Hr.out, Hst.out, Hh.out]; rfl⟩
          case measure => simp [intOf]; omega
        · have Hh : Hid (hit n s k = true) := Lib.hid (by rw [hh.out, if_pos k4]; simpa [hkn] using hd)
          rw [hd] at hb
          clear hd k4
          go_wp2
          go_ret
          exact ⟨by rw [Hr.out, Hst.out, Hh.out]; rfl, hg0⟩
      · have b4 : (n.kind == 4) = false := by simp [k4]
        by_cases k3 : n.kind = 3
        · have b3 : (n.kind == 3) = true := by simp [k3]
          have hb := beq_toList (txt (dig1 k)) s
          cases hd : decide (txt (dig1 k) = s)
          · have Hh : Hid (hit n s k = false) := Lib.hid (by rw [hh.out, if_neg k4, if_pos k3, hd])
            rw [hd] at hb
            clear hd k4 k3
            go_wp2_with (go_at_call 143; refine (decimal_small k _ (by omega)).mono ?_; rintro e w2 ⟨rfl, hg2⟩)
            go_roundw
            case rel => exact ⟨rfl, hg.trans hg2, k + 1, by omega, by go_num, by rw [Hr.out, Hst.out, Hh.out]; rfl⟩
            case measure => simp [intOf]; omega
          · have Hh : Hid (hit n s k = true) := Lib.hid (by rw [hh.out, if_neg k4, if_pos k3, hd])
            rw [hd] at hb
            clear hd k4 k3
            go_wp2_with (go_at_call 143; refine (decimal_small k _ (by omega)).mono ?_; rintro e w2 ⟨rfl, hg2⟩)
            go_ret
            exact ⟨by rw [Hr.out, Hst.out, Hh.out]; rfl, hg0.trans hg2⟩
        · have b3 : (n.kind == 3) = false := by simp [k3]
          have Hh : Hid (hit n s k = false) := Lib.hid (by rw [hh.out, if_neg k4, if_neg k3])
          clear k4 k3
          go_wp2
          go_roundw
          case rel => exact ⟨rfl, hg, k + 1, by omega, by go_num, by rw [Hr.out, Hst.out, Hh.out]; rfl⟩
          case measure => simp [intOf]; omega
    · go_wp2
      go_ret
      exact ⟨by rw [Hr.out, show n.kids.length - k = 0 by omega]; rfl, hg0⟩

end Go.Proofs.Ytchiakeceiefdaa
