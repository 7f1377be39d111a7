/-
  The walks of the laws' sizes of operations and requests. (Printed by gensz.py.)
-/
import Derived.Test.YtchiakeceiefdaaReqs
import Derived.Test.YtchiakeceiefdaaLawEq
namespace Go.Proofs.Ytchiakeceiefdaa
open Go.RowKit

def costO (o : Opn) : Nat := costS o.path + costS o.frm + costN o.val
theorem costO_eq (o : Opn) : costO o = costS o.path + costS o.frm + costN o.val := rfl
def sumO (l : List Opn) : Nat := (l.map costO).sum
def costOs (l : List Opn) : Nat := l.length + sumO l
theorem costOs_eq (l : List Opn) : costOs l = l.length + sumO l := rfl
theorem sumO_snoc (xs : List Opn) (x : Opn) : sumO (xs ++ [x]) = sumO xs + costO x := by simp [sumO]
theorem sumO_take (xs : List Opn) (k : Nat) : sumO (xs.take k) ≤ sumO xs := by
  unfold sumO; rw [List.map_take]; exact sum_take_le _ _
def costR (q : Reqn) : Nat := q.name.size + costS q.want + costS q.avoid + costN q.body + costOs q.ops
theorem costR_eq (q : Reqn) : costR q = q.name.size + costS q.want + costS q.avoid + costN q.body + costOs q.ops := rfl

set_option maxHeartbeats 2000000 in
theorem szOp_ok (o : Opn) (v : Value) (left : Int) (w : World) (h0 : 0 ≤ left) (h1 : left ≤ 1048576) (hn : OpR w any o v) :
    Calls Try.prog 43 #[v, .int .i64 left] w fun e w' => e = .returned (.int .i64 (szR (costO o) left)) ∧ Grow w w' := by
  obtain ⟨pa, pc, fa, fc, na, nc, ka, kc, rfl, hp, hf, hc⟩ := hn
  have Hp := Lib.hid hp
  have Hf' := Lib.hid hf
  have Hc := Lib.hid hc
  clear hp hf hc
  unfold opV at *
  have Hce := Lib.hid (costO_eq o)
  by_cases a0 : left < ((costS o.path : Nat) : Int)
  · have Hf := Lib.hid (szR_neg (c := costO o) (left := left) (by have := Hce.out; omega))
    have S0 := Lib.hid (szR_neg a0)
    go_enter Try.func43, Try.ntmps43
    go_wp2_with (first | (go_at_call 71; with_reducible refine (szStringS_ok pa pc o.path _ _ ?_ ?_ ?_).mono ?_; exact (Hp.out.grow (by repeat (first | with_reducible exact Ext.refl _ _ | with_reducible refine Ext.trans ?_ (by assumption) | with_reducible refine Ext.drew ?_ | with_reducible refine Ext.drewN ?_ _ | with_reducible refine Ext.alloc ?_ _ | with_reducible refine Ext.setNew ?_ (by simp; done) _ | with_reducible refine Ext.setNew ?_ (by simp; omega) _))); omega; omega; rintro e w2 ⟨rfl, hg2⟩; simp only [S0.out]))
    go_ret
    exact ⟨by simp [Hf.out], (by repeat (first | with_reducible exact Ext.refl _ _ | with_reducible refine Ext.trans ?_ (by assumption) | with_reducible refine Ext.drew ?_ | with_reducible refine Ext.drewN ?_ _ | with_reducible refine Ext.alloc ?_ _ | with_reducible refine Ext.setNew ?_ (by simp; done) _ | with_reducible refine Ext.setNew ?_ (by simp; omega) _))⟩
  have S0 := Lib.hid (szR_pos (c := costS o.path) (left := left) (by omega))
  by_cases a1 : left - ((costS o.path : Nat) : Int) < ((costS o.frm : Nat) : Int)
  · have Hf := Lib.hid (szR_neg (c := costO o) (left := left) (by have := Hce.out; omega))
    have S1 := Lib.hid (szR_neg a1)
    go_enter Try.func43, Try.ntmps43
    go_wp2_with (first | (go_at_call 71; with_reducible refine (szStringS_ok pa pc o.path _ _ ?_ ?_ ?_).mono ?_; exact (Hp.out.grow (by repeat (first | with_reducible exact Ext.refl _ _ | with_reducible refine Ext.trans ?_ (by assumption) | with_reducible refine Ext.drew ?_ | with_reducible refine Ext.drewN ?_ _ | with_reducible refine Ext.alloc ?_ _ | with_reducible refine Ext.setNew ?_ (by simp; done) _ | with_reducible refine Ext.setNew ?_ (by simp; omega) _))); omega; omega; rintro e w2 ⟨rfl, hg2⟩; simp only [S0.out]; have hcc0 := bcell (hg2)) | (go_at_call 71; with_reducible refine (szStringS_ok fa fc o.frm _ _ ?_ ?_ ?_).mono ?_; exact (Hf'.out.grow (by repeat (first | with_reducible exact Ext.refl _ _ | with_reducible refine Ext.trans ?_ (by assumption) | with_reducible refine Ext.drew ?_ | with_reducible refine Ext.drewN ?_ _ | with_reducible refine Ext.alloc ?_ _ | with_reducible refine Ext.setNew ?_ (by simp; done) _ | with_reducible refine Ext.setNew ?_ (by simp; omega) _))); omega; omega; rintro e w3 ⟨rfl, hg3⟩; simp only [S1.out]))
    go_ret
    exact ⟨by simp [Hf.out], (by repeat (first | with_reducible exact Ext.refl _ _ | with_reducible refine Ext.trans ?_ (by assumption) | with_reducible refine Ext.drew ?_ | with_reducible refine Ext.drewN ?_ _ | with_reducible refine Ext.alloc ?_ _ | with_reducible refine Ext.setNew ?_ (by simp; done) _ | with_reducible refine Ext.setNew ?_ (by simp; omega) _))⟩
  have S1 := Lib.hid (szR_pos (c := costS o.frm) (left := left - ((costS o.path : Nat) : Int)) (by omega))
  by_cases a2 : left - ((costS o.path : Nat) : Int) - ((costS o.frm : Nat) : Int) < ((costN o.val : Nat) : Int)
  · have Hf := Lib.hid (szR_neg (c := costO o) (left := left) (by have := Hce.out; omega))
    have S2 := Lib.hid (szR_neg a2)
    go_enter Try.func43, Try.ntmps43
    go_wp2_with (first | (go_at_call 71; with_reducible refine (szStringS_ok pa pc o.path _ _ ?_ ?_ ?_).mono ?_; exact (Hp.out.grow (by repeat (first | with_reducible exact Ext.refl _ _ | with_reducible refine Ext.trans ?_ (by assumption) | with_reducible refine Ext.drew ?_ | with_reducible refine Ext.drewN ?_ _ | with_reducible refine Ext.alloc ?_ _ | with_reducible refine Ext.setNew ?_ (by simp; done) _ | with_reducible refine Ext.setNew ?_ (by simp; omega) _))); omega; omega; rintro e w2 ⟨rfl, hg2⟩; simp only [S0.out]; have hcc0 := bcell (hg2)) | (go_at_call 71; with_reducible refine (szStringS_ok fa fc o.frm _ _ ?_ ?_ ?_).mono ?_; exact (Hf'.out.grow (by repeat (first | with_reducible exact Ext.refl _ _ | with_reducible refine Ext.trans ?_ (by assumption) | with_reducible refine Ext.drew ?_ | with_reducible refine Ext.drewN ?_ _ | with_reducible refine Ext.alloc ?_ _ | with_reducible refine Ext.setNew ?_ (by simp; done) _ | with_reducible refine Ext.setNew ?_ (by simp; omega) _))); omega; omega; rintro e w3 ⟨rfl, hg3⟩; simp only [S1.out]; have hcc1 := bcell ((hg2.trans hg3))) | (go_at_call 26; refine (szNode_ok o.val (nodeV o.val na nc ka kc) _ _ (by omega) (by omega) ⟨na, nc, ka, kc, rfl, Hc.out.ext (w' := _) (X := nil) (by repeat (first | with_reducible exact Ext.refl _ _ | with_reducible refine Ext.trans ?_ (by assumption) | with_reducible refine Ext.drew ?_ | with_reducible refine Ext.drewN ?_ _ | with_reducible refine Ext.alloc ?_ _ | with_reducible refine Ext.setNew ?_ (by simp; done) _ | with_reducible refine Ext.setNew ?_ (by simp; omega) _)) (fun _ _ h => h)⟩).mono ?_; rintro e w4 ⟨rfl, hg4⟩; simp only [S2.out]))
    go_ret
    exact ⟨by simp [Hf.out], (by repeat (first | with_reducible exact Ext.refl _ _ | with_reducible refine Ext.trans ?_ (by assumption) | with_reducible refine Ext.drew ?_ | with_reducible refine Ext.drewN ?_ _ | with_reducible refine Ext.alloc ?_ _ | with_reducible refine Ext.setNew ?_ (by simp; done) _ | with_reducible refine Ext.setNew ?_ (by simp; omega) _))⟩
  have S2 := Lib.hid (szR_pos (c := costN o.val) (left := left - ((costS o.path : Nat) : Int) - ((costS o.frm : Nat) : Int)) (by omega))
  have Hf := Lib.hid (szR_pos (c := costO o) (left := left) (by have := Hce.out; omega))
  go_enter Try.func43, Try.ntmps43
  go_wp2_with (first | (go_at_call 71; with_reducible refine (szStringS_ok pa pc o.path _ _ ?_ ?_ ?_).mono ?_; exact (Hp.out.grow (by repeat (first | with_reducible exact Ext.refl _ _ | with_reducible refine Ext.trans ?_ (by assumption) | with_reducible refine Ext.drew ?_ | with_reducible refine Ext.drewN ?_ _ | with_reducible refine Ext.alloc ?_ _ | with_reducible refine Ext.setNew ?_ (by simp; done) _ | with_reducible refine Ext.setNew ?_ (by simp; omega) _))); omega; omega; rintro e w2 ⟨rfl, hg2⟩; simp only [S0.out]; have hcc0 := bcell (hg2)) | (go_at_call 71; with_reducible refine (szStringS_ok fa fc o.frm _ _ ?_ ?_ ?_).mono ?_; exact (Hf'.out.grow (by repeat (first | with_reducible exact Ext.refl _ _ | with_reducible refine Ext.trans ?_ (by assumption) | with_reducible refine Ext.drew ?_ | with_reducible refine Ext.drewN ?_ _ | with_reducible refine Ext.alloc ?_ _ | with_reducible refine Ext.setNew ?_ (by simp; done) _ | with_reducible refine Ext.setNew ?_ (by simp; omega) _))); omega; omega; rintro e w3 ⟨rfl, hg3⟩; simp only [S1.out]; have hcc1 := bcell ((hg2.trans hg3))) | (go_at_call 26; refine (szNode_ok o.val (nodeV o.val na nc ka kc) _ _ (by omega) (by omega) ⟨na, nc, ka, kc, rfl, Hc.out.ext (w' := _) (X := nil) (by repeat (first | with_reducible exact Ext.refl _ _ | with_reducible refine Ext.trans ?_ (by assumption) | with_reducible refine Ext.drew ?_ | with_reducible refine Ext.drewN ?_ _ | with_reducible refine Ext.alloc ?_ _ | with_reducible refine Ext.setNew ?_ (by simp; done) _ | with_reducible refine Ext.setNew ?_ (by simp; omega) _)) (fun _ _ h => h)⟩).mono ?_; rintro e w4 ⟨rfl, hg4⟩; simp only [S2.out]; have hcc2 := bcell (((hg2.trans hg3).trans hg4))))
  go_ret
  exact ⟨by have h1 := Hf.out; have h2 := Hce.out; rw [h1]; simp; omega, (by repeat (first | with_reducible exact Ext.refl _ _ | with_reducible refine Ext.trans ?_ (by assumption) | with_reducible refine Ext.drew ?_ | with_reducible refine Ext.drewN ?_ _ | with_reducible refine Ext.alloc ?_ _ | with_reducible refine Ext.setNew ?_ (by simp; done) _ | with_reducible refine Ext.setNew ?_ (by simp; omega) _))⟩

set_option maxHeartbeats 1000000 in
theorem szOpS_ok (a : Option Addr) (c : Nat) (l : List Opn) (left : Int) (w : World) (hn : OpsR w any a c l) (h0 : 0 ≤ left) (h1 : left ≤ 1048576) :
    Calls Try.prog 82 #[.slice a l.length c, .int .i64 left] w fun e w' => e = .returned (.int .i64 (szR (costOs l) left)) ∧ Grow w w' := by
  have hbig : l.length ≤ 9223372036854775807 := hn.2.1
  have Hn := Lib.hid hn
  clear hn
  by_cases hl : left < (l.length : Int)
  · have Hf := Lib.hid (szR_neg (c := costOs l) (left := left) (by rw [costOs_eq]; omega))
    go_enter Try.func82, Try.ntmps82
    go_wp2
    go_ret
    exact ⟨by rw [Hf.out]; simp, Ext.refl _ _⟩
  · go_enter Try.func82, Try.ntmps82
    go_wp2
    go_loopw [1, 5] (fun t i wr => Grow w wr ∧ ∃ (k : Nat) (r : Int), k ≤ l.length ∧ i = .int .i64 k ∧ t = .int .i64 r ∧ 0 ≤ r ∧ r ≤ 1048576 ∧ Hid (r = left - l.length - sumO (l.take k))) (fun _ i _ => l.length - (intOf i).toNat)
    case atStart => exact ⟨Ext.refl _ _, 0, _, Nat.zero_le _, rfl, rfl, by omega, by omega, Lib.hid (by simp [sumO])⟩
    case round =>
      obtain ⟨hg, k, r, hk, rfl, rfl, hr0, hr1, Hr⟩ := hrel
      have hst := sumO_take l k
      by_cases hlt : k < l.length
      · obtain ⟨_, _, hks⟩ := (Hn.out).ext hg (fun _ _ h => h)
        rcases hks with hks | ⟨bk, ok, rfl, _, hkr⟩
        · simp [hks] at hlt
        obtain ⟨pa, pc, fa, fc, na, nc, ka, kc, c0, c1, c2, c3, c4, c5, c6, c7, hkc⟩ := hkr k hlt
        have Hkc : Hid (OpR wr any l[k] (opV l[k] pa pc fa fc na nc ka kc)) := Lib.hid ⟨pa, pc, fa, fc, na, nc, ka, kc, rfl, hkc⟩
        have hst2 := sumO_take l (k + 1)
        rw [take_snoc' _ _ hlt, sumO_snoc] at hst2
        clear hkr hkc
        by_cases hneg : r < (costO l[k] : Int)
        · have Hf : Hid (szR (costOs l) left = -1) := Lib.hid (szR_neg (by rw [costOs_eq]; have := Hr.out; omega))
          have Hs := Lib.hid (szR_neg hneg)
          go_wp2_with (go_at_call 43; refine (szOp_ok l[k] _ _ _ hr0 hr1 Hkc.out).mono ?_; rintro e w2 ⟨rfl, hg2⟩; simp only [Hs.out])
          go_ret
          exact ⟨by simp [Hf.out], hg.trans hg2⟩
        · have Hs := Lib.hid (szR_pos (c := costO l[k]) (left := r) (by omega))
          go_wp2_with (go_at_call 43; refine (szOp_ok l[k] _ _ _ hr0 hr1 Hkc.out).mono ?_; rintro e w2 ⟨rfl, hg2⟩; simp only [Hs.out])
          go_roundw
          case rel => exact ⟨hg.trans hg2, k + 1, _, by omega, by go_num, rfl, by omega, by omega, Lib.hid (by rw [take_snoc' _ _ hlt, sumO_snoc, Hr.out]; omega)⟩
          case measure => simp [intOf]; omega
      · have hke : k = l.length := by omega
        have Hf : Hid (szR (costOs l) left = r) := Lib.hid (by
          have h2 := Hr.out
          rw [hke, List.take_length] at h2
          rw [szR_pos (by rw [costOs_eq]; omega), costOs_eq]; omega)
        have Hke := Lib.hid hke
        clear hke
        go_wp2
        go_ret
        exact ⟨by simp [Hf.out], hg⟩

set_option maxHeartbeats 2000000 in
theorem szRequest_ok (q : Reqn) (v : Value) (left : Int) (w : World) (h0 : 0 ≤ left) (h1 : left ≤ 1048576) (hn : ReqR w any q v) :
    Calls Try.prog 31 #[v, .int .i64 left] w fun e w' => e = .returned (.int .i64 (szR (costR q) left)) ∧ Grow w w' := by
  obtain ⟨wa, wc, va, vc, na, nc, ka, kc, oa, oc, rfl, hz, hw, hv, hb, ho⟩ := hn
  have hz' : q.name.size ≤ 9223372036854775807 := hz
  have Hw := Lib.hid hw
  have Hv := Lib.hid hv
  have Hb := Lib.hid hb
  have Ho := Lib.hid ho
  clear hz hw hv hb ho
  unfold reqCells at *
  have Hce := Lib.hid (costR_eq q)
  by_cases a0 : left < ((q.name.size : Nat) : Int)
  · have Hf := Lib.hid (szR_neg (c := costR q) (left := left) (by have := Hce.out; omega))
    go_enter Try.func31, Try.ntmps31
    go_wp2_with fail
    go_ret
    exact ⟨by simp [Hf.out], (by repeat (first | with_reducible exact Ext.refl _ _ | with_reducible refine Ext.trans ?_ (by assumption) | with_reducible refine Ext.drew ?_ | with_reducible refine Ext.drewN ?_ _ | with_reducible refine Ext.alloc ?_ _ | with_reducible refine Ext.setNew ?_ (by simp; done) _ | with_reducible refine Ext.setNew ?_ (by simp; omega) _))⟩
  by_cases a1 : left - ((q.name.size : Nat) : Int) < ((costS q.want : Nat) : Int)
  · have Hf := Lib.hid (szR_neg (c := costR q) (left := left) (by have := Hce.out; omega))
    have S1 := Lib.hid (szR_neg a1)
    go_enter Try.func31, Try.ntmps31
    go_wp2_with (first | (go_at_call 71; with_reducible refine (szStringS_ok wa wc q.want _ _ ?_ ?_ ?_).mono ?_; exact (Hw.out.grow (by repeat (first | with_reducible exact Ext.refl _ _ | with_reducible refine Ext.trans ?_ (by assumption) | with_reducible refine Ext.drew ?_ | with_reducible refine Ext.drewN ?_ _ | with_reducible refine Ext.alloc ?_ _ | with_reducible refine Ext.setNew ?_ (by simp; done) _ | with_reducible refine Ext.setNew ?_ (by simp; omega) _))); omega; omega; rintro e w3 ⟨rfl, hg3⟩; simp only [S1.out]))
    go_ret
    exact ⟨by simp [Hf.out], (by repeat (first | with_reducible exact Ext.refl _ _ | with_reducible refine Ext.trans ?_ (by assumption) | with_reducible refine Ext.drew ?_ | with_reducible refine Ext.drewN ?_ _ | with_reducible refine Ext.alloc ?_ _ | with_reducible refine Ext.setNew ?_ (by simp; done) _ | with_reducible refine Ext.setNew ?_ (by simp; omega) _))⟩
  have S1 := Lib.hid (szR_pos (c := costS q.want) (left := left - ((q.name.size : Nat) : Int)) (by omega))
  by_cases a2 : left - ((q.name.size : Nat) : Int) - ((costS q.want : Nat) : Int) < ((costS q.avoid : Nat) : Int)
  · have Hf := Lib.hid (szR_neg (c := costR q) (left := left) (by have := Hce.out; omega))
    have S2 := Lib.hid (szR_neg a2)
    go_enter Try.func31, Try.ntmps31
    go_wp2_with (first | (go_at_call 71; with_reducible refine (szStringS_ok wa wc q.want _ _ ?_ ?_ ?_).mono ?_; exact (Hw.out.grow (by repeat (first | with_reducible exact Ext.refl _ _ | with_reducible refine Ext.trans ?_ (by assumption) | with_reducible refine Ext.drew ?_ | with_reducible refine Ext.drewN ?_ _ | with_reducible refine Ext.alloc ?_ _ | with_reducible refine Ext.setNew ?_ (by simp; done) _ | with_reducible refine Ext.setNew ?_ (by simp; omega) _))); omega; omega; rintro e w3 ⟨rfl, hg3⟩; simp only [S1.out]; have hcc1 := bcell (hg3)) | (go_at_call 71; with_reducible refine (szStringS_ok va vc q.avoid _ _ ?_ ?_ ?_).mono ?_; exact (Hv.out.grow (by repeat (first | with_reducible exact Ext.refl _ _ | with_reducible refine Ext.trans ?_ (by assumption) | with_reducible refine Ext.drew ?_ | with_reducible refine Ext.drewN ?_ _ | with_reducible refine Ext.alloc ?_ _ | with_reducible refine Ext.setNew ?_ (by simp; done) _ | with_reducible refine Ext.setNew ?_ (by simp; omega) _))); omega; omega; rintro e w4 ⟨rfl, hg4⟩; simp only [S2.out]))
    go_ret
    exact ⟨by simp [Hf.out], (by repeat (first | with_reducible exact Ext.refl _ _ | with_reducible refine Ext.trans ?_ (by assumption) | with_reducible refine Ext.drew ?_ | with_reducible refine Ext.drewN ?_ _ | with_reducible refine Ext.alloc ?_ _ | with_reducible refine Ext.setNew ?_ (by simp; done) _ | with_reducible refine Ext.setNew ?_ (by simp; omega) _))⟩
  have S2 := Lib.hid (szR_pos (c := costS q.avoid) (left := left - ((q.name.size : Nat) : Int) - ((costS q.want : Nat) : Int)) (by omega))
  by_cases a3 : left - ((q.name.size : Nat) : Int) - ((costS q.want : Nat) : Int) - ((costS q.avoid : Nat) : Int) < ((costN q.body : Nat) : Int)
  · have Hf := Lib.hid (szR_neg (c := costR q) (left := left) (by have := Hce.out; omega))
    have S3 := Lib.hid (szR_neg a3)
    go_enter Try.func31, Try.ntmps31
    go_wp2_with (first | (go_at_call 71; with_reducible refine (szStringS_ok wa wc q.want _ _ ?_ ?_ ?_).mono ?_; exact (Hw.out.grow (by repeat (first | with_reducible exact Ext.refl _ _ | with_reducible refine Ext.trans ?_ (by assumption) | with_reducible refine Ext.drew ?_ | with_reducible refine Ext.drewN ?_ _ | with_reducible refine Ext.alloc ?_ _ | with_reducible refine Ext.setNew ?_ (by simp; done) _ | with_reducible refine Ext.setNew ?_ (by simp; omega) _))); omega; omega; rintro e w3 ⟨rfl, hg3⟩; simp only [S1.out]; have hcc1 := bcell (hg3)) | (go_at_call 71; with_reducible refine (szStringS_ok va vc q.avoid _ _ ?_ ?_ ?_).mono ?_; exact (Hv.out.grow (by repeat (first | with_reducible exact Ext.refl _ _ | with_reducible refine Ext.trans ?_ (by assumption) | with_reducible refine Ext.drew ?_ | with_reducible refine Ext.drewN ?_ _ | with_reducible refine Ext.alloc ?_ _ | with_reducible refine Ext.setNew ?_ (by simp; done) _ | with_reducible refine Ext.setNew ?_ (by simp; omega) _))); omega; omega; rintro e w4 ⟨rfl, hg4⟩; simp only [S2.out]; have hcc2 := bcell ((hg3.trans hg4))) | (go_at_call 26; refine (szNode_ok q.body (nodeV q.body na nc ka kc) _ _ (by omega) (by omega) ⟨na, nc, ka, kc, rfl, Hb.out.ext (w' := _) (X := nil) (by repeat (first | with_reducible exact Ext.refl _ _ | with_reducible refine Ext.trans ?_ (by assumption) | with_reducible refine Ext.drew ?_ | with_reducible refine Ext.drewN ?_ _ | with_reducible refine Ext.alloc ?_ _ | with_reducible refine Ext.setNew ?_ (by simp; done) _ | with_reducible refine Ext.setNew ?_ (by simp; omega) _)) (fun _ _ h => h)⟩).mono ?_; rintro e w5 ⟨rfl, hg5⟩; simp only [S3.out]))
    go_ret
    exact ⟨by simp [Hf.out], (by repeat (first | with_reducible exact Ext.refl _ _ | with_reducible refine Ext.trans ?_ (by assumption) | with_reducible refine Ext.drew ?_ | with_reducible refine Ext.drewN ?_ _ | with_reducible refine Ext.alloc ?_ _ | with_reducible refine Ext.setNew ?_ (by simp; done) _ | with_reducible refine Ext.setNew ?_ (by simp; omega) _))⟩
  have S3 := Lib.hid (szR_pos (c := costN q.body) (left := left - ((q.name.size : Nat) : Int) - ((costS q.want : Nat) : Int) - ((costS q.avoid : Nat) : Int)) (by omega))
  by_cases a4 : left - ((q.name.size : Nat) : Int) - ((costS q.want : Nat) : Int) - ((costS q.avoid : Nat) : Int) - ((costN q.body : Nat) : Int) < ((costOs q.ops : Nat) : Int)
  · have Hf := Lib.hid (szR_neg (c := costR q) (left := left) (by have := Hce.out; omega))
    have S4 := Lib.hid (szR_neg a4)
    go_enter Try.func31, Try.ntmps31
    go_wp2_with (first | (go_at_call 71; with_reducible refine (szStringS_ok wa wc q.want _ _ ?_ ?_ ?_).mono ?_; exact (Hw.out.grow (by repeat (first | with_reducible exact Ext.refl _ _ | with_reducible refine Ext.trans ?_ (by assumption) | with_reducible refine Ext.drew ?_ | with_reducible refine Ext.drewN ?_ _ | with_reducible refine Ext.alloc ?_ _ | with_reducible refine Ext.setNew ?_ (by simp; done) _ | with_reducible refine Ext.setNew ?_ (by simp; omega) _))); omega; omega; rintro e w3 ⟨rfl, hg3⟩; simp only [S1.out]; have hcc1 := bcell (hg3)) | (go_at_call 71; with_reducible refine (szStringS_ok va vc q.avoid _ _ ?_ ?_ ?_).mono ?_; exact (Hv.out.grow (by repeat (first | with_reducible exact Ext.refl _ _ | with_reducible refine Ext.trans ?_ (by assumption) | with_reducible refine Ext.drew ?_ | with_reducible refine Ext.drewN ?_ _ | with_reducible refine Ext.alloc ?_ _ | with_reducible refine Ext.setNew ?_ (by simp; done) _ | with_reducible refine Ext.setNew ?_ (by simp; omega) _))); omega; omega; rintro e w4 ⟨rfl, hg4⟩; simp only [S2.out]; have hcc2 := bcell ((hg3.trans hg4))) | (go_at_call 26; refine (szNode_ok q.body (nodeV q.body na nc ka kc) _ _ (by omega) (by omega) ⟨na, nc, ka, kc, rfl, Hb.out.ext (w' := _) (X := nil) (by repeat (first | with_reducible exact Ext.refl _ _ | with_reducible refine Ext.trans ?_ (by assumption) | with_reducible refine Ext.drew ?_ | with_reducible refine Ext.drewN ?_ _ | with_reducible refine Ext.alloc ?_ _ | with_reducible refine Ext.setNew ?_ (by simp; done) _ | with_reducible refine Ext.setNew ?_ (by simp; omega) _)) (fun _ _ h => h)⟩).mono ?_; rintro e w5 ⟨rfl, hg5⟩; simp only [S3.out]; have hcc3 := bcell (((hg3.trans hg4).trans hg5))) | (go_at_call 82; refine (szOpS_ok oa oc q.ops _ _ (Ho.out.grow (by repeat (first | with_reducible exact Ext.refl _ _ | with_reducible refine Ext.trans ?_ (by assumption) | with_reducible refine Ext.drew ?_ | with_reducible refine Ext.drewN ?_ _ | with_reducible refine Ext.alloc ?_ _ | with_reducible refine Ext.setNew ?_ (by simp; done) _ | with_reducible refine Ext.setNew ?_ (by simp; omega) _))) (by omega) (by omega)).mono ?_; rintro e w6 ⟨rfl, hg6⟩; simp only [S4.out]))
    go_ret
    exact ⟨by simp [Hf.out], (by repeat (first | with_reducible exact Ext.refl _ _ | with_reducible refine Ext.trans ?_ (by assumption) | with_reducible refine Ext.drew ?_ | with_reducible refine Ext.drewN ?_ _ | with_reducible refine Ext.alloc ?_ _ | with_reducible refine Ext.setNew ?_ (by simp; done) _ | with_reducible refine Ext.setNew ?_ (by simp; omega) _))⟩
  have S4 := Lib.hid (szR_pos (c := costOs q.ops) (left := left - ((q.name.size : Nat) : Int) - ((costS q.want : Nat) : Int) - ((costS q.avoid : Nat) : Int) - ((costN q.body : Nat) : Int)) (by omega))
  have Hf := Lib.hid (szR_pos (c := costR q) (left := left) (by have := Hce.out; omega))
  go_enter Try.func31, Try.ntmps31
  go_wp2_with (first | (go_at_call 71; with_reducible refine (szStringS_ok wa wc q.want _ _ ?_ ?_ ?_).mono ?_; exact (Hw.out.grow (by repeat (first | with_reducible exact Ext.refl _ _ | with_reducible refine Ext.trans ?_ (by assumption) | with_reducible refine Ext.drew ?_ | with_reducible refine Ext.drewN ?_ _ | with_reducible refine Ext.alloc ?_ _ | with_reducible refine Ext.setNew ?_ (by simp; done) _ | with_reducible refine Ext.setNew ?_ (by simp; omega) _))); omega; omega; rintro e w3 ⟨rfl, hg3⟩; simp only [S1.out]; have hcc1 := bcell (hg3)) | (go_at_call 71; with_reducible refine (szStringS_ok va vc q.avoid _ _ ?_ ?_ ?_).mono ?_; exact (Hv.out.grow (by repeat (first | with_reducible exact Ext.refl _ _ | with_reducible refine Ext.trans ?_ (by assumption) | with_reducible refine Ext.drew ?_ | with_reducible refine Ext.drewN ?_ _ | with_reducible refine Ext.alloc ?_ _ | with_reducible refine Ext.setNew ?_ (by simp; done) _ | with_reducible refine Ext.setNew ?_ (by simp; omega) _))); omega; omega; rintro e w4 ⟨rfl, hg4⟩; simp only [S2.out]; have hcc2 := bcell ((hg3.trans hg4))) | (go_at_call 26; refine (szNode_ok q.body (nodeV q.body na nc ka kc) _ _ (by omega) (by omega) ⟨na, nc, ka, kc, rfl, Hb.out.ext (w' := _) (X := nil) (by repeat (first | with_reducible exact Ext.refl _ _ | with_reducible refine Ext.trans ?_ (by assumption) | with_reducible refine Ext.drew ?_ | with_reducible refine Ext.drewN ?_ _ | with_reducible refine Ext.alloc ?_ _ | with_reducible refine Ext.setNew ?_ (by simp; done) _ | with_reducible refine Ext.setNew ?_ (by simp; omega) _)) (fun _ _ h => h)⟩).mono ?_; rintro e w5 ⟨rfl, hg5⟩; simp only [S3.out]; have hcc3 := bcell (((hg3.trans hg4).trans hg5))) | (go_at_call 82; refine (szOpS_ok oa oc q.ops _ _ (Ho.out.grow (by repeat (first | with_reducible exact Ext.refl _ _ | with_reducible refine Ext.trans ?_ (by assumption) | with_reducible refine Ext.drew ?_ | with_reducible refine Ext.drewN ?_ _ | with_reducible refine Ext.alloc ?_ _ | with_reducible refine Ext.setNew ?_ (by simp; done) _ | with_reducible refine Ext.setNew ?_ (by simp; omega) _))) (by omega) (by omega)).mono ?_; rintro e w6 ⟨rfl, hg6⟩; simp only [S4.out]; have hcc4 := bcell ((((hg3.trans hg4).trans hg5).trans hg6))))
  go_ret
  exact ⟨by have h1 := Hf.out; have h2 := Hce.out; rw [h1]; simp; omega, (by repeat (first | with_reducible exact Ext.refl _ _ | with_reducible refine Ext.trans ?_ (by assumption) | with_reducible refine Ext.drew ?_ | with_reducible refine Ext.drewN ?_ _ | with_reducible refine Ext.alloc ?_ _ | with_reducible refine Ext.setNew ?_ (by simp; done) _ | with_reducible refine Ext.setNew ?_ (by simp; omega) _))⟩

end Go.Proofs.Ytchiakeceiefdaa
