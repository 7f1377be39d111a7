/-
  The walks of the laws' helpers on shapes: sizes, copies, comparisons of a shape with itself.
-/
import Derived.Test.YtchiakeceiefdaaShapeOwn
import Derived.Test.YtchiakeceiefdaaLawEq
namespace Go.Proofs.Ytchiakeceiefdaa
open Go.RowKit

mutual
def costP : Shp → Nat
  | ⟨_, names, needs, kids⟩ => costS names + needs.length + costPL kids
def costPL : List Shp → Nat
  | [] => 0
  | k :: ks => 1 + costP k + costPL ks
end
theorem costP_eq (n : Shp) : costP n = costS n.names + n.needs.length + costPL n.kids := by cases n; simp [costP]
theorem costPL_len (l : List Shp) : l.length ≤ costPL l := by
  induction l with
  | nil => simp
  | cons a l ih => simp [costPL]; omega
theorem costPL_get (l : List Shp) (k : Nat) (h : k < l.length) : costP l[k] ≤ costPL l := by
  induction l generalizing k with
  | nil => simp at h
  | cons a l ih => cases k with
    | zero => simp [costPL]; omega
    | succ k => have := ih k (by simpa using h); simp [costPL]; omega
def sumP (l : List Shp) : Nat := (l.map costP).sum
theorem sumP_snoc (xs : List Shp) (x : Shp) : sumP (xs ++ [x]) = sumP xs + costP x := by simp [sumP]
theorem sumP_take (xs : List Shp) (k : Nat) : sumP (xs.take k) ≤ sumP xs := by
  unfold sumP; rw [List.map_take]; exact sum_take_le _ _
theorem costPL_eq (l : List Shp) : costPL l = l.length + sumP l := by
  induction l with
  | nil => simp [costPL, sumP]
  | cons a l ih => simp only [costPL, ih, sumP, List.map_cons, List.sum_cons, List.length_cons]; omega

/-- A slice of shapes. -/
def ShpLR (w : World) (S : Nat → Prop) (a : Option Addr) (c : Nat) (l : List Shp) : Prop :=
  l.length ≤ c ∧ l.length ≤ big ∧ (l = [] ∨ ∃ b o, a = some ⟨b, o, none⟩ ∧ S b ∧ ShpsR w S b o l)
theorem ShpLR.grow {S : Nat → Prop} {w w' : World} {a : Option Addr} {c : Nat} {l : List Shp} (hs : ShpLR w S a c l) (h : Grow w w') : ShpLR w' S a c l := by
  obtain ⟨h1, h2, h4⟩ := hs
  refine ⟨h1, h2, h4.imp id ?_⟩
  rintro ⟨b, o, rfl, hb, hc⟩
  exact ⟨b, o, rfl, hb, hc.ext h (fun _ _ h => h) (fun h => h)⟩
theorem BoolsR.grow {S : Nat → Prop} {w w' : World} {a : Option Addr} {c : Nat} {xs : List Bool} (hs : BoolsR w S a c xs) (h : Grow w w') : BoolsR w' S a c xs := hs.ext h (fun _ _ h => h)
theorem ShapeC.parts' {w : World} {S : Nat → Prop} {n : Shp} {na : Option Addr} {nc : Nat} {ba : Option Addr} {bc : Nat} {ka : Option Addr} {kc : Nat} (h : ShapeC w S n na nc ba bc ka kc) :
    StrsR w S na nc n.names ∧ BoolsR w S ba bc n.needs ∧ ShpLR w S ka kc n.kids := h.parts

set_option maxHeartbeats 400000 in
theorem szBoolS_ok (a : Option Addr) (c : Nat) (n : Nat) (left : Int) (w : World) (hn : n ≤ 9223372036854775807) (h0 : 0 ≤ left) (h1 : left ≤ 1048576) :
    Calls Try.prog 72 #[.slice a n c, .int .i64 left] w fun e w' => e = .returned (.int .i64 (szR n left)) ∧ Grow w w' := by
  by_cases hl : left < (n : Int)
  · have Hf := Lib.hid (szR_neg (c := n) (left := left) hl)
    go_enter Try.func72, Try.ntmps72
    go_wp2
    go_ret
    exact ⟨by rw [Hf.out]; simp, Ext.refl _ _⟩
  · have Hf := Lib.hid (szR_pos (c := n) (left := left) (by omega))
    go_enter Try.func72, Try.ntmps72
    go_wp2
    go_ret
    exact ⟨by rw [Hf.out]; simp, Ext.refl _ _⟩

def SzPOk (n : Shp) : Prop := ∀ (v : Value) (left : Int) (w : World), 0 ≤ left → left ≤ 1048576 → ShapeR w any n v →
    Calls Try.prog 25 #[v, .int .i64 left] w fun e w' => e = .returned (.int .i64 (szR (costP n) left)) ∧ Grow w w'

set_option maxHeartbeats 400000 in
theorem szShapeS_of (l : List Shp) (ih : ∀ k ∈ l, SzPOk k) (a : Option Addr) (c : Nat) (left : Int) (w : World) (hn : ShpLR w any a c l) (h0 : 0 ≤ left) (h1 : left ≤ 1048576) :
    Calls Try.prog 73 #[.slice a l.length c, .int .i64 left] w fun e w' => e = .returned (.int .i64 (szR (costPL l) left)) ∧ Grow w w' := by
  have hbig : l.length ≤ 9223372036854775807 := hn.2.1
  have Hn := Lib.hid hn
  have Ih := Lib.hid ih
  clear hn ih
  by_cases hl : left < (l.length : Int)
  · have Hf := Lib.hid (szR_neg (c := costPL l) (left := left) (by rw [costPL_eq]; omega))
    go_enter Try.func73, Try.ntmps73
    go_wp2
    go_ret
    exact ⟨by rw [Hf.out]; simp, Ext.refl _ _⟩
  · go_enter Try.func73, Try.ntmps73
    go_wp2
    go_loopw [1, 5] (fun t i wr => Grow w wr ∧ ∃ (k : Nat) (r : Int), k ≤ l.length ∧ i = .int .i64 k ∧ t = .int .i64 r ∧ 0 ≤ r ∧ r ≤ 1048576 ∧ Hid (r = left - l.length - sumP (l.take k))) (fun _ i _ => l.length - (intOf i).toNat)
    case atStart => exact ⟨Ext.refl _ _, 0, _, Nat.zero_le _, rfl, rfl, by omega, by omega, Lib.hid (by simp [sumP])⟩
    case round =>
      obtain ⟨hg, k, r, hk, rfl, rfl, hr0, hr1, Hr⟩ := hrel
      have hst := sumP_take l k
      by_cases hlt : k < l.length
      · obtain ⟨_, _, hks⟩ := (Hn.out).grow hg
        rcases hks with hks | ⟨bk, ok, rfl, _, hkr⟩
        · simp [hks] at hlt
        obtain ⟨na', nc', ba', bc', ka', kc', c0, c1, c2, c3, hkc⟩ := hkr.get k hlt
        have Hkc : Hid (ShapeR wr any l[k] (shapeV l[k] na' nc' ba' bc' ka' kc')) := Lib.hid ⟨_, _, _, _, _, _, rfl, hkc⟩
        have hst2 := sumP_take l (k + 1)
        rw [take_snoc' _ _ hlt, sumP_snoc] at hst2
        clear hkr hkc
        by_cases hneg : r < (costP l[k] : Int)
        · have Hf : Hid (szR (costPL l) left = -1) := Lib.hid (szR_neg (by rw [costPL_eq]; have := Hr.out; omega))
          have Hs := Lib.hid (szR_neg hneg)
          go_wp2_with (go_at_call 25; refine (Ih.out _ (List.getElem_mem hlt) _ _ _ hr0 hr1 Hkc.out).mono ?_; rintro e w2 ⟨rfl, hg2⟩; simp only [Hs.out])
          go_ret
          exact ⟨by simp [Hf.out], hg.trans hg2⟩
        · have Hs := Lib.hid (szR_pos (c := costP l[k]) (left := r) (by omega))
          go_wp2_with (go_at_call 25; refine (Ih.out _ (List.getElem_mem hlt) _ _ _ hr0 hr1 Hkc.out).mono ?_; rintro e w2 ⟨rfl, hg2⟩; simp only [Hs.out])
          go_roundw
          case rel => exact ⟨hg.trans hg2, k + 1, _, by omega, by go_num, rfl, by omega, by omega, Lib.hid (by rw [take_snoc' _ _ hlt, sumP_snoc, Hr.out]; omega)⟩
          case measure => simp [intOf]; omega
      · have hke : k = l.length := by omega
        have Hf : Hid (szR (costPL l) left = r) := Lib.hid (by
          have h2 := Hr.out
          rw [hke, List.take_length] at h2
          rw [szR_pos (by rw [costPL_eq]; omega), costPL_eq]; omega)
        have Hke := Lib.hid hke
        clear hke
        go_wp2
        go_ret
        exact ⟨by simp [Hf.out], hg⟩

set_option maxHeartbeats 1000000 in
theorem szShape_ok : ∀ n, SzPOk n := by
  refine Shp.ind' SzPOk ?_
  intro n ih v left w h0 h1 hn
  obtain ⟨na, nc, ba, bc, ka, kc, rfl, hc⟩ := hn
  obtain ⟨hns, hbs, hks⟩ := hc.parts'
  have hbl : n.needs.length ≤ 9223372036854775807 := hbs.2.1
  have Hns := Lib.hid hns
  have Hks := Lib.hid hks
  have Ih := Lib.hid ih
  have hce := costP_eq n
  have Hce := Lib.hid hce
  clear hns hks hc hbs ih hce
  unfold shapeV at *
  by_cases a1 : left < (costS n.names : Int)
  · have Hf := Lib.hid (szR_neg (c := costP n) (left := left) (by have := Hce.out; omega))
    have Hs := Lib.hid (szR_neg a1)
    go_enter Try.func25, Try.ntmps25
    go_wp2_with (go_at_call 71; refine (szStringS_ok _ _ _ _ _ (Hns.out.grow (by repeat (first | with_reducible exact Ext.refl _ _ | with_reducible refine Ext.trans ?_ (by assumption) | with_reducible refine Ext.drew ?_ | with_reducible refine Ext.drewN ?_ _ | with_reducible refine Ext.alloc ?_ _ | with_reducible refine Ext.setNew ?_ (by simp; done) _ | with_reducible refine Ext.setNew ?_ (by simp; omega) _))) (by omega) (by omega)).mono ?_; rintro e w2 ⟨rfl, hg2⟩; simp only [Hs.out])
    go_ret
    exact ⟨by simp [Hf.out], (by repeat (first | with_reducible exact Ext.refl _ _ | with_reducible refine Ext.trans ?_ (by assumption) | with_reducible refine Ext.drew ?_ | with_reducible refine Ext.drewN ?_ _ | with_reducible refine Ext.alloc ?_ _ | with_reducible refine Ext.setNew ?_ (by simp; done) _ | with_reducible refine Ext.setNew ?_ (by simp; omega) _))⟩
  have Hs := Lib.hid (szR_pos (c := costS n.names) (left := left) (by omega))
  by_cases a2 : left - costS n.names < (n.needs.length : Int)
  · have Hf := Lib.hid (szR_neg (c := costP n) (left := left) (by have := Hce.out; omega))
    have Hs2 := Lib.hid (szR_neg a2)
    go_enter Try.func25, Try.ntmps25
    go_wp2_with (first | (go_at_call 71; refine (szStringS_ok _ _ _ _ _ (Hns.out.grow (by repeat (first | with_reducible exact Ext.refl _ _ | with_reducible refine Ext.trans ?_ (by assumption) | with_reducible refine Ext.drew ?_ | with_reducible refine Ext.drewN ?_ _ | with_reducible refine Ext.alloc ?_ _ | with_reducible refine Ext.setNew ?_ (by simp; done) _ | with_reducible refine Ext.setNew ?_ (by simp; omega) _))) (by omega) (by omega)).mono ?_; rintro e w2 ⟨rfl, hg2⟩; simp only [Hs.out]; have hcc := bcell hg2) | (go_at_call 72; refine (szBoolS_ok _ _ _ _ _ hbl (by omega) (by omega)).mono ?_; rintro e w3 ⟨rfl, hg3⟩; simp only [Hs2.out]))
    go_ret
    exact ⟨by simp [Hf.out], (by repeat (first | with_reducible exact Ext.refl _ _ | with_reducible refine Ext.trans ?_ (by assumption) | with_reducible refine Ext.drew ?_ | with_reducible refine Ext.drewN ?_ _ | with_reducible refine Ext.alloc ?_ _ | with_reducible refine Ext.setNew ?_ (by simp; done) _ | with_reducible refine Ext.setNew ?_ (by simp; omega) _))⟩
  have Hs2 := Lib.hid (szR_pos (c := n.needs.length) (left := left - costS n.names) (by omega))
  by_cases a3 : left - costS n.names - n.needs.length < (costPL n.kids : Int)
  · have Hf := Lib.hid (szR_neg (c := costP n) (left := left) (by have := Hce.out; omega))
    have Hs3 := Lib.hid (szR_neg a3)
    go_enter Try.func25, Try.ntmps25
    go_wp2_with (first | (go_at_call 71; refine (szStringS_ok _ _ _ _ _ (Hns.out.grow (by repeat (first | with_reducible exact Ext.refl _ _ | with_reducible refine Ext.trans ?_ (by assumption) | with_reducible refine Ext.drew ?_ | with_reducible refine Ext.drewN ?_ _ | with_reducible refine Ext.alloc ?_ _ | with_reducible refine Ext.setNew ?_ (by simp; done) _ | with_reducible refine Ext.setNew ?_ (by simp; omega) _))) (by omega) (by omega)).mono ?_; rintro e w2 ⟨rfl, hg2⟩; simp only [Hs.out]; have hcc := bcell hg2) | (go_at_call 72; refine (szBoolS_ok _ _ _ _ _ hbl (by omega) (by omega)).mono ?_; rintro e w3 ⟨rfl, hg3⟩; simp only [Hs2.out]; have hcc3 := bcell (hg2.trans hg3)) | (go_at_call 73; refine (szShapeS_of _ Ih.out _ _ _ _ (Hks.out.grow (by repeat (first | with_reducible exact Ext.refl _ _ | with_reducible refine Ext.trans ?_ (by assumption) | with_reducible refine Ext.drew ?_ | with_reducible refine Ext.drewN ?_ _ | with_reducible refine Ext.alloc ?_ _ | with_reducible refine Ext.setNew ?_ (by simp; done) _ | with_reducible refine Ext.setNew ?_ (by simp; omega) _))) (by omega) (by omega)).mono ?_; rintro e w4 ⟨rfl, hg4⟩; simp only [Hs3.out]))
    go_ret
    exact ⟨by simp [Hf.out], (by repeat (first | with_reducible exact Ext.refl _ _ | with_reducible refine Ext.trans ?_ (by assumption) | with_reducible refine Ext.drew ?_ | with_reducible refine Ext.drewN ?_ _ | with_reducible refine Ext.alloc ?_ _ | with_reducible refine Ext.setNew ?_ (by simp; done) _ | with_reducible refine Ext.setNew ?_ (by simp; omega) _))⟩
  · have Hf := Lib.hid (szR_pos (c := costP n) (left := left) (by have := Hce.out; omega))
    have Hs3 := Lib.hid (szR_pos (c := costPL n.kids) (left := left - costS n.names - n.needs.length) (by omega))
    go_enter Try.func25, Try.ntmps25
    go_wp2_with (first | (go_at_call 71; refine (szStringS_ok _ _ _ _ _ (Hns.out.grow (by repeat (first | with_reducible exact Ext.refl _ _ | with_reducible refine Ext.trans ?_ (by assumption) | with_reducible refine Ext.drew ?_ | with_reducible refine Ext.drewN ?_ _ | with_reducible refine Ext.alloc ?_ _ | with_reducible refine Ext.setNew ?_ (by simp; done) _ | with_reducible refine Ext.setNew ?_ (by simp; omega) _))) (by omega) (by omega)).mono ?_; rintro e w2 ⟨rfl, hg2⟩; simp only [Hs.out]; have hcc := bcell hg2) | (go_at_call 72; refine (szBoolS_ok _ _ _ _ _ hbl (by omega) (by omega)).mono ?_; rintro e w3 ⟨rfl, hg3⟩; simp only [Hs2.out]; have hcc3 := bcell (hg2.trans hg3)) | (go_at_call 73; refine (szShapeS_of _ Ih.out _ _ _ _ (Hks.out.grow (by repeat (first | with_reducible exact Ext.refl _ _ | with_reducible refine Ext.trans ?_ (by assumption) | with_reducible refine Ext.drew ?_ | with_reducible refine Ext.drewN ?_ _ | with_reducible refine Ext.alloc ?_ _ | with_reducible refine Ext.setNew ?_ (by simp; done) _ | with_reducible refine Ext.setNew ?_ (by simp; omega) _))) (by omega) (by omega)).mono ?_; rintro e w4 ⟨rfl, hg4⟩; simp only [Hs3.out]))
    go_ret
    exact ⟨by have h1 := Hf.out; have h2 := Hce.out; rw [h1]; simp; omega, (by repeat (first | with_reducible exact Ext.refl _ _ | with_reducible refine Ext.trans ?_ (by assumption) | with_reducible refine Ext.drew ?_ | with_reducible refine Ext.drewN ?_ _ | with_reducible refine Ext.alloc ?_ _ | with_reducible refine Ext.setNew ?_ (by simp; done) _ | with_reducible refine Ext.setNew ?_ (by simp; omega) _))⟩

end Go.Proofs.Ytchiakeceiefdaa
