/-
  The walks of the laws' comparisons of texts and nodes.
-/
import Derived.Test.YtchiakeceiefdaaLawSz
import Derived.Test.YtchiakeceiefdaaLater
namespace Go.Proofs.Ytchiakeceiefdaa
open Go.RowKit

mutual
def eqN : Nd → Nd → Bool
  | ⟨k, n, t, ns, ks⟩, m => decide (k = m.kind) && decide (n = m.num) && decide (t = m.text) && decide (ns = m.names) && eqL ks m.kids
def eqL : List Nd → List Nd → Bool
  | [], [] => true
  | a :: l, b :: m => eqN a b && eqL l m
  | _, _ => false
end
mutual
theorem eqN_iff : ∀ a b : Nd, eqN a b = true ↔ a = b
  | ⟨k, n, t, ns, ks⟩, ⟨k', n', t', ns', ks'⟩ => by
    simp only [eqN, Bool.and_eq_true, decide_eq_true_eq, eqL_iff ks ks', Nd.mk.injEq]
    constructor
    · rintro ⟨⟨⟨⟨a, b⟩, c⟩, d⟩, e⟩; exact ⟨a, b, c, d, e⟩
    · rintro ⟨a, b, c, d, e⟩; exact ⟨⟨⟨⟨a, b⟩, c⟩, d⟩, e⟩
theorem eqL_iff : ∀ a b : List Nd, eqL a b = true ↔ a = b
  | [], [] => by simp [eqL]
  | [], _ :: _ => by simp [eqL]
  | _ :: _, [] => by simp [eqL]
  | a :: l, b :: m => by simp only [eqL, Bool.and_eq_true, eqN_iff a b, eqL_iff l m, List.cons.injEq]
end
theorem eqN_eq (a b : Nd) : eqN a b = (decide (a.kind = b.kind) && decide (a.num = b.num) && decide (a.text = b.text) && decide (a.names = b.names) && eqL a.kids b.kids) := by cases a; simp [eqN]
theorem eqN_refl (a : Nd) : eqN a a = true := (eqN_iff a a).2 rfl
theorem eqL_len {a b : List Nd} (h : a.length ≠ b.length) : eqL a b = false := by
  cases h' : eqL a b
  · rfl
  · exact absurd (congrArg List.length ((eqL_iff a b).1 h')) h

def eqS (xs ys : List ByteArray) : Bool := decide (xs = ys)
theorem eqS_cons (x y : ByteArray) (xs ys : List ByteArray) : eqS (x :: xs) (y :: ys) = ((x.toList == y.toList) && eqS xs ys) := by
  rw [beq_toList]; unfold eqS; by_cases h : x = y <;> simp [h]

set_option maxHeartbeats 400000 in
theorem eqStringS_ok (a b : Option Addr) (c d : Nat) (xs ys : List ByteArray) (w : World) (ha : StrsR w any a c xs) (hb : StrsR w any b d ys) :
    Calls Try.prog 20 #[.slice a xs.length c, .slice b ys.length d] w fun e w' => e = .returned (.bool (eqS xs ys)) ∧ Grow w w' := by
  have hbig : xs.length ≤ 9223372036854775807 := ha.2.1
  have Ha := Lib.hid ha
  have Hb := Lib.hid hb
  clear ha hb
  by_cases hl : xs.length = ys.length
  · have hlb : ((xs.length : Int) != (ys.length : Int)) = false := by simp [hl]
    have Hl := Lib.hid hl
    clear hl
    go_enter Try.func20, Try.ntmps20
    go_wp2
    go_loopw [4, 5] (fun n i wr => n = .bool false ∧ Grow w wr ∧ ∃ k : Nat, k ≤ xs.length ∧ i = .int .i64 k ∧ Hid (eqS xs ys = eqS (xs.drop k) (ys.drop k))) (fun _ i _ => xs.length - (intOf i).toNat)
    case atStart => exact ⟨rfl, Ext.refl _ _, 0, Nat.zero_le _, rfl, Lib.hid rfl⟩
    case round =>
      obtain ⟨rfl, hg, k, hk, rfl, Hr⟩ := hrel
      by_cases hlt : k < xs.length
      · have hlt' : k < ys.length := by have := Hl.out; omega
        obtain ⟨_, _, _, ha4⟩ := (Ha.out).grow hg
        obtain ⟨_, _, _, hb4⟩ := (Hb.out).grow hg
        rcases ha4 with rfl | ⟨ba, oa, rfl, _, hca⟩
        · simp at hlt
        rcases hb4 with rfl | ⟨bb, ob, rfl, _, hcb⟩
        · simp at hlt'
        have hx := hca k hlt
        have hy := hcb k hlt'
        have Hs : Hid (eqS (xs.drop k) (ys.drop k) = ((xs[k].toList == ys[k].toList) && eqS (xs.drop (k + 1)) (ys.drop (k + 1)))) := Lib.hid (by rw [drop_cons xs k hlt, drop_cons ys k hlt', eqS_cons])
        clear hca hcb Ha Hb
        cases he : (xs[k].toList == ys[k].toList)
        · go_wp2
          go_quiet (fail)
          go_wp2
          go_ret
          exact ⟨by simp [Hr.out, Hs.out, he], hg.drewN _⟩
        · go_wp2
          go_quiet (fail)
          go_wp2
          go_roundw
          case rel => exact ⟨rfl, hg.drewN _, k + 1, by omega, by go_num, Lib.hid (by rw [Hr.out, Hs.out, he, Bool.true_and])⟩
          case measure => simp [intOf]; omega
      · have Hs : Hid (eqS xs ys = true) := Lib.hid (by rw [Hr.out, List.drop_eq_nil_of_le (by omega), List.drop_eq_nil_of_le (by have := Hl.out; omega)]; rfl)
        go_wp2
        go_ret
        exact ⟨by simp [Hs.out], hg⟩
  · have hlb : ((xs.length : Int) != (ys.length : Int)) = true := by simp; omega
    have Hf : Hid (eqS xs ys = false) := Lib.hid (by unfold eqS; simp; exact fun h => hl (by rw [h]))
    clear hl
    go_enter Try.func20, Try.ntmps20
    go_wp2
    go_ret
    exact ⟨by simp [Hf.out], Ext.refl _ _⟩

def EqOk (n : Nd) : Prop := ∀ (m : Nd) (v u : Value) (w : World), NodeR w any n v → NodeR w any m u →
    Calls Try.prog 30 #[v, u] w fun e w' => e = .returned (.bool (eqN n m)) ∧ Grow w w'

set_option maxHeartbeats 1000000 in
theorem eqNodeS_of (l m : List Nd) (ih : ∀ k ∈ l, EqOk k) (a b : Option Addr) (c d : Nat) (w : World) (ha : NodesR w any a c l) (hb : NodesR w any b d m) :
    Calls Try.prog 81 #[.slice a l.length c, .slice b m.length d] w fun e w' => e = .returned (.bool (eqL l m)) ∧ Grow w w' := by
  have hbig : l.length ≤ 9223372036854775807 := ha.2.1
  have Ha := Lib.hid ha
  have Hb := Lib.hid hb
  have Ih := Lib.hid ih
  clear ha hb ih
  by_cases hl : l.length = m.length
  · have hlb : ((l.length : Int) != (m.length : Int)) = false := by simp [hl]
    have Hl := Lib.hid hl
    clear hl
    go_enter Try.func81, Try.ntmps81
    go_wp2
    go_loopw [4, 5] (fun n i wr => n = .bool false ∧ Grow w wr ∧ ∃ k : Nat, k ≤ l.length ∧ i = .int .i64 k ∧ Hid (eqL l m = eqL (l.drop k) (m.drop k))) (fun _ i _ => l.length - (intOf i).toNat)
    case atStart => exact ⟨rfl, Ext.refl _ _, 0, Nat.zero_le _, rfl, Lib.hid rfl⟩
    case round =>
      obtain ⟨rfl, hg, k, hk, rfl, Hr⟩ := hrel
      by_cases hlt : k < l.length
      · have hlt' : k < m.length := by have := Hl.out; omega
        obtain ⟨_, _, ha4⟩ := (Ha.out).grow hg
        obtain ⟨_, _, hb4⟩ := (Hb.out).grow hg
        rcases ha4 with rfl | ⟨ba, oa, rfl, _, hca⟩
        · simp at hlt
        rcases hb4 with rfl | ⟨bb, ob, rfl, _, hcb⟩
        · simp at hlt'
        obtain ⟨na, nc, ka, kc, a0, a1, a2, a3, a4, hkc⟩ := hca.get k hlt
        obtain ⟨na', nc', ka', kc', b0, b1, b2, b3, b4, hkc'⟩ := hcb.get k hlt'
        have Hx : Hid (NodeR wr any l[k] (nodeV l[k] na nc ka kc)) := Lib.hid ⟨_, _, _, _, rfl, hkc⟩
        have Hy : Hid (NodeR wr any m[k] (nodeV m[k] na' nc' ka' kc')) := Lib.hid ⟨_, _, _, _, rfl, hkc'⟩
        have Hs : Hid (eqL (l.drop k) (m.drop k) = (eqN l[k] m[k] && eqL (l.drop (k + 1)) (m.drop (k + 1)))) := Lib.hid (by rw [drop_cons l k hlt, drop_cons m k hlt', eqL])
        clear hca hcb Ha Hb hkc hkc'
        cases he : eqN l[k] m[k]
        · have He := Lib.hid he
          go_wp2
          (refine wp_region_later (by kernel_rfl) (by kernel_rfl) ?_; (repeat (first | go_big_quiet_step ((go_at_call 30; exact later_call (Ih.out _ (List.getElem_mem hlt) _ _ _ _ (Hx.out.grow (later_grow _ _)) (Hy.out.grow (later_grow _ _))))) | quiet_step ((go_at_call 30; exact later_call (Ih.out _ (List.getElem_mem hlt) _ _ _ _ (Hx.out.grow (later_grow _ _)) (Hy.out.grow (later_grow _ _))))))); refine wpQuiet_nil ?_; rintro _ ⟨x_w2, rfl⟩; have hg_w2 := later_grow wr x_w2; generalize later wr x_w2 = w2 at hg_w2 ⊢)
          go_wp2
          go_ret
          exact ⟨by simp [Hr.out, Hs.out, He.out], hg.trans hg_w2⟩
        · have He := Lib.hid he
          go_wp2
          (refine wp_region_later (by kernel_rfl) (by kernel_rfl) ?_; (repeat (first | go_big_quiet_step ((go_at_call 30; exact later_call (Ih.out _ (List.getElem_mem hlt) _ _ _ _ (Hx.out.grow (later_grow _ _)) (Hy.out.grow (later_grow _ _))))) | quiet_step ((go_at_call 30; exact later_call (Ih.out _ (List.getElem_mem hlt) _ _ _ _ (Hx.out.grow (later_grow _ _)) (Hy.out.grow (later_grow _ _))))))); refine wpQuiet_nil ?_; rintro _ ⟨x_w2, rfl⟩; have hg_w2 := later_grow wr x_w2; generalize later wr x_w2 = w2 at hg_w2 ⊢)
          go_wp2
          go_roundw
          case rel => exact ⟨rfl, hg.trans hg_w2, k + 1, by omega, by go_num, Lib.hid (by rw [Hr.out, Hs.out, He.out, Bool.true_and])⟩
          case measure => simp [intOf]; omega
      · have Hs : Hid (eqL l m = true) := Lib.hid (by rw [Hr.out, List.drop_eq_nil_of_le (by omega), List.drop_eq_nil_of_le (by have := Hl.out; omega)]; rfl)
        go_wp2
        go_ret
        exact ⟨by simp [Hs.out], hg⟩
  · have hlb : ((l.length : Int) != (m.length : Int)) = true := by simp; omega
    have Hf := Lib.hid (eqL_len hl)
    clear hl
    go_enter Try.func81, Try.ntmps81
    go_wp2
    go_ret
    exact ⟨by simp [Hf.out], Ext.refl _ _⟩

theorem eqN_kind {a b : Nd} (h : ¬ a.kind = b.kind) : eqN a b = false := by rw [eqN_eq]; simp [h]
theorem eqN_num {a b : Nd} (h : ¬ a.num = b.num) : eqN a b = false := by rw [eqN_eq]; simp [h]
theorem eqN_text {a b : Nd} (h : ¬ a.text = b.text) : eqN a b = false := by rw [eqN_eq]; simp [h]
theorem eqN_names {a b : Nd} (h : eqS a.names b.names = false) : eqN a b = false := by rw [eqN_eq]; unfold eqS at h; simp [of_decide_eq_false h]
theorem eqN_kids {a b : Nd} (h : eqL a.kids b.kids = false) : eqN a b = false := by rw [eqN_eq]; simp [h]
theorem eqN_all {a b : Nd} (h1 : a.kind = b.kind) (h2 : a.num = b.num) (h3 : a.text = b.text) (h4 : eqS a.names b.names = true) (h5 : eqL a.kids b.kids = true) : eqN a b = true := by
  rw [eqN_eq]; unfold eqS at h4; simp [h1, h2, h3, of_decide_eq_true h4, h5]

set_option maxHeartbeats 1000000 in
theorem eqNode_ok : ∀ n, EqOk n := by
  refine Nd.ind' EqOk ?_
  intro n ih m v u w hn hm
  have Ih := Lib.hid ih
  obtain ⟨na, nc, ka, kc, rfl, hc⟩ := hn
  obtain ⟨_, hns, hks⟩ := hc.parts
  obtain ⟨na', nc', ka', kc', rfl, hc'⟩ := hm
  obtain ⟨_, hns', hks'⟩ := hc'.parts
  have Hns := Lib.hid hns
  have Hks := Lib.hid hks
  have Hns' := Lib.hid hns'
  have Hks' := Lib.hid hks'
  clear ih hc hns hks hc' hns' hks'
  unfold nodeV at *
  by_cases h1 : n.kind = m.kind
  rotate_left
  · have Hf := Lib.hid (eqN_kind h1)
    have hb1 : (n.kind != m.kind) = true := by simpa using h1
    clear h1
    go_enter Try.func30, Try.ntmps30
    go_wp2_with fail
    go_ret
    exact ⟨by simp [Hf.out], (by repeat (first | with_reducible exact Ext.refl _ _ | with_reducible refine Ext.trans ?_ (by assumption) | with_reducible refine Ext.drew ?_ | with_reducible refine Ext.drewN ?_ _ | with_reducible refine Ext.alloc ?_ _ | with_reducible refine Ext.setNew ?_ (by simp; done) _ | with_reducible refine Ext.setNew ?_ (by simp; omega) _))⟩
  by_cases h2 : n.num = m.num
  rotate_left
  · have Hf := Lib.hid (eqN_num h2)
    have hb1 : (n.kind != m.kind) = false := by simp [h1]
    have hb2 : (n.num != m.num) = true := by simpa using h2
    clear h1 h2
    go_enter Try.func30, Try.ntmps30
    go_wp2_with fail
    go_ret
    exact ⟨by simp [Hf.out], (by repeat (first | with_reducible exact Ext.refl _ _ | with_reducible refine Ext.trans ?_ (by assumption) | with_reducible refine Ext.drew ?_ | with_reducible refine Ext.drewN ?_ _ | with_reducible refine Ext.alloc ?_ _ | with_reducible refine Ext.setNew ?_ (by simp; done) _ | with_reducible refine Ext.setNew ?_ (by simp; omega) _))⟩
  have hb1 : (n.kind != m.kind) = false := by simp [h1]
  have hb2 : (n.num != m.num) = false := by simp [h2]
  by_cases h3 : n.text = m.text
  rotate_left
  · have Hf := Lib.hid (eqN_text h3)
    have hb3 : (n.text.toList == m.text.toList) = false := by rw [beq_toList]; simp [h3]
    clear h1 h2 h3
    go_enter Try.func30, Try.ntmps30
    go_wp2_with fail
    go_ret
    exact ⟨by simp [Hf.out], (by repeat (first | with_reducible exact Ext.refl _ _ | with_reducible refine Ext.trans ?_ (by assumption) | with_reducible refine Ext.drew ?_ | with_reducible refine Ext.drewN ?_ _ | with_reducible refine Ext.alloc ?_ _ | with_reducible refine Ext.setNew ?_ (by simp; done) _ | with_reducible refine Ext.setNew ?_ (by simp; omega) _))⟩
  have hb3 : (n.text.toList == m.text.toList) = true := by rw [beq_toList]; simp [h3]
  cases h4 : eqS n.names m.names
  · have Hf := Lib.hid (eqN_names h4)
    have H4 := Lib.hid h4
    clear h1 h2 h3 h4
    go_enter Try.func30, Try.ntmps30
    go_wp2_with (go_at_call 20; refine (eqStringS_ok _ _ _ _ _ _ _ (Hns.out.grow (by repeat (first | with_reducible exact Ext.refl _ _ | with_reducible refine Ext.trans ?_ (by assumption) | with_reducible refine Ext.drew ?_ | with_reducible refine Ext.drewN ?_ _ | with_reducible refine Ext.alloc ?_ _ | with_reducible refine Ext.setNew ?_ (by simp; done) _ | with_reducible refine Ext.setNew ?_ (by simp; omega) _))) (Hns'.out.grow (by repeat (first | with_reducible exact Ext.refl _ _ | with_reducible refine Ext.trans ?_ (by assumption) | with_reducible refine Ext.drew ?_ | with_reducible refine Ext.drewN ?_ _ | with_reducible refine Ext.alloc ?_ _ | with_reducible refine Ext.setNew ?_ (by simp; done) _ | with_reducible refine Ext.setNew ?_ (by simp; omega) _)))).mono ?_; rintro e w2 ⟨rfl, hg2⟩; simp only [H4.out])
    go_ret
    exact ⟨by simp [Hf.out], (by repeat (first | with_reducible exact Ext.refl _ _ | with_reducible refine Ext.trans ?_ (by assumption) | with_reducible refine Ext.drew ?_ | with_reducible refine Ext.drewN ?_ _ | with_reducible refine Ext.alloc ?_ _ | with_reducible refine Ext.setNew ?_ (by simp; done) _ | with_reducible refine Ext.setNew ?_ (by simp; omega) _))⟩
  have H4 := Lib.hid h4
  cases h5 : eqL n.kids m.kids
  · have Hf := Lib.hid (eqN_kids h5)
    have H5 := Lib.hid h5
    clear h1 h2 h3 h4 h5
    go_enter Try.func30, Try.ntmps30
    go_wp2_with (first | (go_at_call 20; refine (eqStringS_ok _ _ _ _ _ _ _ (Hns.out.grow (by repeat (first | with_reducible exact Ext.refl _ _ | with_reducible refine Ext.trans ?_ (by assumption) | with_reducible refine Ext.drew ?_ | with_reducible refine Ext.drewN ?_ _ | with_reducible refine Ext.alloc ?_ _ | with_reducible refine Ext.setNew ?_ (by simp; done) _ | with_reducible refine Ext.setNew ?_ (by simp; omega) _))) (Hns'.out.grow (by repeat (first | with_reducible exact Ext.refl _ _ | with_reducible refine Ext.trans ?_ (by assumption) | with_reducible refine Ext.drew ?_ | with_reducible refine Ext.drewN ?_ _ | with_reducible refine Ext.alloc ?_ _ | with_reducible refine Ext.setNew ?_ (by simp; done) _ | with_reducible refine Ext.setNew ?_ (by simp; omega) _)))).mono ?_; rintro e w2 ⟨rfl, hg2⟩; simp only [H4.out]; have hcc := bcell hg2) | (go_at_call 81; refine (eqNodeS_of _ _ Ih.out _ _ _ _ _ (Hks.out.grow (by repeat (first | with_reducible exact Ext.refl _ _ | with_reducible refine Ext.trans ?_ (by assumption) | with_reducible refine Ext.drew ?_ | with_reducible refine Ext.drewN ?_ _ | with_reducible refine Ext.alloc ?_ _ | with_reducible refine Ext.setNew ?_ (by simp; done) _ | with_reducible refine Ext.setNew ?_ (by simp; omega) _))) (Hks'.out.grow (by repeat (first | with_reducible exact Ext.refl _ _ | with_reducible refine Ext.trans ?_ (by assumption) | with_reducible refine Ext.drew ?_ | with_reducible refine Ext.drewN ?_ _ | with_reducible refine Ext.alloc ?_ _ | with_reducible refine Ext.setNew ?_ (by simp; done) _ | with_reducible refine Ext.setNew ?_ (by simp; omega) _)))).mono ?_; rintro e w3 ⟨rfl, hg3⟩; simp only [H5.out]))
    go_ret
    exact ⟨by simp [Hf.out], (by repeat (first | with_reducible exact Ext.refl _ _ | with_reducible refine Ext.trans ?_ (by assumption) | with_reducible refine Ext.drew ?_ | with_reducible refine Ext.drewN ?_ _ | with_reducible refine Ext.alloc ?_ _ | with_reducible refine Ext.setNew ?_ (by simp; done) _ | with_reducible refine Ext.setNew ?_ (by simp; omega) _))⟩
  · have Hf := Lib.hid (eqN_all h1 h2 h3 h4 h5)
    have H5 := Lib.hid h5
    clear h1 h2 h3 h4 h5
    go_enter Try.func30, Try.ntmps30
    go_wp2_with (first | (go_at_call 20; refine (eqStringS_ok _ _ _ _ _ _ _ (Hns.out.grow (by repeat (first | with_reducible exact Ext.refl _ _ | with_reducible refine Ext.trans ?_ (by assumption) | with_reducible refine Ext.drew ?_ | with_reducible refine Ext.drewN ?_ _ | with_reducible refine Ext.alloc ?_ _ | with_reducible refine Ext.setNew ?_ (by simp; done) _ | with_reducible refine Ext.setNew ?_ (by simp; omega) _))) (Hns'.out.grow (by repeat (first | with_reducible exact Ext.refl _ _ | with_reducible refine Ext.trans ?_ (by assumption) | with_reducible refine Ext.drew ?_ | with_reducible refine Ext.drewN ?_ _ | with_reducible refine Ext.alloc ?_ _ | with_reducible refine Ext.setNew ?_ (by simp; done) _ | with_reducible refine Ext.setNew ?_ (by simp; omega) _)))).mono ?_; rintro e w2 ⟨rfl, hg2⟩; simp only [H4.out]; have hcc := bcell hg2) | (go_at_call 81; refine (eqNodeS_of _ _ Ih.out _ _ _ _ _ (Hks.out.grow (by repeat (first | with_reducible exact Ext.refl _ _ | with_reducible refine Ext.trans ?_ (by assumption) | with_reducible refine Ext.drew ?_ | with_reducible refine Ext.drewN ?_ _ | with_reducible refine Ext.alloc ?_ _ | with_reducible refine Ext.setNew ?_ (by simp; done) _ | with_reducible refine Ext.setNew ?_ (by simp; omega) _))) (Hks'.out.grow (by repeat (first | with_reducible exact Ext.refl _ _ | with_reducible refine Ext.trans ?_ (by assumption) | with_reducible refine Ext.drew ?_ | with_reducible refine Ext.drewN ?_ _ | with_reducible refine Ext.alloc ?_ _ | with_reducible refine Ext.setNew ?_ (by simp; done) _ | with_reducible refine Ext.setNew ?_ (by simp; omega) _)))).mono ?_; rintro e w3 ⟨rfl, hg3⟩; simp only [H5.out]))
    go_ret
    exact ⟨by simp [Hf.out], (by repeat (first | with_reducible exact Ext.refl _ _ | with_reducible refine Ext.trans ?_ (by assumption) | with_reducible refine Ext.drew ?_ | with_reducible refine Ext.drewN ?_ _ | with_reducible refine Ext.alloc ?_ _ | with_reducible refine Ext.setNew ?_ (by simp; done) _ | with_reducible refine Ext.setNew ?_ (by simp; omega) _))⟩

theorem eqNodeS_ok (l m : List Nd) (a b : Option Addr) (c d : Nat) (w : World) (ha : NodesR w any a c l) (hb : NodesR w any b d m) :
    Calls Try.prog 81 #[.slice a l.length c, .slice b m.length d] w fun e w' => e = .returned (.bool (eqL l m)) ∧ Grow w w' :=
  eqNodeS_of l m (fun k _ => eqNode_ok k) a b c d w ha hb

end Go.Proofs.Ytchiakeceiefdaa
