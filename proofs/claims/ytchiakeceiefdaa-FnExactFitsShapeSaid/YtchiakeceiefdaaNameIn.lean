/-
  The walk of impl.nameIn.
-/
import Derived.Test.YtchiakeceiefdaaSearch
import Derived.Test.YtchiakeceiefdaaMeasure
import Derived.Test.YtchiakeceiefdaaOwn
namespace Go.Proofs.Ytchiakeceiefdaa
open Go.RowKit

/-- The node without a value. -/
def Nd.zero : Nd := ⟨0, 0, ⟨#[]⟩, [], []⟩
theorem zeroNodeR (w : World) (S : Nat → Prop) : NodeR w S Nd.zero (.agg #[.int .i64 0, .int .i64 0, .string ⟨#[]⟩, .slice none 0 0, .slice none 0 0]) :=
  ⟨none, 0, none, 0, rfl, NodeC.mk (Nat.zero_le _) ⟨Nat.le_refl _, Nat.zero_le _, by simp [Nd.zero], .inl rfl⟩ ⟨Nat.le_refl _, Nat.zero_le _, .inl rfl⟩⟩

theorem lb_lt {xs : List ByteArray} {s : ByteArray} (ha : Asc xs) (h : mem xs s = true) : ∃ h : lbound xs s < xs.length, xs[lbound xs s] = s := by
  obtain ⟨i, hi, rfl⟩ := List.getElem_of_mem (mem_iff.1 h)
  have : lbound xs xs[i] = i := by
    refine lb_of (Nat.le_of_lt hi) (fun t ht hti => ha t i ht hi hti) (fun t ht hti => ?_)
    rcases Nat.eq_or_lt_of_le hti with rfl | h'
    · exact lt_irr _
    · exact bl_asymm _ _ (ha i t hi ht h')
  exact ⟨by rw [this]; exact hi, by simp only [this]⟩

/-- The node under a name. -/
def kidOf (n : Nd) (s : ByteArray) : Nd := if mem n.names s then n.kids[lbound n.names s]?.getD Nd.zero else Nd.zero

theorem kidOf_no {n : Nd} {s : ByteArray} (h : mem n.names s = false) : kidOf n s = Nd.zero := by simp [kidOf, h]
theorem kidOf_yes {n : Nd} {s : ByteArray} (h : mem n.names s = true) (hl : lbound n.names s < n.kids.length) : kidOf n s = n.kids[lbound n.names s] := by simp [kidOf, h, hl]
theorem kidOf_mem {n : Nd} {s : ByteArray} (ha : Asc n.names) (hl : n.names.length ≤ n.kids.length) (h : mem n.names s = true) : kidOf n s ∈ n.kids := by
  obtain ⟨h1, _⟩ := lb_lt ha h
  rw [kidOf_yes h (by omega)]
  exact List.getElem_mem _

set_option maxHeartbeats 1000000 in
theorem nameIn_ok (n : Nd) (s : ByteArray) (v : Value) (w : World) (ha : Asc n.names) (hl : n.names.length ≤ n.kids.length) (h6 : n.names.length ≤ 1000000) (hn : NodeR w any n v) :
    Calls Try.prog 110 #[v, .string s] w fun e w' => ∃ v', e = .returned (.tuple #[v', .bool (mem n.names s)]) ∧ Grow w w' ∧ NodeR w' any (kidOf n s) v' := by
  obtain ⟨na, nc, ka, kc, rfl, hc⟩ := hn
  obtain ⟨htx, hns, hks⟩ := hc.parts
  have hkl : n.kids.length ≤ 9223372036854775807 := hks.2.1
  have Hns := Lib.hid hns
  have Hks := Lib.hid hks
  clear hc htx hns hks
  unfold nodeV
  cases hm : mem n.names s
  · have Hm := Lib.hid hm
    have Hk := Lib.hid (kidOf_no hm)
    clear hm
    go_enter Try.func110, Try.ntmps110
    go_wp2_with fail
    refine (bsearch_ok na nc n.names s _ (Hns.out.grow (by repeat (first | with_reducible exact Ext.refl _ _ | with_reducible refine Ext.trans ?_ (by assumption) | with_reducible refine Ext.drew ?_ | with_reducible refine Ext.drewN ?_ _ | with_reducible refine Ext.alloc ?_ _ | with_reducible refine Ext.setNew ?_ (by simp; done) _ | with_reducible refine Ext.setNew ?_ (by simp; omega) _))) ha (by omega)).mono ?_
    rintro e w2 ⟨rfl, hg2⟩
    simp only [Hm.out]
    have hcc2 := bcell hg2
    have B1 := (Box5.new (w.alloc _) _ _ _ _ _ _).grow hg2
    simp only [World.size_alloc] at B1
    have HB1 := Lib.hid B1
    obtain ⟨q0, q1, q2, q3, q4, qf, ql⟩ := B1
    have hgA : Grow w w2 := (by repeat (first | with_reducible exact Ext.refl _ _ | with_reducible refine Ext.trans ?_ (by assumption) | with_reducible refine Ext.drew ?_ | with_reducible refine Ext.drewN ?_ _ | with_reducible refine Ext.alloc ?_ _ | with_reducible refine Ext.setNew ?_ (by simp; done) _ | with_reducible refine Ext.setNew ?_ (by simp; omega) _))
    clear hg2
    go_wp2_with fail
    have BF := ((((HB1.out.set0 (.int .i64 0)).set1 (.int .i64 0)).set2 (.string ⟨#[]⟩)).set3 (.slice none 0 0)).set4 (.slice none 0 0)
    obtain ⟨r0, r1, r2, r3, r4, _, _⟩ := BF
    refine bodyPost_ret (v := .tuple #[.agg #[.int .i64 0, .int .i64 0, .string ⟨#[]⟩, .slice none 0 0, .slice none 0 0], .bool false]) ?_ rfl ?_
    · simp [results, Try.results110, go_sem, r0, r1, r2, r3, r4]
    · refine ⟨_, rfl, ?_, by rw [Hk.out]; exact zeroNodeR _ _⟩
      exact (((((hgA.setNew (p := ⟨w.heap.size + 1, 0, none⟩) (by simp) _).setNew (p := ⟨w.heap.size + 1, 1, none⟩) (by simp) _).setNew (p := ⟨w.heap.size + 1, 2, none⟩) (by simp) _).setNew (p := ⟨w.heap.size + 1, 3, none⟩) (by simp) _).setNew (p := ⟨w.heap.size + 1, 4, none⟩) (by simp) _)
  · obtain ⟨hl1, hl2⟩ := lb_lt ha hm
    have Hm := Lib.hid hm
    obtain ⟨lb, hl3, hlb, hk⟩ : ∃ (lb : Nat) (h : lb < n.kids.length), lb = lbound n.names s ∧ kidOf n s = n.kids[lb] := ⟨_, by omega, rfl, kidOf_yes hm (by omega)⟩
    have Hk := Lib.hid hk
    have Hlb := Lib.hid hlb
    clear hm hlb hl2 hl1 hk
    rcases Hks.out.2.2 with hks | ⟨bk, ok, rfl, _, hkr⟩
    · simp [hks] at hl3
    obtain ⟨na', nc', ka', kc', c0, c1, c2, c3, c4, hkc⟩ := hkr.get lb hl3
    have Hkc : Hid (NodeR w any n.kids[lb] (nodeV n.kids[lb] na' nc' ka' kc')) := Lib.hid ⟨_, _, _, _, rfl, hkc⟩
    clear hkr hkc
    go_enter Try.func110, Try.ntmps110
    go_wp2_with fail
    refine (bsearch_ok na nc n.names s _ (Hns.out.grow (by repeat (first | with_reducible exact Ext.refl _ _ | with_reducible refine Ext.trans ?_ (by assumption) | with_reducible refine Ext.drew ?_ | with_reducible refine Ext.drewN ?_ _ | with_reducible refine Ext.alloc ?_ _ | with_reducible refine Ext.setNew ?_ (by simp; done) _ | with_reducible refine Ext.setNew ?_ (by simp; omega) _))) ha (by omega)).mono ?_
    rintro e w2 ⟨rfl, hg2⟩
    simp only [Hm.out, ← Hlb.out]
    have hcc2 := bcell hg2
    have hgA : Grow w w2 := (by repeat (first | with_reducible exact Ext.refl _ _ | with_reducible refine Ext.trans ?_ (by assumption) | with_reducible refine Ext.drew ?_ | with_reducible refine Ext.drewN ?_ _ | with_reducible refine Ext.alloc ?_ _ | with_reducible refine Ext.setNew ?_ (by simp; done) _ | with_reducible refine Ext.setNew ?_ (by simp; omega) _))
    have c0 := hgA.some c0
    have c1 := hgA.some c1
    have c2 := hgA.some c2
    have c3 := hgA.some c3
    have c4 := hgA.some c4
    have B1 := (Box5.new (w.alloc _) _ _ _ _ _ _).grow hg2
    simp only [World.size_alloc] at B1
    have HB1 := Lib.hid B1
    obtain ⟨q0, q1, q2, q3, q4, qf, ql⟩ := B1
    clear hg2
    go_wp2_with fail
    have BF := ((((HB1.out.set0 (.int .i64 n.kids[lb].kind)).set1 (.int .i64 n.kids[lb].num)).set2 (.string n.kids[lb].text)).set3 (.slice na' n.kids[lb].names.length nc')).set4 (.slice ka' n.kids[lb].kids.length kc')
    obtain ⟨r0, r1, r2, r3, r4, _, _⟩ := BF
    refine bodyPost_ret (v := .tuple #[nodeV n.kids[lb] na' nc' ka' kc', .bool true]) ?_ rfl ?_
    · simp [results, Try.results110, go_sem, nodeV, r0, r1, r2, r3, r4]
    · have hgF : ∀ W, Ext (fun k => k = w.heap.size + 1) w2 W → Grow w W := fun W h => hgA.inner h (by intro i hi; omega)
      refine ⟨_, rfl, ?_, ?_⟩
      · exact (((((hgA.setNew (p := ⟨w.heap.size + 1, 0, none⟩) (by simp) _).setNew (p := ⟨w.heap.size + 1, 1, none⟩) (by simp) _).setNew (p := ⟨w.heap.size + 1, 2, none⟩) (by simp) _).setNew (p := ⟨w.heap.size + 1, 3, none⟩) (by simp) _).setNew (p := ⟨w.heap.size + 1, 4, none⟩) (by simp) _)
      · rw [Hk.out]
        exact Hkc.out.grow (((((hgA.setNew (p := ⟨w.heap.size + 1, 0, none⟩) (by simp) _).setNew (p := ⟨w.heap.size + 1, 1, none⟩) (by simp) _).setNew (p := ⟨w.heap.size + 1, 2, none⟩) (by simp) _).setNew (p := ⟨w.heap.size + 1, 3, none⟩) (by simp) _).setNew (p := ⟨w.heap.size + 1, 4, none⟩) (by simp) _)

end Go.Proofs.Ytchiakeceiefdaa
