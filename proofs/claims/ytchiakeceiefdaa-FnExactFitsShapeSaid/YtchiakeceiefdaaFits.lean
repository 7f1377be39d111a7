/-
  Whether a node fits a shape: the plain law and the walk of spec.fits.
-/
import Derived.Test.YtchiakeceiefdaaDecimal
import Derived.Test.YtchiakeceiefdaaShapeSpec
import Derived.Test.YtchiakeceiefdaaLater
namespace Go.Proofs.Ytchiakeceiefdaa
open Go.RowKit

/-- A node that is valid but for its size. -/
def Good (n : Nd) : Prop := ∃ d, shapeB n d = true
def GoodS (x : Shp) : Prop := ∃ d, d ≤ 5 ∧ shpB x d = true

theorem Good.parts {n : Nd} (h : Good n) : partsB n = true := by
  obtain ⟨d, h⟩ := h
  rw [shapeB_eq] at h
  simp only [Bool.and_eq_true] at h
  exact h.1.2
theorem Good.kid {n k : Nd} (h : Good n) (hk : k ∈ n.kids) : Good k := by
  obtain ⟨d, h⟩ := h
  rw [shapeB_eq, shapeL_all] at h
  simp only [Bool.and_eq_true, List.all_eq_true] at h
  exact ⟨d - 1, h.2 k hk⟩
theorem Good.zero : Good Nd.zero := ⟨1, by simp [shapeB_eq, partsB, Nd.zero, shapeL]⟩
theorem Good.kids6 {n : Nd} (h : Good n) : n.kids.length ≤ 6 := partsB_kids h.parts
theorem Good.map {n : Nd} (h : Good n) (hk : n.kind = 4) : Asc n.names ∧ n.kids.length = n.names.length := by
  have hp := h.parts
  simp only [partsB, hk, Bool.and_eq_true] at hp
  simp [areNamesB] at hp
  exact ⟨namesB_asc hp.2.1.2, hp.2.2⟩
theorem Good.other {n : Nd} (h : Good n) (hk : n.kind ≠ 4) : n.names = [] := by
  have hp := h.parts
  simp only [partsB, hk, Bool.and_eq_true] at hp
  simp at hp
  exact hp.1.2
theorem Good.asc {n : Nd} (h : Good n) : Asc n.names := by
  by_cases hk : n.kind = 4
  · exact (h.map hk).1
  · rw [h.other hk]; intro i j hi; simp at hi
theorem Good.len {n : Nd} (h : Good n) : n.names.length ≤ n.kids.length := by
  by_cases hk : n.kind = 4
  · rw [(h.map hk).2]; exact Nat.le_refl _
  · rw [h.other hk]; exact Nat.zero_le _
theorem Good.kidOf {n : Nd} (h : Good n) (s : ByteArray) : Good (kidOf n s) := by
  cases hm : mem n.names s
  · rw [kidOf_no hm]; exact Good.zero
  · exact h.kid (kidOf_mem h.asc h.len hm)
theorem validB_good {n : Nd} (h : validB n = true) : Good n := by
  simp only [validB, Bool.and_eq_true] at h
  exact ⟨5, h.1⟩

theorem GoodS.head {x : Shp} (h : GoodS x) : shpHead x = true := by
  obtain ⟨d, _, h⟩ := h
  rw [shpB_eq] at h
  simp only [Bool.and_eq_true] at h
  exact h.1.2
theorem GoodS.kid {x k : Shp} (h : GoodS x) (hk : k ∈ x.kids) : GoodS k := by
  obtain ⟨d, hd, h⟩ := h
  rw [shpB_eq, shpL_all] at h
  simp only [Bool.and_eq_true, List.all_eq_true] at h
  exact ⟨d - 1, by omega, h.2 k hk⟩

mutual
/-- Whether a node fits a shape. -/
def fitB : Shp → Nd → Bool
  | ⟨kind, names, needs, kids⟩, n => (decide (kind = 0) || decide (n.kind = kind)) && fitL names needs kids n
def fitL : List ByteArray → List Bool → List Shp → Nd → Bool
  | nm :: ns, nd :: bs, k :: ks, n => (if mem n.names nm then fitB k (kidOf n nm) else !nd) && fitL ns bs ks n
  | _, _, _, _ => true
end
theorem fitB_eq (x : Shp) (n : Nd) : fitB x n = ((decide (x.kind = 0) || decide (n.kind = x.kind)) && fitL x.names x.needs x.kids n) := by cases x; simp [fitB]
theorem fitL_step {ns : List ByteArray} {bs : List Bool} {ks : List Shp} (n : Nd) {k : Nat} (h1 : k < ns.length) (h2 : k < bs.length) (h3 : k < ks.length) :
    fitL (ns.drop k) (bs.drop k) (ks.drop k) n = ((if mem n.names ns[k] then fitB ks[k] (kidOf n ns[k]) else !bs[k]) && fitL (ns.drop (k + 1)) (bs.drop (k + 1)) (ks.drop (k + 1)) n) := by
  rw [drop_cons _ _ h1, drop_cons _ _ h2, drop_cons _ _ h3, fitL]
theorem fitL_end {ns : List ByteArray} {bs : List Bool} {ks : List Shp} (n : Nd) {k : Nat} (h1 : ¬ k < ns.length) : fitL (ns.drop k) (bs.drop k) (ks.drop k) n = true := by
  rw [List.drop_eq_nil_of_le (by omega)]; simp [fitL]

theorem placeFrom_map {n : Nd} {s : ByteArray} (hk : n.kind = 4) (ha : Asc n.names) (hl : n.kids.length = n.names.length) : ∀ (m i : Nat), m + i = n.kids.length → (∀ t (h : t < n.names.length), t < i → n.names[t] ≠ s) →
    placeFrom n s i m = if mem n.names s then (lbound n.names s : Int) else -1
  | 0, i, h, hno => by
    have : mem n.names s = false := mem_no (fun hm => by
      obtain ⟨t, ht, he⟩ := List.getElem_of_mem hm
      exact hno t ht (by omega) he)
    simp [placeFrom, this]
  | m + 1, i, h, hno => by
    have hi : i < n.names.length := by omega
    rw [placeFrom]
    by_cases e : n.names[i] = s
    · have hm : mem n.names s = true := mem_iff.2 (e ▸ List.getElem_mem hi)
      have hh : hit n s i = true := by simp [hit, hk, hi, e]
      have : lbound n.names s = i := lb_of (Nat.le_of_lt hi) (fun t ht hti => by rw [← e]; exact ha t i ht hi hti) (fun t ht hti => by
        rcases Nat.eq_or_lt_of_le hti with rfl | h'
        · rw [e]; exact lt_irr _
        · rw [← e]; exact bl_asymm _ _ (ha i t hi ht h'))
      simp [hh, hm, this]
    · have hh : hit n s i = false := by simp [hit, hk, hi, e]
      rw [hh]
      exact placeFrom_map hk ha hl m (i + 1) (by omega) (fun t ht hti => by
        rcases Nat.eq_or_lt_of_le (show t ≤ i by omega) with rfl | h'
        · exact e
        · exact hno t ht h')

theorem place_map {n : Nd} (h : Good n) (hk : n.kind = 4) (s : ByteArray) : placeOf n s = if mem n.names s then (lbound n.names s : Int) else -1 :=
  placeFrom_map hk (h.map hk).1 (h.map hk).2 _ 0 (by omega) (fun t _ h' => absurd h' (by omega))

def FitsOk (x : Shp) : Prop := ∀ (n : Nd) (v u : Value) (w : World), GoodS x → Good n → ShapeR w any x v → NodeR w any n u →
    Calls Try.prog 59 #[v, u] w fun e w' => e = .returned (.bool (fitB x n)) ∧ Grow w w'

set_option maxRecDepth 100000 in
set_option maxHeartbeats 8000000 in
theorem fits_of (x : Shp) (ih : ∀ k ∈ x.kids, FitsOk k) : FitsOk x := by
  intro n v u w hx hg hn hu
  obtain ⟨na, nc, ba, bc, ka, kc, rfl, hc⟩ := hn
  obtain ⟨hns, hnb, hk1, hk2, hk3⟩ := hc.parts
  have Hu := Lib.hid hu
  obtain ⟨na2, nc2, ka2, kc2, rfl, hc2⟩ := hu
  obtain ⟨_, _, hks2⟩ := hc2.parts
  obtain ⟨p1, p2, p3, p4, p5, p6⟩ := shpHead_parts hx.head
  have hl1 : x.names.length ≤ 6 := by
    simp only [areNamesB, Bool.and_eq_true, decide_eq_true_eq] at p3
    exact p3.1
  have hl2 : n.kids.length ≤ 6 := hg.kids6
  have Hns := Lib.hid hns
  have Hnb := Lib.hid hnb
  have Hk3 := Lib.hid hk3
  have Ih := Lib.hid ih
  have Hg := Lib.hid hg
  have Hx := Lib.hid hx
  have P4 := Lib.hid p4
  have P5 := Lib.hid p5
  have P6 := Lib.hid p6
  have Hks2 := Lib.hid hks2
  have Hf := Lib.hid (fitB_eq x n)
  clear hc hns hnb hk1 hk2 hk3 ih hc2 hks2 hx hg p3 p4 p5 p6
  unfold shapeV
  unfold nodeV at *
  by_cases hkk : x.kind ≠ 0 ∧ n.kind ≠ x.kind
  · have b1 : (x.kind != 0) = true := by simpa using hkk.1
    have b2 : (n.kind != x.kind) = true := by simpa using hkk.2
    have Hff : Hid (fitB x n = false) := Lib.hid (by rw [Hf.out]; simp [hkk.1, hkk.2])
    clear hkk
    go_enter Try.func59, Try.ntmps59
    go_wp2_with fail
    go_ret
    exact ⟨by simp [Hff.out], (by repeat (first | with_reducible exact Ext.refl _ _ | with_reducible refine Ext.trans ?_ (by assumption) | with_reducible refine Ext.drew ?_ | with_reducible refine Ext.drewN ?_ _ | with_reducible refine Ext.alloc ?_ _ | with_reducible refine Ext.setNew ?_ (by simp; done) _ | with_reducible refine Ext.setNew ?_ (by simp; omega) _))⟩
  have Hff : Hid (fitB x n = fitL x.names x.needs x.kids n) := Lib.hid (by
    rw [Hf.out]
    by_cases h0 : x.kind = 0
    · simp [h0]
    · have : n.kind = x.kind := by by_cases h : n.kind = x.kind; exact h; exact absurd ⟨h0, h⟩ hkk
      simp [this])
  have hw : (x.kind != 0) = false ∨ ((x.kind != 0) = true ∧ (n.kind != x.kind) = false) := by
    by_cases h0 : x.kind = 0
    · left; simp [h0]
    · right; simp [h0]; by_cases h : n.kind = x.kind; exact h; exact absurd ⟨h0, h⟩ hkk
  have HW := Lib.hid hw
  have HK : Hid (0 < x.names.length → n.kind = 4) := Lib.hid (by
    intro h
    have : x.kind = 4 := by have := P6.out; omega
    rcases hw with hw | ⟨_, hw⟩
    · rw [this] at hw; simp at hw
    · simp at hw; omega)
  clear hkk hw
  rcases HW.out with b1 | ⟨b1, b2⟩
  · go_enter Try.func59, Try.ntmps59
    go_wp2_with fail
    clear b1
    go_loopw [4, 5] (fun t4 i wr => t4 = .bool false ∧ Grow w wr ∧ BoxN wr w.heap.size (shapeL' x na nc ba bc ka kc) ∧ BoxN wr (w.heap.size + 1) (nodeL n na2 nc2 ka2 kc2) ∧ ∃ k : Nat, k ≤ x.names.length ∧ i = .int .i64 k ∧ fitL x.names x.needs x.kids n = fitL (x.names.drop k) (x.needs.drop k) (x.kids.drop k) n) (fun _ i _ => x.names.length - (intOf i).toNat)
    case atStart => exact ⟨rfl, (by repeat (first | with_reducible exact Ext.refl _ _ | with_reducible refine Ext.trans ?_ (by assumption) | with_reducible refine Ext.drew ?_ | with_reducible refine Ext.drewN ?_ _ | with_reducible refine Ext.alloc ?_ _ | with_reducible refine Ext.setNew ?_ (by simp; done) _ | with_reducible refine Ext.setNew ?_ (by simp; omega) _)), (BoxN.new w (shapeL' x na nc ba bc ka kc) _).grow ((Ext.refl nil _).alloc _), BoxN.new1 w _ (nodeL n na2 nc2 ka2 kc2) _, 0, Nat.zero_le _, rfl, rfl⟩
    case round =>
      obtain ⟨rfl, hg0, B1, B2, k, hk, rfl, hs⟩ := hrel
      have Hs := Lib.hid hs
      clear hs
      have q1 := B1.cell 1 _ rfl
      have q2 := B1.cell 2 _ rfl
      have q3 := B1.cell 3 _ rfl
      have r0 := B2.cell 0 _ rfl
      have r1 := B2.cell 1 _ rfl
      have r2 := B2.cell 2 _ rfl
      have r3 := B2.cell 3 _ rfl
      have r4 := B2.cell 4 _ rfl
      have HB1 := Lib.hid B1
      have HB2 := Lib.hid B2
      clear B1 B2
      by_cases hlt : k < x.names.length
      · have hlb : k < x.needs.length := by have := P4.out; omega
        have hlk : k < x.kids.length := by have := P5.out; omega
        have hst := fitL_step (ns := x.names) (bs := x.needs) (ks := x.kids) n hlt hlb hlk
        have hk4 := HK.out (by omega)
        have hpl := place_map Hg.out hk4 x.names[k]
        rcases ((Hns.out).ext hg0 (fun _ _ h => h)).2.2.2 with hh | ⟨b1, o1, rfl, _, hc1⟩
        · rw [hh] at hlt; simp at hlt
        rcases ((Hnb.out).ext hg0 (fun _ _ h => h)).2.2 with hh | ⟨b2, o2, rfl, _, hc2⟩
        · rw [hh] at hlb; simp at hlb
        rcases Hk3.out with hh | ⟨b3, o3, rfl, _, hkr⟩
        · rw [hh] at hlk; simp at hlk
        have cn := hc1 k hlt
        have cb := hc2 k hlb
        obtain ⟨na', nc', ba', bc', ka', kc', d0, d1, d2, d3, hkc⟩ := (hkr.ext hg0 (fun _ _ h => h) (fun h => h)).get k hlk
        have Hkc : Hid (ShapeR wr any x.kids[k] (shapeV x.kids[k] na' nc' ba' bc' ka' kc')) := Lib.hid ⟨_, _, _, _, _, _, rfl, hkc⟩
        have HM : Hid (n.kind = 4 → n.kids.length ≤ n.names.length) := Lib.hid (fun h => by rw [(Hg.out.map h).2]; exact Nat.le_refl _)
        cases hm : mem n.names x.names[k]
        · have Hpl : Hid (placeOf n x.names[k] = -1) := Lib.hid (by rw [hpl, hm]; rfl)
          rw [hm] at hst
          have Hst : Hid (fitL (x.names.drop k) (x.needs.drop k) (x.kids.drop k) n = (!x.needs[k] && fitL (x.names.drop (k + 1)) (x.needs.drop (k + 1)) (x.kids.drop (k + 1)) n)) := Lib.hid (by rw [hst]; rfl)
          clear hst hpl hk4 hm hkc hkr hc1 hc2
          cases hb : x.needs[k]
          · rw [hb] at cb
            have Hb := Lib.hid hb
            clear hb
            go_wp2_with fail
            (refine wp_region_later (by kernel_rfl) (by kernel_rfl) ?_; (repeat (first | go_big_quiet_step ((go_at_call 114; exact later_call (by simpa only [Hpl.out] using place_ok n x.names[k] _ _ HM.out (by omega) (Hu.out.grow (hg0.trans (later_grow _ _)))))) | quiet_step ((go_at_call 114; exact later_call (by simpa only [Hpl.out] using place_ok n x.names[k] _ _ HM.out (by omega) (Hu.out.grow (hg0.trans (later_grow _ _)))))))); refine wpQuiet_nil ?_; rintro _ ⟨x_w2, rfl⟩; have hg_w2 := later_grow wr x_w2; generalize later wr x_w2 = w2 at hg_w2 ⊢)
            (replace q1 := hg_w2.some q1; replace q2 := hg_w2.some q2; replace q3 := hg_w2.some q3; replace cb := hg_w2.some cb)
            go_wp2_with fail
            (refine wp_region_later (by kernel_rfl) (by kernel_rfl) ?_; (repeat (first | go_big_quiet_step (fail) | quiet_step (fail))); refine wpQuiet_nil ?_; rintro _ ⟨x_w3, rfl⟩; have hg_w3 := later_grow w2 x_w3; generalize later w2 x_w3 = w3 at hg_w3 ⊢)
            go_wp2_with fail
            go_roundw
            case rel => exact ⟨rfl, (by repeat (first | with_reducible exact Ext.refl _ _ | with_reducible refine Ext.trans ?_ (by assumption) | with_reducible refine Ext.drew ?_ | with_reducible refine Ext.drewN ?_ _ | with_reducible refine Ext.alloc ?_ _ | with_reducible refine Ext.setNew ?_ (by simp; done) _ | with_reducible refine Ext.setNew ?_ (by simp; omega) _)), HB1.out.grow (by repeat (first | with_reducible exact Ext.refl _ _ | with_reducible refine Ext.trans ?_ (by assumption) | with_reducible refine Ext.drew ?_ | with_reducible refine Ext.drewN ?_ _ | with_reducible refine Ext.alloc ?_ _ | with_reducible refine Ext.setNew ?_ (by simp; done) _ | with_reducible refine Ext.setNew ?_ (by simp; omega) _)), HB2.out.grow (by repeat (first | with_reducible exact Ext.refl _ _ | with_reducible refine Ext.trans ?_ (by assumption) | with_reducible refine Ext.drew ?_ | with_reducible refine Ext.drewN ?_ _ | with_reducible refine Ext.alloc ?_ _ | with_reducible refine Ext.setNew ?_ (by simp; done) _ | with_reducible refine Ext.setNew ?_ (by simp; omega) _)), k + 1, by omega, by go_num, by rw [Hs.out, Hst.out, Hb.out]; rfl⟩
            case measure => simp [intOf]; omega
          · rw [hb] at cb
            have Hb := Lib.hid hb
            clear hb
            go_wp2_with fail
            (refine wp_region_later (by kernel_rfl) (by kernel_rfl) ?_; (repeat (first | go_big_quiet_step ((go_at_call 114; exact later_call (by simpa only [Hpl.out] using place_ok n x.names[k] _ _ HM.out (by omega) (Hu.out.grow (hg0.trans (later_grow _ _)))))) | quiet_step ((go_at_call 114; exact later_call (by simpa only [Hpl.out] using place_ok n x.names[k] _ _ HM.out (by omega) (Hu.out.grow (hg0.trans (later_grow _ _)))))))); refine wpQuiet_nil ?_; rintro _ ⟨x_w2, rfl⟩; have hg_w2 := later_grow wr x_w2; generalize later wr x_w2 = w2 at hg_w2 ⊢)
            (replace q1 := hg_w2.some q1; replace q2 := hg_w2.some q2; replace q3 := hg_w2.some q3; replace cb := hg_w2.some cb)
            go_wp2_with fail
            (refine wp_region_later (by kernel_rfl) (by kernel_rfl) ?_; (repeat (first | go_big_quiet_step (fail) | quiet_step (fail))); refine wpQuiet_nil ?_; rintro _ ⟨x_w3, rfl⟩; have hg_w3 := later_grow w2 x_w3; generalize later w2 x_w3 = w3 at hg_w3 ⊢)
            go_wp2_with fail
            go_ret
            exact ⟨by rw [Hff.out, Hs.out, Hst.out, Hb.out]; rfl, (by repeat (first | with_reducible exact Ext.refl _ _ | with_reducible refine Ext.trans ?_ (by assumption) | with_reducible refine Ext.drew ?_ | with_reducible refine Ext.drewN ?_ _ | with_reducible refine Ext.alloc ?_ _ | with_reducible refine Ext.setNew ?_ (by simp; done) _ | with_reducible refine Ext.setNew ?_ (by simp; omega) _))⟩
        · obtain ⟨qq1, qq2⟩ := lb_lt Hg.out.asc hm
          obtain ⟨lb, hl3, hlb', hkid⟩ : ∃ (lb : Nat) (h : lb < n.kids.length), lb = lbound n.names x.names[k] ∧ kidOf n x.names[k] = n.kids[lb] := ⟨_, by have := Hg.out.len; omega, rfl, kidOf_yes hm (by have := Hg.out.len; omega)⟩
          have Hpl : Hid (placeOf n x.names[k] = (lb : Int)) := Lib.hid (by rw [hpl, hm, hlb']; rfl)
          rw [hm, hkid] at hst
          have Hst : Hid (fitL (x.names.drop k) (x.needs.drop k) (x.kids.drop k) n = (fitB x.kids[k] n.kids[lb] && fitL (x.names.drop (k + 1)) (x.needs.drop (k + 1)) (x.kids.drop (k + 1)) n)) := Lib.hid (by rw [hst]; rfl)
          have Hgk : Hid (Good n.kids[lb]) := Lib.hid (Hg.out.kid (List.getElem_mem _))
          rcases ((Hks2.out).ext hg0 (fun _ _ h => h)).2.2 with hh | ⟨b5, o5, rfl, _, hkr5⟩
          · rw [hh] at hl3; simp at hl3
          obtain ⟨na5, nc5, ka5, kc5, e0, e1, e2, e3, e4, hkc5⟩ := hkr5.get lb hl3
          have Hk5 : Hid (NodeR wr any n.kids[lb] (nodeV n.kids[lb] na5 nc5 ka5 kc5)) := Lib.hid ⟨_, _, _, _, rfl, hkc5⟩
          clear hst hpl hk4 hm hkc hkr hc1 hc2 hkc5 hkr5 hkid hlb' qq1 qq2
          cases hb : fitB x.kids[k] n.kids[lb]
          · have Hb := Lib.hid hb
            clear hb
            go_wp2_with fail
            (refine wp_region_later (by kernel_rfl) (by kernel_rfl) ?_; (repeat (first | go_big_quiet_step ((go_at_call 114; exact later_call (by simpa only [Hpl.out] using place_ok n x.names[k] _ _ HM.out (by omega) (Hu.out.grow (hg0.trans (later_grow _ _)))))) | quiet_step ((go_at_call 114; exact later_call (by simpa only [Hpl.out] using place_ok n x.names[k] _ _ HM.out (by omega) (Hu.out.grow (hg0.trans (later_grow _ _)))))))); refine wpQuiet_nil ?_; rintro _ ⟨x_w2, rfl⟩; have hg_w2 := later_grow wr x_w2; generalize later wr x_w2 = w2 at hg_w2 ⊢)
            (replace q1 := hg_w2.some q1; replace q2 := hg_w2.some q2; replace q3 := hg_w2.some q3; replace r4 := hg_w2.some r4; replace cn := hg_w2.some cn; replace cb := hg_w2.some cb; replace d0 := hg_w2.some d0; replace d1 := hg_w2.some d1; replace d2 := hg_w2.some d2; replace d3 := hg_w2.some d3; replace e0 := hg_w2.some e0; replace e1 := hg_w2.some e1; replace e2 := hg_w2.some e2; replace e3 := hg_w2.some e3; replace e4 := hg_w2.some e4)
            go_wp2_with fail
            (refine wp_region_later (by kernel_rfl) (by kernel_rfl) ?_; (repeat (first | go_big_quiet_step ((go_at_call 59; exact later_call (v := .bool false) ((Ih.out _ (List.getElem_mem hlk) n.kids[lb] _ _ _ (Hx.out.kid (List.getElem_mem hlk)) Hgk.out (Hkc.out.grow (hg_w2.trans (later_grow _ _))) (Hk5.out.grow (hg_w2.trans (later_grow _ _)))).mono (fun e w' h => ⟨by rw [h.1, Hb.out], h.2⟩)))) | quiet_step ((go_at_call 59; exact later_call (v := .bool false) ((Ih.out _ (List.getElem_mem hlk) n.kids[lb] _ _ _ (Hx.out.kid (List.getElem_mem hlk)) Hgk.out (Hkc.out.grow (hg_w2.trans (later_grow _ _))) (Hk5.out.grow (hg_w2.trans (later_grow _ _)))).mono (fun e w' h => ⟨by rw [h.1, Hb.out], h.2⟩)))))); refine wpQuiet_nil ?_; rintro _ ⟨x_w3, rfl⟩; have hg_w3 := later_grow w2 x_w3; generalize later w2 x_w3 = w3 at hg_w3 ⊢)
            go_wp2_with fail
            go_ret
            exact ⟨by rw [Hff.out, Hs.out, Hst.out, Hb.out]; rfl, (by repeat (first | with_reducible exact Ext.refl _ _ | with_reducible refine Ext.trans ?_ (by assumption) | with_reducible refine Ext.drew ?_ | with_reducible refine Ext.drewN ?_ _ | with_reducible refine Ext.alloc ?_ _ | with_reducible refine Ext.setNew ?_ (by simp; done) _ | with_reducible refine Ext.setNew ?_ (by simp; omega) _))⟩
          · have Hb := Lib.hid hb
            clear hb
            go_wp2_with fail
            (refine wp_region_later (by kernel_rfl) (by kernel_rfl) ?_; (repeat (first | go_big_quiet_step ((go_at_call 114; exact later_call (by simpa only [Hpl.out] using place_ok n x.names[k] _ _ HM.out (by omega) (Hu.out.grow (hg0.trans (later_grow _ _)))))) | quiet_step ((go_at_call 114; exact later_call (by simpa only [Hpl.out] using place_ok n x.names[k] _ _ HM.out (by omega) (Hu.out.grow (hg0.trans (later_grow _ _)))))))); refine wpQuiet_nil ?_; rintro _ ⟨x_w2, rfl⟩; have hg_w2 := later_grow wr x_w2; generalize later wr x_w2 = w2 at hg_w2 ⊢)
            (replace q1 := hg_w2.some q1; replace q2 := hg_w2.some q2; replace q3 := hg_w2.some q3; replace r4 := hg_w2.some r4; replace cn := hg_w2.some cn; replace cb := hg_w2.some cb; replace d0 := hg_w2.some d0; replace d1 := hg_w2.some d1; replace d2 := hg_w2.some d2; replace d3 := hg_w2.some d3; replace e0 := hg_w2.some e0; replace e1 := hg_w2.some e1; replace e2 := hg_w2.some e2; replace e3 := hg_w2.some e3; replace e4 := hg_w2.some e4)
            go_wp2_with fail
            (refine wp_region_later (by kernel_rfl) (by kernel_rfl) ?_; (repeat (first | go_big_quiet_step ((go_at_call 59; exact later_call (v := .bool true) ((Ih.out _ (List.getElem_mem hlk) n.kids[lb] _ _ _ (Hx.out.kid (List.getElem_mem hlk)) Hgk.out (Hkc.out.grow (hg_w2.trans (later_grow _ _))) (Hk5.out.grow (hg_w2.trans (later_grow _ _)))).mono (fun e w' h => ⟨by rw [h.1, Hb.out], h.2⟩)))) | quiet_step ((go_at_call 59; exact later_call (v := .bool true) ((Ih.out _ (List.getElem_mem hlk) n.kids[lb] _ _ _ (Hx.out.kid (List.getElem_mem hlk)) Hgk.out (Hkc.out.grow (hg_w2.trans (later_grow _ _))) (Hk5.out.grow (hg_w2.trans (later_grow _ _)))).mono (fun e w' h => ⟨by rw [h.1, Hb.out], h.2⟩)))))); refine wpQuiet_nil ?_; rintro _ ⟨x_w3, rfl⟩; have hg_w3 := later_grow w2 x_w3; generalize later w2 x_w3 = w3 at hg_w3 ⊢)
            go_wp2_with fail
            go_roundw
            case rel => exact ⟨rfl, (by repeat (first | with_reducible exact Ext.refl _ _ | with_reducible refine Ext.trans ?_ (by assumption) | with_reducible refine Ext.drew ?_ | with_reducible refine Ext.drewN ?_ _ | with_reducible refine Ext.alloc ?_ _ | with_reducible refine Ext.setNew ?_ (by simp; done) _ | with_reducible refine Ext.setNew ?_ (by simp; omega) _)), HB1.out.grow (by repeat (first | with_reducible exact Ext.refl _ _ | with_reducible refine Ext.trans ?_ (by assumption) | with_reducible refine Ext.drew ?_ | with_reducible refine Ext.drewN ?_ _ | with_reducible refine Ext.alloc ?_ _ | with_reducible refine Ext.setNew ?_ (by simp; done) _ | with_reducible refine Ext.setNew ?_ (by simp; omega) _)), HB2.out.grow (by repeat (first | with_reducible exact Ext.refl _ _ | with_reducible refine Ext.trans ?_ (by assumption) | with_reducible refine Ext.drew ?_ | with_reducible refine Ext.drewN ?_ _ | with_reducible refine Ext.alloc ?_ _ | with_reducible refine Ext.setNew ?_ (by simp; done) _ | with_reducible refine Ext.setNew ?_ (by simp; omega) _)), k + 1, by omega, by go_num, by rw [Hs.out, Hst.out, Hb.out]; rfl⟩
            case measure => simp [intOf]; omega
      · go_wp2_with fail
        go_ret
        exact ⟨by rw [Hff.out, Hs.out, fitL_end n hlt]; rfl, hg0⟩
  · go_enter Try.func59, Try.ntmps59
    go_wp2_with fail
    clear b1
    go_loopw [4, 5] (fun t4 i wr => t4 = .bool false ∧ Grow w wr ∧ BoxN wr w.heap.size (shapeL' x na nc ba bc ka kc) ∧ BoxN wr (w.heap.size + 1) (nodeL n na2 nc2 ka2 kc2) ∧ ∃ k : Nat, k ≤ x.names.length ∧ i = .int .i64 k ∧ fitL x.names x.needs x.kids n = fitL (x.names.drop k) (x.needs.drop k) (x.kids.drop k) n) (fun _ i _ => x.names.length - (intOf i).toNat)
    case atStart => exact ⟨rfl, (by repeat (first | with_reducible exact Ext.refl _ _ | with_reducible refine Ext.trans ?_ (by assumption) | with_reducible refine Ext.drew ?_ | with_reducible refine Ext.drewN ?_ _ | with_reducible refine Ext.alloc ?_ _ | with_reducible refine Ext.setNew ?_ (by simp; done) _ | with_reducible refine Ext.setNew ?_ (by simp; omega) _)), (BoxN.new w (shapeL' x na nc ba bc ka kc) _).grow ((Ext.refl nil _).alloc _), BoxN.new1 w _ (nodeL n na2 nc2 ka2 kc2) _, 0, Nat.zero_le _, rfl, rfl⟩
    case round =>
      obtain ⟨rfl, hg0, B1, B2, k, hk, rfl, hs⟩ := hrel
      have Hs := Lib.hid hs
      clear hs
      have q1 := B1.cell 1 _ rfl
      have q2 := B1.cell 2 _ rfl
      have q3 := B1.cell 3 _ rfl
      have r0 := B2.cell 0 _ rfl
      have r1 := B2.cell 1 _ rfl
      have r2 := B2.cell 2 _ rfl
      have r3 := B2.cell 3 _ rfl
      have r4 := B2.cell 4 _ rfl
      have HB1 := Lib.hid B1
      have HB2 := Lib.hid B2
      clear B1 B2
      by_cases hlt : k < x.names.length
      · have hlb : k < x.needs.length := by have := P4.out; omega
        have hlk : k < x.kids.length := by have := P5.out; omega
        have hst := fitL_step (ns := x.names) (bs := x.needs) (ks := x.kids) n hlt hlb hlk
        have hk4 := HK.out (by omega)
        have hpl := place_map Hg.out hk4 x.names[k]
        rcases ((Hns.out).ext hg0 (fun _ _ h => h)).2.2.2 with hh | ⟨b1, o1, rfl, _, hc1⟩
        · rw [hh] at hlt; simp at hlt
        rcases ((Hnb.out).ext hg0 (fun _ _ h => h)).2.2 with hh | ⟨b2, o2, rfl, _, hc2⟩
        · rw [hh] at hlb; simp at hlb
        rcases Hk3.out with hh | ⟨b3, o3, rfl, _, hkr⟩
        · rw [hh] at hlk; simp at hlk
        have cn := hc1 k hlt
        have cb := hc2 k hlb
        obtain ⟨na', nc', ba', bc', ka', kc', d0, d1, d2, d3, hkc⟩ := (hkr.ext hg0 (fun _ _ h => h) (fun h => h)).get k hlk
        have Hkc : Hid (ShapeR wr any x.kids[k] (shapeV x.kids[k] na' nc' ba' bc' ka' kc')) := Lib.hid ⟨_, _, _, _, _, _, rfl, hkc⟩
        have HM : Hid (n.kind = 4 → n.kids.length ≤ n.names.length) := Lib.hid (fun h => by rw [(Hg.out.map h).2]; exact Nat.le_refl _)
        cases hm : mem n.names x.names[k]
        · have Hpl : Hid (placeOf n x.names[k] = -1) := Lib.hid (by rw [hpl, hm]; rfl)
          rw [hm] at hst
          have Hst : Hid (fitL (x.names.drop k) (x.needs.drop k) (x.kids.drop k) n = (!x.needs[k] && fitL (x.names.drop (k + 1)) (x.needs.drop (k + 1)) (x.kids.drop (k + 1)) n)) := Lib.hid (by rw [hst]; rfl)
          clear hst hpl hk4 hm hkc hkr hc1 hc2
          cases hb : x.needs[k]
          · rw [hb] at cb
            have Hb := Lib.hid hb
            clear hb
            go_wp2_with fail
            (refine wp_region_later (by kernel_rfl) (by kernel_rfl) ?_; (repeat (first | go_big_quiet_step ((go_at_call 114; exact later_call (by simpa only [Hpl.out] using place_ok n x.names[k] _ _ HM.out (by omega) (Hu.out.grow (hg0.trans (later_grow _ _)))))) | quiet_step ((go_at_call 114; exact later_call (by simpa only [Hpl.out] using place_ok n x.names[k] _ _ HM.out (by omega) (Hu.out.grow (hg0.trans (later_grow _ _)))))))); refine wpQuiet_nil ?_; rintro _ ⟨x_w2, rfl⟩; have hg_w2 := later_grow wr x_w2; generalize later wr x_w2 = w2 at hg_w2 ⊢)
            (replace q1 := hg_w2.some q1; replace q2 := hg_w2.some q2; replace q3 := hg_w2.some q3; replace cb := hg_w2.some cb)
            go_wp2_with fail
            (refine wp_region_later (by kernel_rfl) (by kernel_rfl) ?_; (repeat (first | go_big_quiet_step (fail) | quiet_step (fail))); refine wpQuiet_nil ?_; rintro _ ⟨x_w3, rfl⟩; have hg_w3 := later_grow w2 x_w3; generalize later w2 x_w3 = w3 at hg_w3 ⊢)
            go_wp2_with fail
            go_roundw
            case rel => exact ⟨rfl, (by repeat (first | with_reducible exact Ext.refl _ _ | with_reducible refine Ext.trans ?_ (by assumption) | with_reducible refine Ext.drew ?_ | with_reducible refine Ext.drewN ?_ _ | with_reducible refine Ext.alloc ?_ _ | with_reducible refine Ext.setNew ?_ (by simp; done) _ | with_reducible refine Ext.setNew ?_ (by simp; omega) _)), HB1.out.grow (by repeat (first | with_reducible exact Ext.refl _ _ | with_reducible refine Ext.trans ?_ (by assumption) | with_reducible refine Ext.drew ?_ | with_reducible refine Ext.drewN ?_ _ | with_reducible refine Ext.alloc ?_ _ | with_reducible refine Ext.setNew ?_ (by simp; done) _ | with_reducible refine Ext.setNew ?_ (by simp; omega) _)), HB2.out.grow (by repeat (first | with_reducible exact Ext.refl _ _ | with_reducible refine Ext.trans ?_ (by assumption) | with_reducible refine Ext.drew ?_ | with_reducible refine Ext.drewN ?_ _ | with_reducible refine Ext.alloc ?_ _ | with_reducible refine Ext.setNew ?_ (by simp; done) _ | with_reducible refine Ext.setNew ?_ (by simp; omega) _)), k + 1, by omega, by go_num, by rw [Hs.out, Hst.out, Hb.out]; rfl⟩
            case measure => simp [intOf]; omega
          · rw [hb] at cb
            have Hb := Lib.hid hb
            clear hb
            go_wp2_with fail
            (refine wp_region_later (by kernel_rfl) (by kernel_rfl) ?_; (repeat (first | go_big_quiet_step ((go_at_call 114; exact later_call (by simpa only [Hpl.out] using place_ok n x.names[k] _ _ HM.out (by omega) (Hu.out.grow (hg0.trans (later_grow _ _)))))) | quiet_step ((go_at_call 114; exact later_call (by simpa only [Hpl.out] using place_ok n x.names[k] _ _ HM.out (by omega) (Hu.out.grow (hg0.trans (later_grow _ _)))))))); refine wpQuiet_nil ?_; rintro _ ⟨x_w2, rfl⟩; have hg_w2 := later_grow wr x_w2; generalize later wr x_w2 = w2 at hg_w2 ⊢)
            (replace q1 := hg_w2.some q1; replace q2 := hg_w2.some q2; replace q3 := hg_w2.some q3; replace cb := hg_w2.some cb)
            go_wp2_with fail
            (refine wp_region_later (by kernel_rfl) (by kernel_rfl) ?_; (repeat (first | go_big_quiet_step (fail) | quiet_step (fail))); refine wpQuiet_nil ?_; rintro _ ⟨x_w3, rfl⟩; have hg_w3 := later_grow w2 x_w3; generalize later w2 x_w3 = w3 at hg_w3 ⊢)
            go_wp2_with fail
            go_ret
            exact ⟨by rw [Hff.out, Hs.out, Hst.out, Hb.out]; rfl, (by repeat (first | with_reducible exact Ext.refl _ _ | with_reducible refine Ext.trans ?_ (by assumption) | with_reducible refine Ext.drew ?_ | with_reducible refine Ext.drewN ?_ _ | with_reducible refine Ext.alloc ?_ _ | with_reducible refine Ext.setNew ?_ (by simp; done) _ | with_reducible refine Ext.setNew ?_ (by simp; omega) _))⟩
        · obtain ⟨qq1, qq2⟩ := lb_lt Hg.out.asc hm
          obtain ⟨lb, hl3, hlb', hkid⟩ : ∃ (lb : Nat) (h : lb < n.kids.length), lb = lbound n.names x.names[k] ∧ kidOf n x.names[k] = n.kids[lb] := ⟨_, by have := Hg.out.len; omega, rfl, kidOf_yes hm (by have := Hg.out.len; omega)⟩
          have Hpl : Hid (placeOf n x.names[k] = (lb : Int)) := Lib.hid (by rw [hpl, hm, hlb']; rfl)
          rw [hm, hkid] at hst
          have Hst : Hid (fitL (x.names.drop k) (x.needs.drop k) (x.kids.drop k) n = (fitB x.kids[k] n.kids[lb] && fitL (x.names.drop (k + 1)) (x.needs.drop (k + 1)) (x.kids.drop (k + 1)) n)) := Lib.hid (by rw [hst]; rfl)
          have Hgk : Hid (Good n.kids[lb]) := Lib.hid (Hg.out.kid (List.getElem_mem _))
          rcases ((Hks2.out).ext hg0 (fun _ _ h => h)).2.2 with hh | ⟨b5, o5, rfl, _, hkr5⟩
          · rw [hh] at hl3; simp at hl3
          obtain ⟨na5, nc5, ka5, kc5, e0, e1, e2, e3, e4, hkc5⟩ := hkr5.get lb hl3
          have Hk5 : Hid (NodeR wr any n.kids[lb] (nodeV n.kids[lb] na5 nc5 ka5 kc5)) := Lib.hid ⟨_, _, _, _, rfl, hkc5⟩
          clear hst hpl hk4 hm hkc hkr hc1 hc2 hkc5 hkr5 hkid hlb' qq1 qq2
          cases hb : fitB x.kids[k] n.kids[lb]
          · have Hb := Lib.hid hb
            clear hb
            go_wp2_with fail
            (refine wp_region_later (by kernel_rfl) (by kernel_rfl) ?_; (repeat (first | go_big_quiet_step ((go_at_call 114; exact later_call (by simpa only [Hpl.out] using place_ok n x.names[k] _ _ HM.out (by omega) (Hu.out.grow (hg0.trans (later_grow _ _)))))) | quiet_step ((go_at_call 114; exact later_call (by simpa only [Hpl.out] using place_ok n x.names[k] _ _ HM.out (by omega) (Hu.out.grow (hg0.trans (later_grow _ _)))))))); refine wpQuiet_nil ?_; rintro _ ⟨x_w2, rfl⟩; have hg_w2 := later_grow wr x_w2; generalize later wr x_w2 = w2 at hg_w2 ⊢)
            (replace q1 := hg_w2.some q1; replace q2 := hg_w2.some q2; replace q3 := hg_w2.some q3; replace r4 := hg_w2.some r4; replace cn := hg_w2.some cn; replace cb := hg_w2.some cb; replace d0 := hg_w2.some d0; replace d1 := hg_w2.some d1; replace d2 := hg_w2.some d2; replace d3 := hg_w2.some d3; replace e0 := hg_w2.some e0; replace e1 := hg_w2.some e1; replace e2 := hg_w2.some e2; replace e3 := hg_w2.some e3; replace e4 := hg_w2.some e4)
            go_wp2_with fail
            (refine wp_region_later (by kernel_rfl) (by kernel_rfl) ?_; (repeat (first | go_big_quiet_step ((go_at_call 59; exact later_call (v := .bool false) ((Ih.out _ (List.getElem_mem hlk) n.kids[lb] _ _ _ (Hx.out.kid (List.getElem_mem hlk)) Hgk.out (Hkc.out.grow (hg_w2.trans (later_grow _ _))) (Hk5.out.grow (hg_w2.trans (later_grow _ _)))).mono (fun e w' h => ⟨by rw [h.1, Hb.out], h.2⟩)))) | quiet_step ((go_at_call 59; exact later_call (v := .bool false) ((Ih.out _ (List.getElem_mem hlk) n.kids[lb] _ _ _ (Hx.out.kid (List.getElem_mem hlk)) Hgk.out (Hkc.out.grow (hg_w2.trans (later_grow _ _))) (Hk5.out.grow (hg_w2.trans (later_grow _ _)))).mono (fun e w' h => ⟨by rw [h.1, Hb.out], h.2⟩)))))); refine wpQuiet_nil ?_; rintro _ ⟨x_w3, rfl⟩; have hg_w3 := later_grow w2 x_w3; generalize later w2 x_w3 = w3 at hg_w3 ⊢)
            go_wp2_with fail
            go_ret
            exact ⟨by rw [Hff.out, Hs.out, Hst.out, Hb.out]; rfl, (by repeat (first | with_reducible exact Ext.refl _ _ | with_reducible refine Ext.trans ?_ (by assumption) | with_reducible refine Ext.drew ?_ | with_reducible refine Ext.drewN ?_ _ | with_reducible refine Ext.alloc ?_ _ | with_reducible refine Ext.setNew ?_ (by simp; done) _ | with_reducible refine Ext.setNew ?_ (by simp; omega) _))⟩
          · have Hb := Lib.hid hb
            clear hb
            go_wp2_with fail
            (refine wp_region_later (by kernel_rfl) (by kernel_rfl) ?_; (repeat (first | go_big_quiet_step ((go_at_call 114; exact later_call (by simpa only [Hpl.out] using place_ok n x.names[k] _ _ HM.out (by omega) (Hu.out.grow (hg0.trans (later_grow _ _)))))) | quiet_step ((go_at_call 114; exact later_call (by simpa only [Hpl.out] using place_ok n x.names[k] _ _ HM.out (by omega) (Hu.out.grow (hg0.trans (later_grow _ _)))))))); refine wpQuiet_nil ?_; rintro _ ⟨x_w2, rfl⟩; have hg_w2 := later_grow wr x_w2; generalize later wr x_w2 = w2 at hg_w2 ⊢)
            (replace q1 := hg_w2.some q1; replace q2 := hg_w2.some q2; replace q3 := hg_w2.some q3; replace r4 := hg_w2.some r4; replace cn := hg_w2.some cn; replace cb := hg_w2.some cb; replace d0 := hg_w2.some d0; replace d1 := hg_w2.some d1; replace d2 := hg_w2.some d2; replace d3 := hg_w2.some d3; replace e0 := hg_w2.some e0; replace e1 := hg_w2.some e1; replace e2 := hg_w2.some e2; replace e3 := hg_w2.some e3; replace e4 := hg_w2.some e4)
            go_wp2_with fail
            (refine wp_region_later (by kernel_rfl) (by kernel_rfl) ?_; (repeat (first | go_big_quiet_step ((go_at_call 59; exact later_call (v := .bool true) ((Ih.out _ (List.getElem_mem hlk) n.kids[lb] _ _ _ (Hx.out.kid (List.getElem_mem hlk)) Hgk.out (Hkc.out.grow (hg_w2.trans (later_grow _ _))) (Hk5.out.grow (hg_w2.trans (later_grow _ _)))).mono (fun e w' h => ⟨by rw [h.1, Hb.out], h.2⟩)))) | quiet_step ((go_at_call 59; exact later_call (v := .bool true) ((Ih.out _ (List.getElem_mem hlk) n.kids[lb] _ _ _ (Hx.out.kid (List.getElem_mem hlk)) Hgk.out (Hkc.out.grow (hg_w2.trans (later_grow _ _))) (Hk5.out.grow (hg_w2.trans (later_grow _ _)))).mono (fun e w' h => ⟨by rw [h.1, Hb.out], h.2⟩)))))); refine wpQuiet_nil ?_; rintro _ ⟨x_w3, rfl⟩; have hg_w3 := later_grow w2 x_w3; generalize later w2 x_w3 = w3 at hg_w3 ⊢)
            go_wp2_with fail
            go_roundw
            case rel => exact ⟨rfl, (by repeat (first | with_reducible exact Ext.refl _ _ | with_reducible refine Ext.trans ?_ (by assumption) | with_reducible refine Ext.drew ?_ | with_reducible refine Ext.drewN ?_ _ | with_reducible refine Ext.alloc ?_ _ | with_reducible refine Ext.setNew ?_ (by simp; done) _ | with_reducible refine Ext.setNew ?_ (by simp; omega) _)), HB1.out.grow (by repeat (first | with_reducible exact Ext.refl _ _ | with_reducible refine Ext.trans ?_ (by assumption) | with_reducible refine Ext.drew ?_ | with_reducible refine Ext.drewN ?_ _ | with_reducible refine Ext.alloc ?_ _ | with_reducible refine Ext.setNew ?_ (by simp; done) _ | with_reducible refine Ext.setNew ?_ (by simp; omega) _)), HB2.out.grow (by repeat (first | with_reducible exact Ext.refl _ _ | with_reducible refine Ext.trans ?_ (by assumption) | with_reducible refine Ext.drew ?_ | with_reducible refine Ext.drewN ?_ _ | with_reducible refine Ext.alloc ?_ _ | with_reducible refine Ext.setNew ?_ (by simp; done) _ | with_reducible refine Ext.setNew ?_ (by simp; omega) _)), k + 1, by omega, by go_num, by rw [Hs.out, Hst.out, Hb.out]; rfl⟩
            case measure => simp [intOf]; omega
      · go_wp2_with fail
        go_ret
        exact ⟨by rw [Hff.out, Hs.out, fitL_end n hlt]; rfl, hg0⟩

theorem fits_ok : ∀ x, FitsOk x := Shp.ind' FitsOk fits_of

end Go.Proofs.Ytchiakeceiefdaa
