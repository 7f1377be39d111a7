/-
  Where a node does not fit a shape: the plain law and the walk of impl.misfit.
-/
import Derived.Test.YtchiakeceiefdaaFits
import Derived.Test.YtchiakeceiefdaaEasy
import Derived.Test.YtchiakeceiefdaaLawTo
import Derived.Laws.AppendOwn
import Derived.Laws.AppendOwnNone
namespace Go.Proofs.Ytchiakeceiefdaa
open Go.RowKit

mutual
/-- Where a node does not fit a shape. -/
def mis : Shp → Nd → Option (List ByteArray)
  | ⟨kind, names, needs, kids⟩, n => if kind = 0 then none else if kind ≠ n.kind then some [] else misL names needs kids n
def misL : List ByteArray → List Bool → List Shp → Nd → Option (List ByteArray)
  | nm :: ns, nd :: bs, k :: ks, n => if mem n.names nm then (match mis k (kidOf n nm) with | some p => some (nm :: p) | none => misL ns bs ks n) else if nd then some [nm] else misL ns bs ks n
  | _, _, _, _ => none
end
theorem mis_eq (x : Shp) (n : Nd) : mis x n = if x.kind = 0 then none else if x.kind ≠ n.kind then some [] else misL x.names x.needs x.kids n := by cases x; simp [mis]
theorem misL_step {ns : List ByteArray} {bs : List Bool} {ks : List Shp} (n : Nd) {k : Nat} (h1 : k < ns.length) (h2 : k < bs.length) (h3 : k < ks.length) :
    misL (ns.drop k) (bs.drop k) (ks.drop k) n = if mem n.names ns[k] then (match mis ks[k] (kidOf n ns[k]) with | some p => some (ns[k] :: p) | none => misL (ns.drop (k + 1)) (bs.drop (k + 1)) (ks.drop (k + 1)) n) else if bs[k] then some [ns[k]] else misL (ns.drop (k + 1)) (bs.drop (k + 1)) (ks.drop (k + 1)) n := by
  rw [drop_cons _ _ h1, drop_cons _ _ h2, drop_cons _ _ h3, misL]
theorem misL_end {ns : List ByteArray} {bs : List Bool} {ks : List Shp} (n : Nd) {k : Nat} (h1 : ¬ k < ns.length) : misL (ns.drop k) (bs.drop k) (ks.drop k) n = none := by
  rw [List.drop_eq_nil_of_le (by omega)]; simp [misL]

/-- The value of a list of texts and a truth value. -/
def MisR (w w' : World) (r : Option (List ByteArray)) (v : Value) : Prop :=
  ∃ a c fp, v = .tuple #[.slice a (r.getD []).length c, .bool r.isSome] ∧ StrsF w' a c (r.getD []) fp ∧ Free w.heap.size w' fp ∧ (r.getD [] = [] → a = none ∧ c = 0)

theorem MisR.grow {w w' w'' : World} {r : Option (List ByteArray)} {v : Value} (h : MisR w w' r v) (hg : Grow w' w'') : MisR w w'' r v := by
  obtain ⟨a, c, fp, hv, h1, h2, h3⟩ := h
  exact ⟨a, c, fp, hv, h1.keep (hg.keeps h2 (fun _ _ h => h)), h2.ext hg (fun _ _ h => h), h3⟩

theorem MisR.none (w w' : World) : MisR w w' .none (.tuple #[.slice .none 0 0, .bool false]) :=
  ⟨.none, 0, [], rfl, ⟨Nat.le_refl _, Nat.zero_le _, by simp, .inl ⟨rfl, rfl⟩⟩, Free.nil _ _, fun _ => ⟨rfl, rfl⟩⟩
theorem MisR.nil (w w' : World) : MisR w w' (some []) (.tuple #[.slice .none 0 0, .bool true]) :=
  ⟨.none, 0, [], rfl, ⟨Nat.le_refl _, Nat.zero_le _, by simp, .inl ⟨rfl, rfl⟩⟩, Free.nil _ _, fun _ => ⟨rfl, rfl⟩⟩

/-- What a list of one's own texts is. -/
theorem strs_of_row {w : World} {B : Nat} {T : TypeId} {v : Value} {n : Nat} {xs : List ByteArray} (h : w.ownsRow B T 1 v n (xs.map Value.string)) (hx : ∀ x ∈ xs, x.size ≤ big) :
    ∃ a c fp, v = .slice a xs.length c ∧ StrsF w a c xs fp ∧ Free B w fp ∧ (xs = [] → fp = []) := by
  obtain ⟨h1, h2⟩ := h
  have hn : n = xs.length := by simp at h1; omega
  subst hn
  rcases h2 with ⟨rfl, h0⟩ | ⟨g, cap, cur, rfl, hb, hg, hle, hcap, hcs, htake⟩
  · have : xs = [] := List.length_eq_zero_iff.1 h0
    subst this
    exact ⟨none, 0, [], rfl, ⟨Nat.le_refl _, Nat.zero_le _, by simp, .inl ⟨rfl, rfl⟩⟩, Free.nil _ _, fun _ => rfl⟩
  · have hlen : xs.length ≤ big := by unfold maxLen at hcap; unfold big; omega
    by_cases he : xs = []
    · subst he
      exact ⟨_, _, [], rfl, ⟨Nat.zero_le _, Nat.zero_le _, by simp, .inl ⟨rfl, rfl⟩⟩, Free.nil _ _, fun _ => rfl⟩
    · refine ⟨_, _, [g], rfl, ⟨hle, hlen, hx, .inr ⟨g, 0, he, rfl, rfl, fun i hi => ?_⟩⟩, ⟨by simp, fun b hb' => ?_⟩, fun h => absurd h he⟩
      · unfold World.cell?
        simp only [hg, Nat.zero_add]
        have : cur.toList[i]? = some (Value.string xs[i]) := by
          have h3 : (cur.toList.take (xs.length * 1))[i]? = some (Value.string xs[i]) := by rw [htake]; simp [hi]
          rw [List.getElem?_take] at h3
          rw [if_pos (by omega)] at h3
          exact h3
        rw [Array.getElem?_toList] at this
        simpa [World.frozen?] using this
      · simp at hb'
        subst hb'
        refine ⟨hb, (Array.getElem?_eq_some_iff.1 hg).1, fun o => ?_⟩
        unfold World.frozen?
        simp [hg]

theorem MisR.one (W w : World) (x : ByteArray) (T : TypeId) (b : Nat) (hb : b = w.heap.size) (h : W.heap.size ≤ w.heap.size) (hx : x.size ≤ big) :
    MisR W (w.alloc (.cells #[.string x] T)) (some [x]) (.tuple #[.slice (some ⟨b, 0, Option.none⟩) 1 1, .bool true]) := by
  subst hb
  refine ⟨_, _, [w.heap.size], rfl, ⟨Nat.le_refl _, by simp [big], by simpa using hx, .inr ⟨_, 0, by simp, rfl, rfl, fun i hi => ?_⟩⟩, ⟨by simp, fun b hb => ?_⟩, fun h => by simp at h⟩
  · simp at hi
    subst hi
    rw [World.cell?_alloc_new]; rfl
  · simp at hb
    subst hb
    exact ⟨h, by simp, fun o => World.frozen?_alloc_new w _ T o⟩

theorem addr_add (b o j : Nat) : (⟨b, o, Option.none⟩ : Addr).add j = ⟨b, o + j, Option.none⟩ := by unfold Addr.add; split <;> simp_all

theorem grown_ext {w w1 w2 : World} {row : Option Nat} (h : Grow w w1) (g : w1.grownBy w2 row) (hr : ∀ k, row = some k → w.heap.size ≤ k) : Grow w w2 :=
  ⟨g.os.trans h.os, g.tape.trans h.tape, g.output.trans h.output, Nat.le_trans h.size g.size, fun k hk _ => by
    rw [g.block k (Nat.lt_of_lt_of_le hk h.size) (fun e => by have := hr k e.symm; omega)]
    exact h.block k hk (fun h => h)⟩

/-- A row of cells that has just been laid. -/
theorem row_new (w : World) (B : Nat) (T : TypeId) (xs : List Value) (b : Nat) (hb : b = w.heap.size) (h : B ≤ w.heap.size) (hm : xs.length ≤ 1000) : (w.alloc (.cells xs.toArray T)).ownsRow B T 1 (.slice (some ⟨b, 0, Option.none⟩) xs.length xs.length) xs.length xs := by
  subst hb
  exact ⟨by simp, .inr ⟨_, _, xs.toArray, rfl, h, heap_alloc_new w _, Nat.le_refl _, by unfold maxLen; omega, by simp, by simp⟩⟩

theorem MisR.row {w w' : World} {T : TypeId} {v : Value} {n : Nat} {x : ByteArray} {p : List ByteArray} (h : w'.ownsRow w.heap.size T 1 v n ((x :: p).map Value.string)) (hx : ∀ y ∈ x :: p, y.size ≤ big) :
    MisR w w' (some (x :: p)) (.tuple #[v, .bool true]) := by
  obtain ⟨a, c, fp, hv, h1, h2, _⟩ := strs_of_row h hx
  exact ⟨a, c, fp, by rw [hv]; rfl, h1, h2, fun h => by simp at h⟩

theorem MisR.base {w0 w w' : World} {r : Option (List ByteArray)} {v : Value} (h : MisR w w' r v) (hs : w0.heap.size ≤ w.heap.size) : MisR w0 w' r v := by
  obtain ⟨a, c, fp, hv, h1, h2, h3⟩ := h
  exact ⟨a, c, fp, hv, h1, h2.mono hs, h3⟩

theorem misL_len (n : Nd) (d : Nat) : ∀ (ks : List Shp), (∀ k ∈ ks, ∀ m p, mis k m = some p → p.length ≤ d) → ∀ ns bs p, misL ns bs ks n = some p → p.length ≤ d + 1
  | [], _, ns, bs, p, h => by cases ns <;> cases bs <;> simp [misL] at h
  | k :: ks, hk, [], bs, p, h => by simp [misL] at h
  | k :: ks, hk, nm :: ns, [], p, h => by simp [misL] at h
  | k :: ks, hk, nm :: ns, nd :: bs, p, h => by
    rw [misL] at h
    by_cases hm : mem n.names nm = true
    · rw [if_pos hm] at h
      cases hx : mis k (kidOf n nm) with
      | none => rw [hx] at h; exact misL_len n d ks (fun k' hk' => hk k' (by simp [hk'])) ns bs p h
      | some q =>
        rw [hx] at h
        simp at h
        subst h
        have := hk k (by simp) _ _ hx
        simp; omega
    · rw [if_neg hm] at h
      by_cases hn : nd = true
      · rw [if_pos hn] at h; simp at h; subst h; simp
      · rw [if_neg hn] at h
        exact misL_len n d ks (fun k' hk' => hk k' (by simp [hk'])) ns bs p h

theorem mis_len : ∀ (d : Nat) (x : Shp) (n : Nd) (p : List ByteArray), shpB x d = true → mis x n = some p → p.length ≤ d
  | 0, x, n, p, h, _ => by rw [shpB_eq] at h; simp at h
  | d + 1, x, n, p, h, hp => by
    rw [shpB_eq, shpL_all] at h
    simp only [Bool.and_eq_true, List.all_eq_true, Nat.add_sub_cancel] at h
    rw [mis_eq] at hp
    by_cases h0 : x.kind = 0
    · simp [h0] at hp
    · rw [if_neg h0] at hp
      by_cases h1 : x.kind ≠ n.kind
      · rw [if_pos h1] at hp; simp at hp; subst hp; simp
      · rw [if_neg h1] at hp
        exact misL_len n d x.kids (fun k hk m q hq => mis_len d k m q (h.2 k hk) hq) _ _ _ hp

theorem GoodS.len {x : Shp} (h : GoodS x) {n : Nd} {p : List ByteArray} (hp : mis x n = some p) : p.length ≤ 5 := by
  obtain ⟨d, hd, h⟩ := h
  exact Nat.le_trans (mis_len d x n p h hp) hd

def MisOk (x : Shp) : Prop := ∀ (n : Nd) (v u : Value) (w : World), GoodS x → Good n → ShapeR w any x v → NodeR w any n u →
    Calls Try.prog 56 #[v, u] w fun e w' => ∃ r, e = .returned r ∧ Grow w w' ∧ MisR w w' (mis x n) r

set_option maxRecDepth 100000 in
set_option maxHeartbeats 8000000 in
theorem misfit_of (x : Shp) (ih : ∀ k ∈ x.kids, MisOk k) : MisOk x := by
  intro n v u w hx hg hn hu
  obtain ⟨na, nc, ba, bc, ka, kc, rfl, hc⟩ := hn
  obtain ⟨hns, hnb, hk1, hk2, hk3⟩ := hc.parts
  have Hu := Lib.hid hu
  obtain ⟨na2, nc2, ka2, kc2, rfl, hc2⟩ := hu
  obtain ⟨p1, p2, p3, p4, p5, p6⟩ := shpHead_parts hx.head
  have hl1 : x.names.length ≤ 6 := by
    simp only [areNamesB, Bool.and_eq_true, decide_eq_true_eq] at p3
    exact p3.1
  have hl2 : n.kids.length ≤ 6 := hg.kids6
  have Hns := Lib.hid hns
  have Hnb := Lib.hid hnb
  have Hk3 := Lib.hid hk3
  have Ih := Lib.hid ih
  have Hg := Lib.hid hg
  have Hx := Lib.hid hx
  have P4 := Lib.hid p4
  have P5 := Lib.hid p5
  have Hf := Lib.hid (mis_eq x n)
  clear hc hns hnb hk1 hk2 hk3 ih hc2 hx hg p3 p4 p5 p6
  unfold shapeV
  unfold nodeV at *
  by_cases h0 : x.kind = 0
  · have b1 : (x.kind == 0) = true := by simpa using h0
    have Hff : Hid (mis x n = none) := Lib.hid (by rw [Hf.out, if_pos h0])
    clear h0
    go_enter Try.func56, Try.ntmps56
    go_wp2_with fail
    go_ret2
    exact ⟨_, rfl, (by repeat (first | with_reducible exact Ext.refl _ _ | with_reducible refine Ext.trans ?_ (by assumption) | with_reducible refine Ext.drew ?_ | with_reducible refine Ext.drewN ?_ _ | with_reducible refine Ext.alloc ?_ _ | with_reducible refine Ext.setNew ?_ (by simp; done) _ | with_reducible refine Ext.setNew ?_ (by simp; omega) _)), by rw [Hff.out]; exact MisR.none _ _⟩
  have b1 : (x.kind == 0) = false := by simpa using h0
  by_cases h1 : x.kind ≠ n.kind
  · have b2 : (x.kind != n.kind) = true := by simpa using h1
    have Hff : Hid (mis x n = some []) := Lib.hid (by rw [Hf.out, if_neg h0, if_pos h1])
    clear h0 h1
    go_enter Try.func56, Try.ntmps56
    go_wp2_with fail
    go_ret2
    exact ⟨_, rfl, (by repeat (first | with_reducible exact Ext.refl _ _ | with_reducible refine Ext.trans ?_ (by assumption) | with_reducible refine Ext.drew ?_ | with_reducible refine Ext.drewN ?_ _ | with_reducible refine Ext.alloc ?_ _ | with_reducible refine Ext.setNew ?_ (by simp; done) _ | with_reducible refine Ext.setNew ?_ (by simp; omega) _)), by rw [Hff.out]; exact MisR.nil _ _⟩
  have b2 : (x.kind != n.kind) = false := by simpa using h1
  have Hff : Hid (mis x n = misL x.names x.needs x.kids n) := Lib.hid (by rw [Hf.out, if_neg h0, if_neg h1])
  clear h0 h1
  go_enter Try.func56, Try.ntmps56
  go_wp2_with fail
  go_loopw [4, 5, 23] (fun t4 t5 i wr => t4 = .slice none 0 0 ∧ t5 = .bool false ∧ Grow w wr ∧ BoxN wr w.heap.size (shapeL' x na nc ba bc ka kc) ∧ BoxN wr (w.heap.size + 1) (nodeL n na2 nc2 ka2 kc2) ∧ ∃ k : Nat, k ≤ x.names.length ∧ i = .int .i64 k ∧ misL x.names x.needs x.kids n = misL (x.names.drop k) (x.needs.drop k) (x.kids.drop k) n) (fun _ _ i _ => x.names.length - (intOf i).toNat)
  case atStart => exact ⟨rfl, rfl, (by repeat (first | with_reducible exact Ext.refl _ _ | with_reducible refine Ext.trans ?_ (by assumption) | with_reducible refine Ext.drew ?_ | with_reducible refine Ext.drewN ?_ _ | with_reducible refine Ext.alloc ?_ _ | with_reducible refine Ext.setNew ?_ (by simp; done) _ | with_reducible refine Ext.setNew ?_ (by simp; omega) _)), (BoxN.new w (shapeL' x na nc ba bc ka kc) _).grow ((Ext.refl nil _).alloc _), BoxN.new1 w _ (nodeL n na2 nc2 ka2 kc2) _, 0, Nat.zero_le _, rfl, rfl⟩
  case round =>
    obtain ⟨rfl, rfl, hg0, B1, B2, k, hk, rfl, hs⟩ := hrel
    have Hs := Lib.hid hs
    clear hs
    have q2 := B1.cell 2 _ rfl
    have q3 := B1.cell 3 _ rfl
    have r0 := B2.cell 0 _ rfl
    have r1 := B2.cell 1 _ rfl
    have r2 := B2.cell 2 _ rfl
    have r3 := B2.cell 3 _ rfl
    have r4 := B2.cell 4 _ rfl
    have HB1 := Lib.hid B1
    have HB2 := Lib.hid B2
    clear B1 B2
    by_cases hlt : k < x.names.length
    · have hlb : k < x.needs.length := by have := P4.out; omega
      have hlk : k < x.kids.length := by have := P5.out; omega
      have hst := misL_step (ns := x.names) (bs := x.needs) (ks := x.kids) n hlt hlb hlk
      have HA := Lib.hid Hg.out.asc
      have HL := Hg.out.len
      rcases ((Hns.out).ext hg0 (fun _ _ h => h)).2.2.2 with hh | ⟨b1, o1, rfl, _, hc1⟩
      · rw [hh] at hlt; simp at hlt
      rcases ((Hnb.out).ext hg0 (fun _ _ h => h)).2.2 with hh | ⟨b2, o2, rfl, _, hc2⟩
      · rw [hh] at hlb; simp at hlb
      rcases Hk3.out with hh | ⟨b3, o3, rfl, _, hkr⟩
      · rw [hh] at hlk; simp at hlk
      have cn := hc1 k hlt
      have cb := hc2 k hlb
      have hsz := ((Hns.out).ext hg0 (fun _ _ h => h)).2.2.1 _ (List.getElem_mem hlt)
      obtain ⟨na', nc', ba', bc', ka', kc', d0, d1, d2, d3, hkc⟩ := (hkr.ext hg0 (fun _ _ h => h) (fun h => h)).get k hlk
      have Hkc : Hid (ShapeR wr any x.kids[k] (shapeV x.kids[k] na' nc' ba' bc' ka' kc')) := Lib.hid ⟨_, _, _, _, _, _, rfl, hkc⟩
      have Hsz := Lib.hid hsz
      cases hm : mem n.names x.names[k]
      · rw [hm] at hst
        have Hm := Lib.hid hm
        cases hb : x.needs[k]
        · rw [hb] at cb hst
          have Hst : Hid (misL (x.names.drop k) (x.needs.drop k) (x.kids.drop k) n = misL (x.names.drop (k + 1)) (x.needs.drop (k + 1)) (x.kids.drop (k + 1)) n) := Lib.hid (by rw [hst]; rfl)
          clear hst hm hb hkc hkr hc1 hc2 hsz
          go_wp2_with fail
          refine (nameIn_ok n x.names[k] _ _ HA.out HL (by omega) (Hu.out.grow hg0)).mono ?_
          rintro e w2 ⟨v', rfl, hg_w2, hr2⟩
          obtain ⟨na5, nc5, ka5, kc5, rfl, hc5⟩ := hr2
          clear hc5
          simp only [Hm.out]
          (replace q2 := hg_w2.some q2; replace q3 := hg_w2.some q3; replace r0 := hg_w2.some r0; replace r1 := hg_w2.some r1; replace r2 := hg_w2.some r2; replace r3 := hg_w2.some r3; replace r4 := hg_w2.some r4; replace cn := hg_w2.some cn; replace cb := hg_w2.some cb; replace d0 := hg_w2.some d0; replace d1 := hg_w2.some d1; replace d2 := hg_w2.some d2; replace d3 := hg_w2.some d3)
          have z0 : w.heap.size < w2.heap.size := lt_of_cell q2
          have z1 : w.heap.size + 1 < w2.heap.size := lt_of_cell r0
          have z2 : b2 < w2.heap.size := lt_of_cell cb
          have z3 : b3 < w2.heap.size := lt_of_cell d0
          unfold nodeV
          go_wp2_with fail
          go_roundw
          case rel => exact ⟨rfl, rfl, (by repeat (first | with_reducible exact Ext.refl _ _ | with_reducible refine Ext.trans ?_ (by assumption) | with_reducible refine Ext.drew ?_ | with_reducible refine Ext.drewN ?_ _ | with_reducible refine Ext.alloc ?_ _ | with_reducible refine Ext.setNew ?_ (by simp; done) _ | with_reducible refine Ext.setNew ?_ (by simp; omega) _)), HB1.out.grow (by repeat (first | with_reducible exact Ext.refl _ _ | with_reducible refine Ext.trans ?_ (by assumption) | with_reducible refine Ext.drew ?_ | with_reducible refine Ext.drewN ?_ _ | with_reducible refine Ext.alloc ?_ _ | with_reducible refine Ext.setNew ?_ (by simp; done) _ | with_reducible refine Ext.setNew ?_ (by simp; omega) _)), HB2.out.grow (by repeat (first | with_reducible exact Ext.refl _ _ | with_reducible refine Ext.trans ?_ (by assumption) | with_reducible refine Ext.drew ?_ | with_reducible refine Ext.drewN ?_ _ | with_reducible refine Ext.alloc ?_ _ | with_reducible refine Ext.setNew ?_ (by simp; done) _ | with_reducible refine Ext.setNew ?_ (by simp; omega) _)), k + 1, by omega, by go_num, by rw [Hs.out, Hst.out]⟩
          case measure => simp [intOf]; omega
        · rw [hb] at cb hst
          have Hst : Hid (misL (x.names.drop k) (x.needs.drop k) (x.kids.drop k) n = some [x.names[k]]) := Lib.hid (by rw [hst]; rfl)
          clear hst hm hb hkc hkr hc1 hc2 hsz
          go_wp2_with fail
          refine (nameIn_ok n x.names[k] _ _ HA.out HL (by omega) (Hu.out.grow hg0)).mono ?_
          rintro e w2 ⟨v', rfl, hg_w2, hr2⟩
          obtain ⟨na5, nc5, ka5, kc5, rfl, hc5⟩ := hr2
          clear hc5
          simp only [Hm.out]
          (replace q2 := hg_w2.some q2; replace q3 := hg_w2.some q3; replace r0 := hg_w2.some r0; replace r1 := hg_w2.some r1; replace r2 := hg_w2.some r2; replace r3 := hg_w2.some r3; replace r4 := hg_w2.some r4; replace cn := hg_w2.some cn; replace cb := hg_w2.some cb; replace d0 := hg_w2.some d0; replace d1 := hg_w2.some d1; replace d2 := hg_w2.some d2; replace d3 := hg_w2.some d3)
          have z0 : w.heap.size < w2.heap.size := lt_of_cell q2
          have z1 : w.heap.size + 1 < w2.heap.size := lt_of_cell r0
          have z2 : b2 < w2.heap.size := lt_of_cell cb
          have z3 : b3 < w2.heap.size := lt_of_cell d0
          unfold nodeV
          go_wp2_with fail
          go_ret2
          refine ⟨_, rfl, (by repeat (first | with_reducible exact Ext.refl _ _ | with_reducible refine Ext.trans ?_ (by assumption) | with_reducible refine Ext.drew ?_ | with_reducible refine Ext.drewN ?_ _ | with_reducible refine Ext.alloc ?_ _ | with_reducible refine Ext.setNew ?_ (by simp; done) _ | with_reducible refine Ext.setNew ?_ (by simp; omega) _)), ?_⟩
          rw [Hff.out, Hs.out, Hst.out]
          exact MisR.one _ _ _ _ _ (by simp) (by have := hg0.size; have := hg_w2.size; simp; omega) Hsz.out
      · rw [hm] at hst
        have Hm := Lib.hid hm
        have HG : Hid (Good (kidOf n x.names[k])) := Lib.hid (Hg.out.kidOf _)
        clear hm hkc hkr hc1 hc2 hsz
        go_wp2_with fail
        refine (nameIn_ok n x.names[k] _ _ HA.out HL (by omega) (Hu.out.grow hg0)).mono ?_
        rintro e w2 ⟨v', rfl, hg_w2, hr2⟩
        have Hr2 := Lib.hid hr2
        obtain ⟨na5, nc5, ka5, kc5, rfl, hc5⟩ := hr2
        clear hc5
        simp only [Hm.out]
        (replace q2 := hg_w2.some q2; replace q3 := hg_w2.some q3; replace r0 := hg_w2.some r0; replace r1 := hg_w2.some r1; replace r2 := hg_w2.some r2; replace r3 := hg_w2.some r3; replace r4 := hg_w2.some r4; replace cn := hg_w2.some cn; replace cb := hg_w2.some cb; replace d0 := hg_w2.some d0; replace d1 := hg_w2.some d1; replace d2 := hg_w2.some d2; replace d3 := hg_w2.some d3)
        have z0 : w.heap.size < w2.heap.size := lt_of_cell q2
        have z1 : w.heap.size + 1 < w2.heap.size := lt_of_cell r0
        have z2 : b2 < w2.heap.size := lt_of_cell cb
        have z3 : b3 < w2.heap.size := lt_of_cell d0
        generalize hmm : kidOf n x.names[k] = m at *
        have Hmm := Lib.hid hmm
        clear hmm
        have hgk : GoodS x.kids[k] := Hx.out.kid (List.getElem_mem hlk)
        have Hgk := Lib.hid hgk
        cases hmis : mis x.kids[k] m with
        | none =>
          rw [hmis] at hst
          have Hst : Hid (misL (x.names.drop k) (x.needs.drop k) (x.kids.drop k) n = misL (x.names.drop (k + 1)) (x.needs.drop (k + 1)) (x.kids.drop (k + 1)) n) := Lib.hid (by rw [hst]; rfl)
          have Hmis := Lib.hid hmis
          clear hst hmis hgk
          unfold nodeV
          go_wp2_with fail
          obtain ⟨w3, hw3, hg_w3, B3⟩ : ∃ w3, w2.alloc (.cells #[.int .i64 m.kind, .int .i64 m.num, .string m.text, .slice na5 m.names.length nc5, .slice ka5 m.kids.length kc5] 30) = w3 ∧ Grow w2 w3 ∧ BoxN w3 w2.heap.size (nodeL m na5 nc5 ka5 kc5) := ⟨_, rfl, (Ext.refl nil w2).alloc _, BoxN.new w2 (nodeL m na5 nc5 ka5 kc5) _⟩
          rw [hw3]
          clear hw3
          (replace q3 := hg_w3.some q3; replace d0 := hg_w3.some d0; replace d1 := hg_w3.some d1; replace d2 := hg_w3.some d2; replace d3 := hg_w3.some d3)
          have p0 := B3.cell 0 _ rfl
          have p1 := B3.cell 1 _ rfl
          have p2 := B3.cell 2 _ rfl
          have p3 := B3.cell 3 _ rfl
          have p4 := B3.cell 4 _ rfl
          clear B3 q2 r0 r1 r2 r3 r4 cn cb
          refine wp_region_stab Grow (fun i => if i = 6 then some (fun v w' => MisR w3 w' (mis x.kids[k] m) v) else none) (by kernel_rfl) (by kernel_rfl) ⟨Ext.refl nil, fun _ _ h1 h2 => h2.trans h1, ?_⟩ ?_
          · intro i V hV v w1 w2 hr hv
            by_cases h2 : i = 6
            · simp only [h2, if_true, Option.some.injEq] at hV; subst hV; exact hv.grow hr
            · simp [h2] at hV
          (refine wpStab_quiet (by kernel_rfl) (by kernel_rfl) (by simp) ?_; intro K hK; go_big_quiet_op; go_big_quiet_on)
          (refine wpStab_quiet (by kernel_rfl) (by kernel_rfl) (by simp) ?_; intro K hK; go_big_quiet_op; go_big_quiet_on)
          (refine wpStab_quiet (by kernel_rfl) (by kernel_rfl) (by simp) ?_; intro K hK; go_big_quiet_op; go_big_quiet_on)
          (refine wpStab_quiet (by kernel_rfl) (by kernel_rfl) (by simp) ?_; intro K hK; go_big_quiet_op; go_big_quiet_on)
          (refine wpStab_quiet (by kernel_rfl) (by kernel_rfl) (by simp) ?_; intro K hK; go_big_quiet_op; go_big_quiet_on)
          (refine wpStab_quiet (by kernel_rfl) (by kernel_rfl) (by simp) ?_; intro K hK; go_big_quiet_op; go_big_quiet_on)
          refine wpStab_made' (fun v w' => MisR w3 w' (mis x.kids[k] m) v) ?_ ?_ ?_ ?_
          · go_simp
          · simp
          · intro y _
            refine stabAt_call (f := 56) (args := #[shapeV x.kids[k] na' nc' ba' bc' ka' kc', nodeV m na5 nc5 ka5 kc5]) ?_ ?_
            · unfold shapeV nodeV; go_simp
            · refine (Ih.out _ (List.getElem_mem hlk) m _ _ _ Hgk.out HG.out (Hkc.out.grow ((hg_w2.trans hg_w3).trans (later_grow _ _))) (Hr2.out.grow (hg_w3.trans (later_grow _ _)))).mono ?_
              rintro e w' ⟨r, rfl, hg, hr⟩
              exact ⟨r, rfl, hg, hr.base (later_grow _ _).size⟩
          rintro v ⟨y, a, c, fp, rfl, _, _, _⟩
          simp only [Hmis.out]
          go_frame
          (refine wpStab_quiet (by kernel_rfl) (by kernel_rfl) (by simp) ?_; intro K hK; go_big_quiet_op; go_big_quiet_on)
          (refine wpStab_quiet (by kernel_rfl) (by kernel_rfl) (by simp) ?_; intro K hK; go_big_quiet_op; go_big_quiet_on)
          (refine wpStab_quiet (by kernel_rfl) (by kernel_rfl) (by simp) ?_; intro K hK; go_big_quiet_op; go_big_quiet_on)
          (refine wpStab_quiet (by kernel_rfl) (by kernel_rfl) (by simp) ?_; intro K hK; go_big_quiet_op; go_big_quiet_on)
          (refine wpStab_quiet (by kernel_rfl) (by kernel_rfl) (by simp) ?_; intro K hK; go_big_quiet_op; go_big_quiet_on)
          refine wpStab_end' ?_
          intro w4 hg_w4 hE
          clear hE
          have hgA : Grow w w4 := ((hg0.trans hg_w2).trans hg_w3).trans hg_w4
          go_wp2_with fail
          go_roundw
          case rel => exact ⟨rfl, rfl, hgA, HB1.out.grow ((hg_w2.trans hg_w3).trans hg_w4), HB2.out.grow ((hg_w2.trans hg_w3).trans hg_w4), k + 1, by omega, by go_num, by rw [Hs.out, Hst.out]⟩
          case measure => simp [intOf]; omega
        | some p =>
          rw [hmis] at hst
          have hp5 := hgk.len hmis
          have Hst : Hid (misL (x.names.drop k) (x.needs.drop k) (x.kids.drop k) n = some (x.names[k] :: p)) := Lib.hid (by rw [hst]; rfl)
          have Hmis := Lib.hid hmis
          clear hst hmis hgk
          unfold nodeV
          go_wp2_with fail
          obtain ⟨w3, hw3, hg_w3, B3⟩ : ∃ w3, w2.alloc (.cells #[.int .i64 m.kind, .int .i64 m.num, .string m.text, .slice na5 m.names.length nc5, .slice ka5 m.kids.length kc5] 30) = w3 ∧ Grow w2 w3 ∧ BoxN w3 w2.heap.size (nodeL m na5 nc5 ka5 kc5) := ⟨_, rfl, (Ext.refl nil w2).alloc _, BoxN.new w2 (nodeL m na5 nc5 ka5 kc5) _⟩
          rw [hw3]
          clear hw3
          (replace q3 := hg_w3.some q3; replace d0 := hg_w3.some d0; replace d1 := hg_w3.some d1; replace d2 := hg_w3.some d2; replace d3 := hg_w3.some d3)
          have p0 := B3.cell 0 _ rfl
          have p1 := B3.cell 1 _ rfl
          have p2 := B3.cell 2 _ rfl
          have p3 := B3.cell 3 _ rfl
          have p4 := B3.cell 4 _ rfl
          clear B3 q2 r0 r1 r2 r3 r4 cn cb
          refine wp_region_stab Grow (fun i => if i = 6 then some (fun v w' => MisR w3 w' (mis x.kids[k] m) v) else none) (by kernel_rfl) (by kernel_rfl) ⟨Ext.refl nil, fun _ _ h1 h2 => h2.trans h1, ?_⟩ ?_
          · intro i V hV v w1 w2 hr hv
            by_cases h2 : i = 6
            · simp only [h2, if_true, Option.some.injEq] at hV; subst hV; exact hv.grow hr
            · simp [h2] at hV
          (refine wpStab_quiet (by kernel_rfl) (by kernel_rfl) (by simp) ?_; intro K hK; go_big_quiet_op; go_big_quiet_on)
          (refine wpStab_quiet (by kernel_rfl) (by kernel_rfl) (by simp) ?_; intro K hK; go_big_quiet_op; go_big_quiet_on)
          (refine wpStab_quiet (by kernel_rfl) (by kernel_rfl) (by simp) ?_; intro K hK; go_big_quiet_op; go_big_quiet_on)
          (refine wpStab_quiet (by kernel_rfl) (by kernel_rfl) (by simp) ?_; intro K hK; go_big_quiet_op; go_big_quiet_on)
          (refine wpStab_quiet (by kernel_rfl) (by kernel_rfl) (by simp) ?_; intro K hK; go_big_quiet_op; go_big_quiet_on)
          (refine wpStab_quiet (by kernel_rfl) (by kernel_rfl) (by simp) ?_; intro K hK; go_big_quiet_op; go_big_quiet_on)
          refine wpStab_made' (fun v w' => MisR w3 w' (mis x.kids[k] m) v) ?_ ?_ ?_ ?_
          · go_simp
          · simp
          · intro y _
            refine stabAt_call (f := 56) (args := #[shapeV x.kids[k] na' nc' ba' bc' ka' kc', nodeV m na5 nc5 ka5 kc5]) ?_ ?_
            · unfold shapeV nodeV; go_simp
            · refine (Ih.out _ (List.getElem_mem hlk) m _ _ _ Hgk.out HG.out (Hkc.out.grow ((hg_w2.trans hg_w3).trans (later_grow _ _))) (Hr2.out.grow (hg_w3.trans (later_grow _ _)))).mono ?_
              rintro e w' ⟨r, rfl, hg, hr⟩
              exact ⟨r, rfl, hg, hr.base (later_grow _ _).size⟩
          rintro v ⟨y, a, c, fp, rfl, _, _, _⟩
          simp only [Hmis.out]
          go_frame
          (refine wpStab_quiet (by kernel_rfl) (by kernel_rfl) (by simp) ?_; intro K hK; go_big_quiet_op; go_big_quiet_on)
          (refine wpStab_quiet (by kernel_rfl) (by kernel_rfl) (by simp) ?_; intro K hK; go_big_quiet_op; go_big_quiet_on)
          (refine wpStab_quiet (by kernel_rfl) (by kernel_rfl) (by simp) ?_; intro K hK; go_big_quiet_op; go_big_quiet_on)
          (refine wpStab_quiet (by kernel_rfl) (by kernel_rfl) (by simp) ?_; intro K hK; go_big_quiet_op; go_big_quiet_on)
          (refine wpStab_quiet (by kernel_rfl) (by kernel_rfl) (by simp) ?_; intro K hK; go_big_quiet_op; go_big_quiet_on)
          refine wpStab_end' ?_
          intro w4 hg_w4 hE
          obtain ⟨a', c', fp, hv, h1, h2, h3⟩ := (hE 6).2 rfl
          clear hE
          simp only [Option.getD_some, Value.tuple.injEq] at hv
          obtain ⟨rfl, rfl⟩ : a = a' ∧ c = c' := by
            have := congrArg (fun l : Array Value => l[0]?) hv
            simpa using this
          have hgA : Grow w w4 := ((hg0.trans hg_w2).trans hg_w3).trans hg_w4
          clear hv
          simp only [Option.getD_some] at h1 h2 h3 ⊢
          have H1 := Lib.hid h1
          have H2 := Lib.hid h2
          clear h2
          obtain ⟨i0, hi, hz0, hz1, hz2⟩ := info_parts info_string
          by_cases hp : p = []
          · obtain ⟨rfl, rfl⟩ := h3 hp
            subst hp
            go_wp2_with (at_builtin; refine wpList_append_own_none rfl _ _ 23 rfl w.heap.size 9 i0 1 Try.underlying23 hi (.slice (some ⟨w4.heap.size, 0, Option.none⟩) 1 1) 1 [.string x.names[k]] rfl (row_new w4 w.heap.size _ [.string x.names[k]] _ rfl hgA.size (by simp)) rfl ?_)
            go_ret2
            refine ⟨_, rfl, hgA.alloc _, ?_⟩
            rw [Hff.out, Hs.out, Hst.out]
            exact MisR.row (x := x.names[k]) (p := []) (row_new w4 w.heap.size _ [.string x.names[k]] _ rfl hgA.size (by simp)) (by simpa using Hsz.out)
          · obtain ⟨hle, hlen, hbig, hcc⟩ := h1
            rcases hcc with ⟨hcc, _⟩ | ⟨pb, po, _, rfl, rfl, hcc⟩
            · exact absurd hcc hp
            clear h3 hp
            have hcc' : ∀ j u, (p.map Value.string)[j]? = some u → (w4.alloc (.cells #[.string x.names[k]] 9)).cell? ((⟨pb, po, Option.none⟩ : Addr).add j) = some u := by
              intro j u hu
              rw [List.getElem?_map] at hu
              rcases Nat.lt_or_ge j p.length with hj | hj
              · rw [List.getElem?_eq_getElem hj] at hu
                simp at hu
                subst hu
                rw [addr_add]
                exact Grow.some ((Ext.refl nil w4).alloc _) (hcc j hj)
              · rw [List.getElem?_eq_none hj] at hu; simp at hu
            have HC := Lib.hid hcc'
            clear hcc hcc'
            go_wp2_with (at_builtin; (refine wpList_append_own _ rfl _ _ 23 rfl w.heap.size 9 i0 (.string ⟨#[]⟩) 1 16 Try.underlying23 hi hz0 hz1 hz2 rfl (by decide) (.slice (some ⟨w4.heap.size, 0, Option.none⟩) 1 1) 1 [.string x.names[k]] rfl (row_new w4 w.heap.size _ [.string x.names[k]] _ rfl hgA.size (by simp)) ⟨pb, po, Option.none⟩ p.length c (p.map Value.string) rfl ?c1 HC.out ?c2 ?c3 ?c4 ?c5 ?_))
            case c1 => simp
            case c2 => simp [Value.oneCell']
            case c3 => unfold maxLen; omega
            case c4 => omega
            case c5 => have := hgA.size; simp; omega
            intro v' w5 hown5 hgrow5 _
            have hgF : Grow w w5 := grown_ext (hgA.alloc _) hgrow5 (by intro k hk; simp [Value.ownBlock] at hk; subst hk; exact hgA.size)
            go_wp2_with fail
            go_ret2
            refine ⟨_, rfl, hgF, ?_⟩
            rw [Hff.out, Hs.out, Hst.out]
            exact MisR.row (x := x.names[k]) (p := p) (by simpa using hown5) (by intro y hy; rcases List.mem_cons.1 hy with rfl | hy; exact Hsz.out; exact hbig y hy)
    · go_wp2_with fail
      go_ret2
      exact ⟨_, rfl, hg0, by rw [Hff.out, Hs.out, misL_end n hlt]; exact MisR.none _ _⟩

theorem misfit_ok : ∀ x, MisOk x := Shp.ind' MisOk misfit_of

end Go.Proofs.Ytchiakeceiefdaa
