/-
  Texts of this claim, joined: Misfit, NCells, Append, Rep2, LawSz, Elm, MarkT, LawEq, EntLaw, EntMark, Entries, Compare, CompareW.
-/
import Derived.Laws.AppendOwn
import Derived.Laws.AppendOwnNone
import Derived.Laws.OwnMore
import Derived.Lib.Bytealg
import Derived.Test.YtchiakeceiefdaaPgB

/-
  Where a node does not fit a shape: the plain law and the walk of impl.misfit.
-/
namespace Go.Proofs.Ytchiakeceiefdaa
open Go.RowKit

mutual
/-- Where a node does not fit a shape. -/
def mis : Shp → Nd → Option (List ByteArray)
  | ⟨kind, names, needs, kids⟩, n => if kind = 0 then none else if kind ≠ n.kind then some [] else misL names needs kids n
def misL : List ByteArray → List Bool → List Shp → Nd → Option (List ByteArray)
  | nm :: ns, nd :: bs, k :: ks, n => if mem n.names nm then (match mis k (kidOf n nm) with | some p => some (nm :: p) | none => misL ns bs ks n) else if nd then some [nm] else misL ns bs ks n
  | _, _, _, _ => none
end
theorem mis_eq (x : Shp) (n : Nd) : mis x n = if x.kind = 0 then none else if x.kind ≠ n.kind then some [] else misL x.names x.needs x.kids n := by cases x; simp [mis]
theorem misL_step {ns : List ByteArray} {bs : List Bool} {ks : List Shp} (n : Nd) {k : Nat} (h1 : k < ns.length) (h2 : k < bs.length) (h3 : k < ks.length) :
    misL (ns.drop k) (bs.drop k) (ks.drop k) n = if mem n.names ns[k] then (match mis ks[k] (kidOf n ns[k]) with | some p => some (ns[k] :: p) | none => misL (ns.drop (k + 1)) (bs.drop (k + 1)) (ks.drop (k + 1)) n) else if bs[k] then some [ns[k]] else misL (ns.drop (k + 1)) (bs.drop (k + 1)) (ks.drop (k + 1)) n := by
  rw [drop_cons _ _ h1, drop_cons _ _ h2, drop_cons _ _ h3, misL]
theorem misL_end {ns : List ByteArray} {bs : List Bool} {ks : List Shp} (n : Nd) {k : Nat} (h1 : ¬ k < ns.length) : misL (ns.drop k) (bs.drop k) (ks.drop k) n = none := by
  rw [List.drop_eq_nil_of_le (by omega)]; simp [misL]

/-- The value of a list of texts and a truth value. -/
def MisR (w w' : World) (r : Option (List ByteArray)) (v : Value) : Prop :=
  ∃ a c fp, v = .tuple #[.slice a (r.getD []).length c, .bool r.isSome] ∧ StrsF w' a c (r.getD []) fp ∧ Free w.heap.size w' fp ∧ (r.getD [] = [] → a = none ∧ c = 0)

theorem MisR.grow {w w' w'' : World} {r : Option (List ByteArray)} {v : Value} (h : MisR w w' r v) (hg : Grow w' w'') : MisR w w'' r v := by
  obtain ⟨a, c, fp, hv, h1, h2, h3⟩ := h
  exact ⟨a, c, fp, hv, h1.keep (hg.keeps h2 (fun _ _ h => h)), h2.ext hg (fun _ _ h => h), h3⟩

theorem MisR.none (w w' : World) : MisR w w' .none (.tuple #[.slice .none 0 0, .bool false]) :=
  ⟨.none, 0, [], rfl, ⟨Nat.le_refl _, Nat.zero_le _, by simp, .inl ⟨rfl, rfl⟩⟩, Free.nil _ _, fun _ => ⟨rfl, rfl⟩⟩
theorem MisR.nil (w w' : World) : MisR w w' (some []) (.tuple #[.slice .none 0 0, .bool true]) :=
  ⟨.none, 0, [], rfl, ⟨Nat.le_refl _, Nat.zero_le _, by simp, .inl ⟨rfl, rfl⟩⟩, Free.nil _ _, fun _ => ⟨rfl, rfl⟩⟩

/-- What a list of one's own texts is. -/
theorem strs_of_row {w : World} {B : Nat} {T : TypeId} {v : Value} {n : Nat} {xs : List ByteArray} (h : w.ownsRow B T 1 v n (xs.map Value.string)) (hx : ∀ x ∈ xs, x.size ≤ big) :
    ∃ a c fp, v = .slice a xs.length c ∧ StrsF w a c xs fp ∧ Free B w fp ∧ (xs = [] → fp = []) := by
  obtain ⟨h1, h2⟩ := h
  have hn : n = xs.length := by simp at h1; omega
  subst hn
  rcases h2 with ⟨rfl, h0⟩ | ⟨g, cap, cur, rfl, hb, hg, hle, hcap, hcs, htake⟩
  · have : xs = [] := List.length_eq_zero_iff.1 h0
    subst this
    exact ⟨none, 0, [], rfl, ⟨Nat.le_refl _, Nat.zero_le _, by simp, .inl ⟨rfl, rfl⟩⟩, Free.nil _ _, fun _ => rfl⟩
  · have hlen : xs.length ≤ big := by unfold maxLen at hcap; unfold big; omega
    by_cases he : xs = []
    · subst he
      exact ⟨_, _, [], rfl, ⟨Nat.zero_le _, Nat.zero_le _, by simp, .inl ⟨rfl, rfl⟩⟩, Free.nil _ _, fun _ => rfl⟩
    · refine ⟨_, _, [g], rfl, ⟨hle, hlen, hx, .inr ⟨g, 0, he, rfl, rfl, fun i hi => ?_⟩⟩, ⟨by simp, fun b hb' => ?_⟩, fun h => absurd h he⟩
      · unfold World.cell?
        simp only [hg, Nat.zero_add]
        have : cur.toList[i]? = some (Value.string xs[i]) := by
          have h3 : (cur.toList.take (xs.length * 1))[i]? = some (Value.string xs[i]) := by rw [htake]; simp [hi]
          rw [List.getElem?_take] at h3
          rw [if_pos (by omega)] at h3
          exact h3
        rw [Array.getElem?_toList] at this
        simpa [World.frozen?] using this
      · simp at hb'
        subst hb'
        refine ⟨hb, (Array.getElem?_eq_some_iff.1 hg).1, fun o => ?_⟩
        unfold World.frozen?
        simp [hg]

theorem MisR.one (W w : World) (x : ByteArray) (T : TypeId) (b : Nat) (hb : b = w.heap.size) (h : W.heap.size ≤ w.heap.size) (hx : x.size ≤ big) :
    MisR W (w.alloc (.cells #[.string x] T)) (some [x]) (.tuple #[.slice (some ⟨b, 0, Option.none⟩) 1 1, .bool true]) := by
  subst hb
  refine ⟨_, _, [w.heap.size], rfl, ⟨Nat.le_refl _, by simp [big], by simpa using hx, .inr ⟨_, 0, by simp, rfl, rfl, fun i hi => ?_⟩⟩, ⟨by simp, fun b hb => ?_⟩, fun h => by simp at h⟩
  · simp at hi
    subst hi
    rw [World.cell?_alloc_new]; rfl
  · simp at hb
    subst hb
    exact ⟨h, by simp, fun o => World.frozen?_alloc_new w _ T o⟩

theorem addr_add (b o j : Nat) : (⟨b, o, Option.none⟩ : Addr).add j = ⟨b, o + j, Option.none⟩ := by unfold Addr.add; split <;> simp_all

theorem grown_ext {w w1 w2 : World} {row : Option Nat} (h : Grow w w1) (g : w1.grownBy w2 row) (hr : ∀ k, row = some k → w.heap.size ≤ k) : Grow w w2 :=
  ⟨g.os.trans h.os, g.tape.trans h.tape, g.output.trans h.output, Nat.le_trans h.size g.size, fun k hk _ => by
    rw [g.block k (Nat.lt_of_lt_of_le hk h.size) (fun e => by have := hr k e.symm; omega)]
    exact h.block k hk (fun h => h)⟩

/-- A row of cells that has just been laid. -/
theorem row_new (w : World) (B : Nat) (T : TypeId) (xs : List Value) (b : Nat) (hb : b = w.heap.size) (h : B ≤ w.heap.size) (hm : xs.length ≤ 1000) : (w.alloc (.cells xs.toArray T)).ownsRow B T 1 (.slice (some ⟨b, 0, Option.none⟩) xs.length xs.length) xs.length xs := by
  subst hb
  exact ⟨by simp, .inr ⟨_, _, xs.toArray, rfl, h, heap_alloc_new w _, Nat.le_refl _, by unfold maxLen; omega, by simp, by simp⟩⟩

theorem MisR.row {w w' : World} {T : TypeId} {v : Value} {n : Nat} {x : ByteArray} {p : List ByteArray} (h : w'.ownsRow w.heap.size T 1 v n ((x :: p).map Value.string)) (hx : ∀ y ∈ x :: p, y.size ≤ big) :
    MisR w w' (some (x :: p)) (.tuple #[v, .bool true]) := by
  obtain ⟨a, c, fp, hv, h1, h2, _⟩ := strs_of_row h hx
  exact ⟨a, c, fp, by rw [hv]; rfl, h1, h2, fun h => by simp at h⟩

theorem MisR.base {w0 w w' : World} {r : Option (List ByteArray)} {v : Value} (h : MisR w w' r v) (hs : w0.heap.size ≤ w.heap.size) : MisR w0 w' r v := by
  obtain ⟨a, c, fp, hv, h1, h2, h3⟩ := h
  exact ⟨a, c, fp, hv, h1, h2.mono hs, h3⟩

theorem misL_len (n : Nd) (d : Nat) : ∀ (ks : List Shp), (∀ k ∈ ks, ∀ m p, mis k m = some p → p.length ≤ d) → ∀ ns bs p, misL ns bs ks n = some p → p.length ≤ d + 1
  | [], _, ns, bs, p, h => by cases ns <;> cases bs <;> simp [misL] at h
  | k :: ks, hk, [], bs, p, h => by simp [misL] at h
  | k :: ks, hk, nm :: ns, [], p, h => by simp [misL] at h
  | k :: ks, hk, nm :: ns, nd :: bs, p, h => by
    rw [misL] at h
    by_cases hm : mem n.names nm = true
    · rw [if_pos hm] at h
      cases hx : mis k (kidOf n nm) with
      | none => rw [hx] at h; exact misL_len n d ks (fun k' hk' => hk k' (by simp [hk'])) ns bs p h
      | some q =>
        rw [hx] at h
        simp at h
        subst h
        have := hk k (by simp) _ _ hx
        simp; omega
    · rw [if_neg hm] at h
      by_cases hn : nd = true
      · rw [if_pos hn] at h; simp at h; subst h; simp
      · rw [if_neg hn] at h
        exact misL_len n d ks (fun k' hk' => hk k' (by simp [hk'])) ns bs p h

theorem mis_len : ∀ (d : Nat) (x : Shp) (n : Nd) (p : List ByteArray), shpB x d = true → mis x n = some p → p.length ≤ d
  | 0, x, n, p, h, _ => by rw [shpB_eq] at h; simp at h
  | d + 1, x, n, p, h, hp => by
    rw [shpB_eq, shpL_all] at h
    simp only [Bool.and_eq_true, List.all_eq_true, Nat.add_sub_cancel] at h
    rw [mis_eq] at hp
    by_cases h0 : x.kind = 0
    · simp [h0] at hp
    · rw [if_neg h0] at hp
      by_cases h1 : x.kind ≠ n.kind
      · rw [if_pos h1] at hp; simp at hp; subst hp; simp
      · rw [if_neg h1] at hp
        exact misL_len n d x.kids (fun k hk m q hq => mis_len d k m q (h.2 k hk) hq) _ _ _ hp

theorem GoodS.len {x : Shp} (h : GoodS x) {n : Nd} {p : List ByteArray} (hp : mis x n = some p) : p.length ≤ 5 := by
  obtain ⟨d, hd, h⟩ := h
  exact Nat.le_trans (mis_len d x n p h hp) hd

def MisOk (x : Shp) : Prop := ∀ (n : Nd) (v u : Value) (w : World), GoodS x → Good n → ShapeR w any x v → NodeR w any n u →
    Calls Try.prog 56 #[v, u] w fun e w' => ∃ r, e = .returned r ∧ Grow w w' ∧ MisR w w' (mis x n) r

set_option maxRecDepth 100000 in
set_option maxHeartbeats 8000000 in
theorem misfit_of (x : Shp) (ih : ∀ k ∈ x.kids, MisOk k) : MisOk x := by
  intro n v u w hx hg hn hu
  obtain ⟨na, nc, ba, bc, ka, kc, rfl, hc⟩ := hn
  obtain ⟨hns, hnb, hk1, hk2, hk3⟩ := hc.parts
  have Hu := Lib.hid hu
  obtain ⟨na2, nc2, ka2, kc2, rfl, hc2⟩ := hu
  obtain ⟨p1, p2, p3, p4, p5, p6⟩ := shpHead_parts hx.head
  have hl1 : x.names.length ≤ 6 := by
    simp only [areNamesB, Bool.and_eq_true, decide_eq_true_eq] at p3
    exact p3.1
  have hl2 : n.kids.length ≤ 6 := hg.kids6
  have Hns := Lib.hid hns
  have Hnb := Lib.hid hnb
  have Hk3 := Lib.hid hk3
  have Ih := Lib.hid ih
  have Hg := Lib.hid hg
  have Hx := Lib.hid hx
  have P4 := Lib.hid p4
  have P5 := Lib.hid p5
  have Hf := Lib.hid (mis_eq x n)
  clear hc hns hnb hk1 hk2 hk3 ih hc2 hx hg p3 p4 p5 p6
  unfold shapeV
  unfold nodeV at *
  by_cases h0 : x.kind = 0
  · have b1 : (x.kind == 0) = true := by simpa using h0
    have Hff : Hid (mis x n = none) := Lib.hid (by rw [Hf.out, if_pos h0])
    clear h0
    go_enter Try.func56, Try.ntmps56
    go_wp2_with fail
    go_ret2
    exact ⟨_, rfl, (by repeat (first | with_reducible exact Ext.refl _ _ | with_reducible refine Ext.trans ?_ (by assumption) | with_reducible refine Ext.drew ?_ | with_reducible refine Ext.drewN ?_ _ | with_reducible refine Ext.alloc ?_ _ | with_reducible refine Ext.setNew ?_ (by simp; done) _ | with_reducible refine Ext.setNew ?_ (by simp; omega) _)), by rw [Hff.out]; exact MisR.none _ _⟩
  have b1 : (x.kind == 0) = false := by simpa using h0
  by_cases h1 : x.kind ≠ n.kind
  · have b2 : (x.kind != n.kind) = true := by simpa using h1
    have Hff : Hid (mis x n = some []) := Lib.hid (by rw [Hf.out, if_neg h0, if_pos h1])
    clear h0 h1
    go_enter Try.func56, Try.ntmps56
    go_wp2_with fail
    go_ret2
    exact ⟨_, rfl, (by repeat (first | with_reducible exact Ext.refl _ _ | with_reducible refine Ext.trans ?_ (by assumption) | with_reducible refine Ext.drew ?_ | with_reducible refine Ext.drewN ?_ _ | with_reducible refine Ext.alloc ?_ _ | with_reducible refine Ext.setNew ?_ (by simp; done) _ | with_reducible refine Ext.setNew ?_ (by simp; omega) _)), by rw [Hff.out]; exact MisR.nil _ _⟩
  have b2 : (x.kind != n.kind) = false := by simpa using h1
  have Hff : Hid (mis x n = misL x.names x.needs x.kids n) := Lib.hid (by rw [Hf.out, if_neg h0, if_neg h1])
  clear h0 h1
  go_enter Try.func56, Try.ntmps56
  go_wp2_with fail
  go_loopw [4, 5, 23] (fun t4 t5 i wr => t4 = .slice none 0 0 ∧ t5 = .bool false ∧ Grow w wr ∧ BoxN wr w.heap.size (shapeL' x na nc ba bc ka kc) ∧ BoxN wr (w.heap.size + 1) (nodeL n na2 nc2 ka2 kc2) ∧ ∃ k : Nat, k ≤ x.names.length ∧ i = .int .i64 k ∧ misL x.names x.needs x.kids n = misL (x.names.drop k) (x.needs.drop k) (x.kids.drop k) n) (fun _ _ i _ => x.names.length - (intOf i).toNat)
  case atStart => exact ⟨rfl, rfl, (by repeat (first | with_reducible exact Ext.refl _ _ | with_reducible refine Ext.trans ?_ (by assumption) | with_reducible refine Ext.drew ?_ | with_reducible refine Ext.drewN ?_ _ | with_reducible refine Ext.alloc ?_ _ | with_reducible refine Ext.setNew ?_ (by simp; done) _ | with_reducible refine Ext.setNew ?_ (by simp; omega) _)), (BoxN.new w (shapeL' x na nc ba bc ka kc) _).grow ((Ext.refl nil _).alloc _), BoxN.new1 w _ (nodeL n na2 nc2 ka2 kc2) _, 0, Nat.zero_le _, rfl, rfl⟩
  case round =>
    obtain ⟨rfl, rfl, hg0, B1, B2, k, hk, rfl, hs⟩ := hrel
    have Hs := Lib.hid hs
    clear hs
    have q2 := B1.cell 2 _ rfl
    have q3 := B1.cell 3 _ rfl
    have r0 := B2.cell 0 _ rfl
    have r1 := B2.cell 1 _ rfl
    have r2 := B2.cell 2 _ rfl
    have r3 := B2.cell 3 _ rfl
    have r4 := B2.cell 4 _ rfl
    have HB1 := Lib.hid B1
    have HB2 := Lib.hid B2
    clear B1 B2
    by_cases hlt : k < x.names.length
    · have hlb : k < x.needs.length := by have := P4.out; omega
      have hlk : k < x.kids.length := by have := P5.out; omega
      have hst := misL_step (ns := x.names) (bs := x.needs) (ks := x.kids) n hlt hlb hlk
      have HA := Lib.hid Hg.out.asc
      have HL := Hg.out.len
      rcases ((Hns.out).ext hg0 (fun _ _ h => h)).2.2.2 with hh | ⟨b1, o1, rfl, _, hc1⟩
      · rw [hh] at hlt; simp at hlt
      rcases ((Hnb.out).ext hg0 (fun _ _ h => h)).2.2 with hh | ⟨b2, o2, rfl, _, hc2⟩
      · rw [hh] at hlb; simp at hlb
      rcases Hk3.out with hh | ⟨b3, o3, rfl, _, hkr⟩
      · rw [hh] at hlk; simp at hlk
      have cn := hc1 k hlt
      have cb := hc2 k hlb
      have hsz := ((Hns.out).ext hg0 (fun _ _ h => h)).2.2.1 _ (List.getElem_mem hlt)
      obtain ⟨na', nc', ba', bc', ka', kc', d0, d1, d2, d3, hkc⟩ := (hkr.ext hg0 (fun _ _ h => h) (fun h => h)).get k hlk
      have Hkc : Hid (ShapeR wr any x.kids[k] (shapeV x.kids[k] na' nc' ba' bc' ka' kc')) := Lib.hid ⟨_, _, _, _, _, _, rfl, hkc⟩
      have Hsz := Lib.hid hsz
      cases hm : mem n.names x.names[k]
      · rw [hm] at hst
        have Hm := Lib.hid hm
        cases hb : x.needs[k]
        · rw [hb] at cb hst
          have Hst : Hid (misL (x.names.drop k) (x.needs.drop k) (x.kids.drop k) n = misL (x.names.drop (k + 1)) (x.needs.drop (k + 1)) (x.kids.drop (k + 1)) n) := Lib.hid (by rw [hst]; rfl)
          clear hst hm hb hkc hkr hc1 hc2 hsz
          go_wp2_with fail
          refine (nameIn_ok n x.names[k] _ _ HA.out HL (by omega) (Hu.out.grow hg0)).mono ?_
          rintro e w2 ⟨v', rfl, hg_w2, hr2⟩
          obtain ⟨na5, nc5, ka5, kc5, rfl, hc5⟩ := hr2
          clear hc5
          simp only [Hm.out]
          (replace q2 := hg_w2.some q2; replace q3 := hg_w2.some q3; replace r0 := hg_w2.some r0; replace r1 := hg_w2.some r1; replace r2 := hg_w2.some r2; replace r3 := hg_w2.some r3; replace r4 := hg_w2.some r4; replace cn := hg_w2.some cn; replace cb := hg_w2.some cb; replace d0 := hg_w2.some d0; replace d1 := hg_w2.some d1; replace d2 := hg_w2.some d2; replace d3 := hg_w2.some d3)
          have z0 : w.heap.size < w2.heap.size := lt_of_cell q2
          have z1 : w.heap.size + 1 < w2.heap.size := lt_of_cell r0
          have z2 : b2 < w2.heap.size := lt_of_cell cb
          have z3 : b3 < w2.heap.size := lt_of_cell d0
          unfold nodeV
          go_wp2_with fail
          go_roundw
          case rel => exact ⟨rfl, rfl, (by repeat (first | with_reducible exact Ext.refl _ _ | with_reducible refine Ext.trans ?_ (by assumption) | with_reducible refine Ext.drew ?_ | with_reducible refine Ext.drewN ?_ _ | with_reducible refine Ext.alloc ?_ _ | with_reducible refine Ext.setNew ?_ (by simp; done) _ | with_reducible refine Ext.setNew ?_ (by simp; omega) _)), HB1.out.grow (by repeat (first | with_reducible exact Ext.refl _ _ | with_reducible refine Ext.trans ?_ (by assumption) | with_reducible refine Ext.drew ?_ | with_reducible refine Ext.drewN ?_ _ | with_reducible refine Ext.alloc ?_ _ | with_reducible refine Ext.setNew ?_ (by simp; done) _ | with_reducible refine Ext.setNew ?_ (by simp; omega) _)), HB2.out.grow (by repeat (first | with_reducible exact Ext.refl _ _ | with_reducible refine Ext.trans ?_ (by assumption) | with_reducible refine Ext.drew ?_ | with_reducible refine Ext.drewN ?_ _ | with_reducible refine Ext.alloc ?_ _ | with_reducible refine Ext.setNew ?_ (by simp; done) _ | with_reducible refine Ext.setNew ?_ (by simp; omega) _)), k + 1, by omega, by go_num, by rw [Hs.out, Hst.out]⟩
          case measure => simp [intOf]; omega
        · rw [hb] at cb hst
          have Hst : Hid (misL (x.names.drop k) (x.needs.drop k) (x.kids.drop k) n = some [x.names[k]]) := Lib.hid (by rw [hst]; rfl)
          clear hst hm hb hkc hkr hc1 hc2 hsz
          go_wp2_with fail
          refine (nameIn_ok n x.names[k] _ _ HA.out HL (by omega) (Hu.out.grow hg0)).mono ?_
          rintro e w2 ⟨v', rfl, hg_w2, hr2⟩
          obtain ⟨na5, nc5, ka5, kc5, rfl, hc5⟩ := hr2
          clear hc5
          simp only [Hm.out]
          (replace q2 := hg_w2.some q2; replace q3 := hg_w2.some q3; replace r0 := hg_w2.some r0; replace r1 := hg_w2.some r1; replace r2 := hg_w2.some r2; replace r3 := hg_w2.some r3; replace r4 := hg_w2.some r4; replace cn := hg_w2.some cn; replace cb := hg_w2.some cb; replace d0 := hg_w2.some d0; replace d1 := hg_w2.some d1; replace d2 := hg_w2.some d2; replace d3 := hg_w2.some d3)
          have z0 : w.heap.size < w2.heap.size := lt_of_cell q2
          have z1 : w.heap.size + 1 < w2.heap.size := lt_of_cell r0
          have z2 : b2 < w2.heap.size := lt_of_cell cb
          have z3 : b3 < w2.heap.size := lt_of_cell d0
          unfold nodeV
          go_wp2_with fail
          go_ret2
          refine ⟨_, rfl, (by repeat (first | with_reducible exact Ext.refl _ _ | with_reducible refine Ext.trans ?_ (by assumption) | with_reducible refine Ext.drew ?_ | with_reducible refine Ext.drewN ?_ _ | with_reducible refine Ext.alloc ?_ _ | with_reducible refine Ext.setNew ?_ (by simp; done) _ | with_reducible refine Ext.setNew ?_ (by simp; omega) _)), ?_⟩
          rw [Hff.out, Hs.out, Hst.out]
          exact MisR.one _ _ _ _ _ (by simp) (by have := hg0.size; have := hg_w2.size; simp; omega) Hsz.out
      · rw [hm] at hst
        have Hm := Lib.hid hm
        have HG : Hid (Good (kidOf n x.names[k])) := Lib.hid (Hg.out.kidOf _)
        clear hm hkc hkr hc1 hc2 hsz
        go_wp2_with fail
        refine (nameIn_ok n x.names[k] _ _ HA.out HL (by omega) (Hu.out.grow hg0)).mono ?_
        rintro e w2 ⟨v', rfl, hg_w2, hr2⟩
        have Hr2 := Lib.hid hr2
        obtain ⟨na5, nc5, ka5, kc5, rfl, hc5⟩ := hr2
        clear hc5
        simp only [Hm.out]
        (replace q2 := hg_w2.some q2; replace q3 := hg_w2.some q3; replace r0 := hg_w2.some r0; replace r1 := hg_w2.some r1; replace r2 := hg_w2.some r2; replace r3 := hg_w2.some r3; replace r4 := hg_w2.some r4; replace cn := hg_w2.some cn; replace cb := hg_w2.some cb; replace d0 := hg_w2.some d0; replace d1 := hg_w2.some d1; replace d2 := hg_w2.some d2; replace d3 := hg_w2.some d3)
        have z0 : w.heap.size < w2.heap.size := lt_of_cell q2
        have z1 : w.heap.size + 1 < w2.heap.size := lt_of_cell r0
        have z2 : b2 < w2.heap.size := lt_of_cell cb
        have z3 : b3 < w2.heap.size := lt_of_cell d0
        generalize hmm : kidOf n x.names[k] = m at *
        have Hmm := Lib.hid hmm
        clear hmm
        have hgk : GoodS x.kids[k] := Hx.out.kid (List.getElem_mem hlk)
        have Hgk := Lib.hid hgk
        cases hmis : mis x.kids[k] m with
        | none =>
          rw [hmis] at hst
          have Hst : Hid (misL (x.names.drop k) (x.needs.drop k) (x.kids.drop k) n = misL (x.names.drop (k + 1)) (x.needs.drop (k + 1)) (x.kids.drop (k + 1)) n) := Lib.hid (by rw [hst]; rfl)
          have Hmis := Lib.hid hmis
          clear hst hmis hgk
          unfold nodeV
          go_wp2_with fail
          obtain ⟨w3, hw3, hg_w3, B3⟩ : ∃ w3, w2.alloc (.cells #[.int .i64 m.kind, .int .i64 m.num, .string m.text, .slice na5 m.names.length nc5, .slice ka5 m.kids.length kc5] 30) = w3 ∧ Grow w2 w3 ∧ BoxN w3 w2.heap.size (nodeL m na5 nc5 ka5 kc5) := ⟨_, rfl, (Ext.refl nil w2).alloc _, BoxN.new w2 (nodeL m na5 nc5 ka5 kc5) _⟩
          rw [hw3]
          clear hw3
          (replace q3 := hg_w3.some q3; replace d0 := hg_w3.some d0; replace d1 := hg_w3.some d1; replace d2 := hg_w3.some d2; replace d3 := hg_w3.some d3)
          have p0 := B3.cell 0 _ rfl
          have p1 := B3.cell 1 _ rfl
          have p2 := B3.cell 2 _ rfl
          have p3 := B3.cell 3 _ rfl
          have p4 := B3.cell 4 _ rfl
          clear B3 q2 r0 r1 r2 r3 r4 cn cb
          refine wp_region_stab Grow (fun i => if i = 6 then some (fun v w' => MisR w3 w' (mis x.kids[k] m) v) else none) (by kernel_rfl) (by kernel_rfl) ⟨Ext.refl nil, fun _ _ h1 h2 => h2.trans h1, ?_⟩ ?_
          · intro i V hV v w1 w2 hr hv
            by_cases h2 : i = 6
            · simp only [h2, if_true, Option.some.injEq] at hV; subst hV; exact hv.grow hr
            · simp [h2] at hV
          (refine wpStab_quiet (by kernel_rfl) (by kernel_rfl) (by simp) ?_; intro K hK; go_big_quiet_op; go_big_quiet_on)
          (refine wpStab_quiet (by kernel_rfl) (by kernel_rfl) (by simp) ?_; intro K hK; go_big_quiet_op; go_big_quiet_on)
          (refine wpStab_quiet (by kernel_rfl) (by kernel_rfl) (by simp) ?_; intro K hK; go_big_quiet_op; go_big_quiet_on)
          (refine wpStab_quiet (by kernel_rfl) (by kernel_rfl) (by simp) ?_; intro K hK; go_big_quiet_op; go_big_quiet_on)
          (refine wpStab_quiet (by kernel_rfl) (by kernel_rfl) (by simp) ?_; intro K hK; go_big_quiet_op; go_big_quiet_on)
          (refine wpStab_quiet (by kernel_rfl) (by kernel_rfl) (by simp) ?_; intro K hK; go_big_quiet_op; go_big_quiet_on)
          refine wpStab_made' (fun v w' => MisR w3 w' (mis x.kids[k] m) v) ?_ ?_ ?_ ?_
          · go_simp
          · simp
          · intro y _
            refine stabAt_call (f := 56) (args := #[shapeV x.kids[k] na' nc' ba' bc' ka' kc', nodeV m na5 nc5 ka5 kc5]) ?_ ?_
            · unfold shapeV nodeV; go_simp
            · refine (Ih.out _ (List.getElem_mem hlk) m _ _ _ Hgk.out HG.out (Hkc.out.grow ((hg_w2.trans hg_w3).trans (later_grow _ _))) (Hr2.out.grow (hg_w3.trans (later_grow _ _)))).mono ?_
              rintro e w' ⟨r, rfl, hg, hr⟩
              exact ⟨r, rfl, hg, hr.base (later_grow _ _).size⟩
          rintro v ⟨y, a, c, fp, rfl, _, _, _⟩
          simp only [Hmis.out]
          go_frame
          (refine wpStab_quiet (by kernel_rfl) (by kernel_rfl) (by simp) ?_; intro K hK; go_big_quiet_op; go_big_quiet_on)
          (refine wpStab_quiet (by kernel_rfl) (by kernel_rfl) (by simp) ?_; intro K hK; go_big_quiet_op; go_big_quiet_on)
          (refine wpStab_quiet (by kernel_rfl) (by kernel_rfl) (by simp) ?_; intro K hK; go_big_quiet_op; go_big_quiet_on)
          (refine wpStab_quiet (by kernel_rfl) (by kernel_rfl) (by simp) ?_; intro K hK; go_big_quiet_op; go_big_quiet_on)
          (refine wpStab_quiet (by kernel_rfl) (by kernel_rfl) (by simp) ?_; intro K hK; go_big_quiet_op; go_big_quiet_on)
          refine wpStab_end' ?_
          intro w4 hg_w4 hE
          clear hE
          have hgA : Grow w w4 := ((hg0.trans hg_w2).trans hg_w3).trans hg_w4
          go_wp2_with fail
          go_roundw
          case rel => exact ⟨rfl, rfl, hgA, HB1.out.grow ((hg_w2.trans hg_w3).trans hg_w4), HB2.out.grow ((hg_w2.trans hg_w3).trans hg_w4), k + 1, by omega, by go_num, by rw [Hs.out, Hst.out]⟩
          case measure => simp [intOf]; omega
        | some p =>
          rw [hmis] at hst
          have hp5 := hgk.len hmis
          have Hst : Hid (misL (x.names.drop k) (x.needs.drop k) (x.kids.drop k) n = some (x.names[k] :: p)) := Lib.hid (by rw [hst]; rfl)
          have Hmis := Lib.hid hmis
          clear hst hmis hgk
          unfold nodeV
          go_wp2_with fail
          obtain ⟨w3, hw3, hg_w3, B3⟩ : ∃ w3, w2.alloc (.cells #[.int .i64 m.kind, .int .i64 m.num, .string m.text, .slice na5 m.names.length nc5, .slice ka5 m.kids.length kc5] 30) = w3 ∧ Grow w2 w3 ∧ BoxN w3 w2.heap.size (nodeL m na5 nc5 ka5 kc5) := ⟨_, rfl, (Ext.refl nil w2).alloc _, BoxN.new w2 (nodeL m na5 nc5 ka5 kc5) _⟩
          rw [hw3]
          clear hw3
          (replace q3 := hg_w3.some q3; replace d0 := hg_w3.some d0; replace d1 := hg_w3.some d1; replace d2 := hg_w3.some d2; replace d3 := hg_w3.some d3)
          have p0 := B3.cell 0 _ rfl
          have p1 := B3.cell 1 _ rfl
          have p2 := B3.cell 2 _ rfl
          have p3 := B3.cell 3 _ rfl
          have p4 := B3.cell 4 _ rfl
          clear B3 q2 r0 r1 r2 r3 r4 cn cb
          refine wp_region_stab Grow (fun i => if i = 6 then some (fun v w' => MisR w3 w' (mis x.kids[k] m) v) else none) (by kernel_rfl) (by kernel_rfl) ⟨Ext.refl nil, fun _ _ h1 h2 => h2.trans h1, ?_⟩ ?_
          · intro i V hV v w1 w2 hr hv
            by_cases h2 : i = 6
            · simp only [h2, if_true, Option.some.injEq] at hV; subst hV; exact hv.grow hr
            · simp [h2] at hV
          (refine wpStab_quiet (by kernel_rfl) (by kernel_rfl) (by simp) ?_; intro K hK; go_big_quiet_op; go_big_quiet_on)
          (refine wpStab_quiet (by kernel_rfl) (by kernel_rfl) (by simp) ?_; intro K hK; go_big_quiet_op; go_big_quiet_on)
          (refine wpStab_quiet (by kernel_rfl) (by kernel_rfl) (by simp) ?_; intro K hK; go_big_quiet_op; go_big_quiet_on)
          (refine wpStab_quiet (by kernel_rfl) (by kernel_rfl) (by simp) ?_; intro K hK; go_big_quiet_op; go_big_quiet_on)
          (refine wpStab_quiet (by kernel_rfl) (by kernel_rfl) (by simp) ?_; intro K hK; go_big_quiet_op; go_big_quiet_on)
          (refine wpStab_quiet (by kernel_rfl) (by kernel_rfl) (by simp) ?_; intro K hK; go_big_quiet_op; go_big_quiet_on)
          refine wpStab_made' (fun v w' => MisR w3 w' (mis x.kids[k] m) v) ?_ ?_ ?_ ?_
          · go_simp
          · simp
          · intro y _
            refine stabAt_call (f := 56) (args := #[shapeV x.kids[k] na' nc' ba' bc' ka' kc', nodeV m na5 nc5 ka5 kc5]) ?_ ?_
            · unfold shapeV nodeV; go_simp
            · refine (Ih.out _ (List.getElem_mem hlk) m _ _ _ Hgk.out HG.out (Hkc.out.grow ((hg_w2.trans hg_w3).trans (later_grow _ _))) (Hr2.out.grow (hg_w3.trans (later_grow _ _)))).mono ?_
              rintro e w' ⟨r, rfl, hg, hr⟩
              exact ⟨r, rfl, hg, hr.base (later_grow _ _).size⟩
          rintro v ⟨y, a, c, fp, rfl, _, _, _⟩
          simp only [Hmis.out]
          go_frame
          (refine wpStab_quiet (by kernel_rfl) (by kernel_rfl) (by simp) ?_; intro K hK; go_big_quiet_op; go_big_quiet_on)
          (refine wpStab_quiet (by kernel_rfl) (by kernel_rfl) (by simp) ?_; intro K hK; go_big_quiet_op; go_big_quiet_on)
          (refine wpStab_quiet (by kernel_rfl) (by kernel_rfl) (by simp) ?_; intro K hK; go_big_quiet_op; go_big_quiet_on)
          (refine wpStab_quiet (by kernel_rfl) (by kernel_rfl) (by simp) ?_; intro K hK; go_big_quiet_op; go_big_quiet_on)
          (refine wpStab_quiet (by kernel_rfl) (by kernel_rfl) (by simp) ?_; intro K hK; go_big_quiet_op; go_big_quiet_on)
          refine wpStab_end' ?_
          intro w4 hg_w4 hE
          obtain ⟨a', c', fp, hv, h1, h2, h3⟩ := (hE 6).2 rfl
          clear hE
          simp only [Option.getD_some, Value.tuple.injEq] at hv
          obtain ⟨rfl, rfl⟩ : a = a' ∧ c = c' := by
            have := congrArg (fun l : Array Value => l[0]?) hv
            simpa using this
          have hgA : Grow w w4 := ((hg0.trans hg_w2).trans hg_w3).trans hg_w4
          clear hv
          simp only [Option.getD_some] at h1 h2 h3 ⊢
          have H1 := Lib.hid h1
          have H2 := Lib.hid h2
          clear h2
          obtain ⟨i0, hi, hz0, hz1, hz2⟩ := info_parts info_string
          by_cases hp : p = []
          · obtain ⟨rfl, rfl⟩ := h3 hp
            subst hp
            go_wp2_with (at_builtin; refine wpList_append_own_none rfl _ _ 23 rfl w.heap.size 9 i0 1 Try.underlying23 hi (.slice (some ⟨w4.heap.size, 0, Option.none⟩) 1 1) 1 [.string x.names[k]] rfl (row_new w4 w.heap.size _ [.string x.names[k]] _ rfl hgA.size (by simp)) rfl ?_)
            go_ret2
            refine ⟨_, rfl, hgA.alloc _, ?_⟩
            rw [Hff.out, Hs.out, Hst.out]
            exact MisR.row (x := x.names[k]) (p := []) (row_new w4 w.heap.size _ [.string x.names[k]] _ rfl hgA.size (by simp)) (by simpa using Hsz.out)
          · obtain ⟨hle, hlen, hbig, hcc⟩ := h1
            rcases hcc with ⟨hcc, _⟩ | ⟨pb, po, _, rfl, rfl, hcc⟩
            · exact absurd hcc hp
            clear h3 hp
            have hcc' : ∀ j u, (p.map Value.string)[j]? = some u → (w4.alloc (.cells #[.string x.names[k]] 9)).cell? ((⟨pb, po, Option.none⟩ : Addr).add j) = some u := by
              intro j u hu
              rw [List.getElem?_map] at hu
              rcases Nat.lt_or_ge j p.length with hj | hj
              · rw [List.getElem?_eq_getElem hj] at hu
                simp at hu
                subst hu
                rw [addr_add]
                exact Grow.some ((Ext.refl nil w4).alloc _) (hcc j hj)
              · rw [List.getElem?_eq_none hj] at hu; simp at hu
            have HC := Lib.hid hcc'
            clear hcc hcc'
            go_wp2_with (at_builtin; (refine wpList_append_own _ rfl _ _ 23 rfl w.heap.size 9 i0 (.string ⟨#[]⟩) 1 16 Try.underlying23 hi hz0 hz1 hz2 rfl (by decide) (.slice (some ⟨w4.heap.size, 0, Option.none⟩) 1 1) 1 [.string x.names[k]] rfl (row_new w4 w.heap.size _ [.string x.names[k]] _ rfl hgA.size (by simp)) ⟨pb, po, Option.none⟩ p.length c (p.map Value.string) rfl ?c1 HC.out ?c2 ?c3 ?c4 ?c5 ?_))
            case c1 => simp
            case c2 => simp [Value.oneCell']
            case c3 => unfold maxLen; omega
            case c4 => omega
            case c5 => have := hgA.size; simp; omega
            intro v' w5 hown5 hgrow5 _
            have hgF : Grow w w5 := grown_ext (hgA.alloc _) hgrow5 (by intro k hk; simp [Value.ownBlock] at hk; subst hk; exact hgA.size)
            go_wp2_with fail
            go_ret2
            refine ⟨_, rfl, hgF, ?_⟩
            rw [Hff.out, Hs.out, Hst.out]
            exact MisR.row (x := x.names[k]) (p := p) (by simpa using hown5) (by intro y hy; rcases List.mem_cons.1 hy with rfl | hy; exact Hsz.out; exact hbig y hy)
    · go_wp2_with fail
      go_ret2
      exact ⟨_, rfl, hg0, by rw [Hff.out, Hs.out, misL_end n hlt]; exact MisR.none _ _⟩

theorem misfit_ok : ∀ x, MisOk x := Shp.ind' MisOk misfit_of

end Go.Proofs.Ytchiakeceiefdaa

/-
  Rows of nodes that a call appends to: their cells, and how they read as slices of nodes.
-/
namespace Go.Proofs.Ytchiakeceiefdaa
open Go Go.RowKit

/-- The cells of nodes, one behind the other. -/
def NCells (w : World) (S : Nat → Prop) : List Nd → List Value → Prop
  | [], cs => cs = []
  | n :: l, cs => ∃ na nc ka kc cs', cs = nodeL n na nc ka kc ++ cs' ∧ NodeC w S n na nc ka kc ∧ NCells w S l cs'

theorem NCells.len {w : World} {S : Nat → Prop} : ∀ {l : List Nd} {cs : List Value}, NCells w S l cs → cs.length = l.length * 5
  | [], cs, h => by cases h; rfl
  | n :: l, cs, h => by
    obtain ⟨na, nc, ka, kc, cs', rfl, _, h⟩ := h
    rw [List.length_append, NCells.len h]; simp [nodeL, Nat.succ_mul]; omega
theorem NCells.append {w : World} {S : Nat → Prop} : ∀ {l m : List Nd} {cs ds : List Value}, NCells w S l cs → NCells w S m ds → NCells w S (l ++ m) (cs ++ ds)
  | [], m, cs, ds, h, k => by cases h; exact k
  | n :: l, m, cs, ds, h, k => by
    obtain ⟨na, nc, ka, kc, cs', rfl, hn, h⟩ := h
    exact ⟨na, nc, ka, kc, cs' ++ ds, by simp, hn, NCells.append h k⟩
theorem NCells.ext {X S : Nat → Prop} {w w' : World} (he : Ext X w w') (hS : ∀ k, S k → ¬ X k) : ∀ {l : List Nd} {cs : List Value}, NCells w S l cs → NCells w' S l cs
  | [], cs, h => h
  | n :: l, cs, h => by
    obtain ⟨na, nc, ka, kc, cs', rfl, hn, h⟩ := h
    exact ⟨na, nc, ka, kc, cs', rfl, hn.ext he hS, NCells.ext he hS h⟩
theorem NCells.mono {S T : Nat → Prop} {w : World} (hS : ∀ k, S k → T k) : ∀ {l : List Nd} {cs : List Value}, NCells w S l cs → NCells w T l cs
  | [], cs, h => h
  | n :: l, cs, h => by
    obtain ⟨na, nc, ka, kc, cs', rfl, hn, h⟩ := h
    exact ⟨na, nc, ka, kc, cs', rfl, hn.mono hS, NCells.mono hS h⟩
theorem NCells.one {w : World} {S : Nat → Prop} {n : Nd} {na : Option Addr} {nc : Nat} {ka : Option Addr} {kc : Nat} (h : NodeC w S n na nc ka kc) : NCells w S [n] (nodeL n na nc ka kc) :=
  ⟨na, nc, ka, kc, [], by simp, h, rfl⟩
theorem NCells.cell1 {w : World} {S : Nat → Prop} : ∀ {l : List Nd} {cs : List Value}, NCells w S l cs → ∀ u ∈ cs, u.oneCell' = true
  | [], cs, h, u, hu => by cases h; cases hu
  | n :: l, cs, h, u, hu => by
    obtain ⟨na, nc, ka, kc, cs', rfl, _, h⟩ := h
    rcases List.mem_append.1 hu with hu | hu
    · simp [nodeL] at hu
      rcases hu with rfl | rfl | rfl | rfl | rfl <;> simp [Value.oneCell']
    · exact NCells.cell1 h u hu

/-- What lies in a row reads as nodes. -/
theorem NCells.kids {w : World} {S : Nat → Prop} {b : Nat} : ∀ {l : List Nd} {cs : List Value} {o : Nat}, NCells w S l cs → (∀ i v, cs[i]? = some v → w.cell? ⟨b, o + i, none⟩ = some v) → KidsR w S b o l
  | [], _, _, _, _ => by unfold KidsR; trivial
  | n :: l, cs, o, h, hc => by
    obtain ⟨na, nc, ka, kc, cs', rfl, hn, h⟩ := h
    unfold KidsR
    refine ⟨⟨na, nc, ka, kc, hc 0 _ rfl, hc 1 _ rfl, hc 2 _ rfl, hc 3 _ rfl, hc 4 _ rfl, hn⟩, NCells.kids h (fun i v hi => ?_)⟩
    have := hc (5 + i) v (by rw [List.getElem?_append_right (by simp [nodeL])]; simpa [nodeL] using hi)
    rw [show o + (5 + i) = o + 5 + i by omega] at this
    exact this

/-- Nodes that are read are a row's cells. -/
theorem KidsR.cells {w : World} {S : Nat → Prop} {b : Nat} : ∀ {l : List Nd} {o : Nat}, KidsR w S b o l → ∃ cs, NCells w S l cs ∧ ∀ i v, cs[i]? = some v → w.cell? ⟨b, o + i, none⟩ = some v
  | [], _, _ => ⟨[], rfl, fun i v h => by simp at h⟩
  | n :: l, o, h => by
    unfold KidsR at h
    obtain ⟨⟨na, nc, ka, kc, c0, c1, c2, c3, c4, hn⟩, hr⟩ := h
    obtain ⟨cs, h1, h2⟩ := hr.cells
    refine ⟨nodeL n na nc ka kc ++ cs, ⟨na, nc, ka, kc, cs, rfl, hn, h1⟩, fun i v hi => ?_⟩
    match i, hi with
    | 0, hi => simp [nodeL] at hi; subst hi; exact c0
    | 1, hi => simp [nodeL] at hi; subst hi; exact c1
    | 2, hi => simp [nodeL] at hi; subst hi; exact c2
    | 3, hi => simp [nodeL] at hi; subst hi; exact c3
    | 4, hi => simp [nodeL] at hi; subst hi; exact c4
    | i + 5, hi =>
      have := h2 i v (by simpa [nodeL] using hi)
      rw [show o + (i + 5) = o + 5 + i by omega]
      exact this

theorem row_cells {w : World} {T : TypeId} {size : Nat} {g n : Nat} {cur : Array Value} {xs : List Value} (hg : w.heap[g]? = some (.cells cur T (0, 0))) (htake : cur.toList.take (n * size) = xs) :
    ∀ i v, xs[i]? = some v → w.cell? ⟨g, 0 + i, none⟩ = some v := by
  intro i v hi
  rw [← htake, List.getElem?_take] at hi
  split at hi
  · rw [Array.getElem?_toList] at hi
    rw [Nat.zero_add]
    unfold World.cell?
    simp [hg, hi]
  · cases hi

/-- A row of one's own reads as a slice of nodes. -/
theorem nodes_of_row {w : World} {B : Nat} {T : TypeId} {v : Value} {n : Nat} {l : List Nd} {cs : List Value} {S : Nat → Prop} (h : w.ownsRow B T 5 v n cs) (hn : NCells w S l cs) (hS : ∀ k, B ≤ k → S k) :
    ∃ a c, v = .slice a l.length c ∧ NodesR w S a c l := by
  obtain ⟨h1, h2⟩ := h
  have hlen : n = l.length := by have := hn.len; omega
  subst hlen
  rcases h2 with ⟨rfl, h0⟩ | ⟨g, cap, cur, rfl, hb, hg, hle, hcap, hcs, htake⟩
  · have : l = [] := List.length_eq_zero_iff.1 h0
    subst this
    exact ⟨none, 0, rfl, Nat.le_refl _, Nat.zero_le _, .inl rfl⟩
  · have hlen : l.length ≤ big := by unfold maxLen at hcap; unfold big; omega
    exact ⟨_, _, rfl, hle, hlen, .inr ⟨g, 0, rfl, hS g hb, hn.kids (row_cells hg htake)⟩⟩

theorem strs_of_row' {w : World} {B : Nat} {T : TypeId} {v : Value} {n : Nat} {xs : List ByteArray} {S : Nat → Prop} (h : w.ownsRow B T 1 v n (xs.map Value.string)) (hx : ∀ x ∈ xs, x.size ≤ big) (hS : ∀ k, B ≤ k → S k) :
    ∃ a c, v = .slice a xs.length c ∧ StrsR w S a c xs := by
  obtain ⟨a, c, fp, hv, hF, hfr, _⟩ := strs_of_row h hx
  exact ⟨a, c, hv, hF.toR (fun b hb => hS b (hfr.2 b hb).1)⟩

end Go.Proofs.Ytchiakeceiefdaa

/-
  append to a row of the call's own: the row stays where it was, or lies in a new block.
-/
namespace Go.Proofs.Ytchiakeceiefdaa
open Go Go.RowKit

theorem grownBy_of_grow {w w' : World} (h : Grow w w') : w.grownBy w' none := ⟨h.os, h.tape, h.output, h.size, fun k hk _ => h.block k hk (fun h => h)⟩
theorem row_grow {w w' : World} {B : Nat} {T : TypeId} {size : Nat} {v : Value} {n : Nat} {xs : List Value} (h : w.ownsRow B T size v n xs) (hg : Grow w w') : w'.ownsRow B T size v n xs :=
  h.kept (grownBy_of_grow hg) (by cases hv : v.ownBlock <;> simp)

theorem run_append2 {P : Program} (w : World) (base : Nat) (t ty e : TypeId) (i : TypeInfo) (z : Value) (size bytes : Nat) (ht : P.underlying t = some (.slice e)) (hi : P.info? e = some i) (hz : i.zero = some z)
    (hsize : i.size = size) (hby : i.bytes = bytes) (hzs : z.cells.size = size) (hsz : 0 < size) (v : Value) (n : Nat) (xs : List Value) (hown : w.ownsRow base e size v n xs)
    (a : Addr) (m c : Nat) (news : List Value) (hl : news.length = m * size) (hnews : ∀ j u, news[j]? = some u → w.cell? (a.add j) = some u) (h1 : ∀ u ∈ news, u.oneCell' = true)
    (h63 : n + m ≤ maxLen) (hbytes : (n + m) * bytes ≤ 140737488355328) (hbase : base ≤ w.heap.size) :
    ∃ v' w', (Builtin.append_ #[t, t] ty #[v, .slice (some a) m c]).run P w = .ok v' w' ∧ w'.ownsRow base e size v' (n + m) (xs ++ news) ∧ w.grownBy w' v.ownBlock ∧
      (v'.ownBlock = v.ownBlock ∨ v'.ownBlock = some w.heap.size) := by
  obtain ⟨v', w', hr, h2, h3, h4⟩ := run_append_own (P := P) w base t ty e i z size bytes ht hi hz hsize hby hzs hsz v n xs hown a m c news hl hnews h1 h63 hbytes hbase
  refine ⟨v', w', hr, h2, h3, ?_⟩
  have hown2 := hown
  have h63' : n + m ≤ 9223372036854775807 := by unfold maxLen at h63; omega
  subst hsize hby
  obtain ⟨hlen, hc⟩ := hown
  rcases hc with ⟨rfl, rfl⟩ | ⟨g, cap, cur, rfl, hbg, hg, hnc, hcm, hcs, htake⟩
  · by_cases hm : m = 0
    · have := h4.2 ⟨rfl, hm⟩
      subst this
      exact .inl rfl
    · have hr2 := run_append_nil (P := P) w t ty e i z ht hi hz a m c news hl hnews (by omega) (by omega) (by simp only [Nat.zero_add] at hbytes; omega)
      rw [hr] at hr2
      cases hr2
      exact .inr rfl
  · by_cases hroom : n + m ≤ cap
    · have hfit : n * i.size + news.length ≤ cur.size := by rw [hl, hcs, ← Nat.add_mul]; exact Nat.mul_le_mul_right _ hroom
      have hr2 := run_append_room (P := P) w t ty e i ht hi g n cap cur hg a m c news hl hnews h1 hroom hfit
      rw [hr] at hr2
      cases hr2
      exact .inl rfl
    · have hr2 := run_append_grow (P := P) w t ty e i z ht hi hz ⟨g, 0, none⟩ n cap xs hlen (hown2.cells (g := g) rfl) a m c news hl hnews (by omega) (by omega) (growslice_fits (by omega) hbytes)
      rw [hr] at hr2
      cases hr2
      exact .inr rfl

theorem wpList_append2 {P : Program} (w : World) {ops : Array Oper} {rest : List Oper} {o : Oper} {a : Act} {Q : Exit → Act → World → Prop} (hgd : o.guard = none) (s x : Operand) (t : TypeId)
    (ho : o.op = .call { callee := .builtin .append, args := #[s, x], argTypes := #[t, t] })
    (base : Nat) (e : TypeId) (i : TypeInfo) (z : Value) (size bytes : Nat) (ht : P.underlying t = some (.slice e)) (hi : P.info? e = some i) (hz : i.zero = some z)
    (hsize : i.size = size) (hby : i.bytes = bytes) (hzs : z.cells.size = size) (hsz : 0 < size)
    (v : Value) (n : Nat) (xs : List Value) (hs : a.eval s = v) (hown : w.ownsRow base e size v n xs)
    (ad : Addr) (m c : Nat) (news : List Value) (hx : a.eval x = .slice (some ad) m c) (hl : news.length = m * size) (hnews : ∀ j u, news[j]? = some u → w.cell? (ad.add j) = some u) (h1 : ∀ u ∈ news, u.oneCell' = true)
    (h63 : n + m ≤ maxLen) (hbytes : (n + m) * bytes ≤ 140737488355328) (hbase : base ≤ w.heap.size)
    (h : ∀ v' w', w'.ownsRow base e size v' (n + m) (xs ++ news) → w.grownBy w' v.ownBlock → (v'.ownBlock = v.ownBlock ∨ v'.ownBlock = some w.heap.size) → wpList P ops Q rest (a.put o.dst v') w') : wpList P ops Q (o :: rest) a w := by
  refine wpList_plain hgd fun K hK => ?_
  obtain ⟨v', w', hr, h2, h3, h4⟩ := run_append2 (P := P) w base t o.type e i z size bytes ht hi hz hsize hby hzs hsz v n xs hown ad m c news hl hnews h1 h63 hbytes hbase
  unfold Oper.wp execOp
  simp only [ho, resolve, invoke, builtin, Sem.run_bind, Sem.run_pure, Result.andThen_ok, List.map_toArray, List.map_cons, List.map_nil, hs, hx, hr]
  exact hK _ _ (h v' w' h2 h3 h4)

theorem run_append_empty {P : Program} (w : World) (base : Nat) (t ty e : TypeId) (i : TypeInfo) (size : Nat) (ht : P.underlying t = some (.slice e)) (hi : P.info? e = some i)
    (v : Value) (n : Nat) (xs : List Value) (hown : w.ownsRow base e size v n xs) (y : Option Addr) (c : Nat) :
    (Builtin.append_ #[t, t] ty #[v, .slice y 0 c]).run P w = .ok v w := by
  rcases hown.2 with ⟨rfl, rfl⟩ | ⟨g, cap, cur, rfl, _, _, hnc, _⟩
  · cases y <;> simp [Builtin.append_, run_underlying ht, sizeOf, typeInfo, hi, Builtin.lenOf, Builtin.firstCells, loadCells, loadCellsFrom]
  · cases y <;> simp [Builtin.append_, run_underlying ht, sizeOf, typeInfo, hi, Builtin.lenOf, Builtin.firstCells, hnc, storeCells, loadCells, loadCellsFrom]

/-- What is appended: the cells of a slice, which may have none. -/
def Src (w : World) (y : Option Addr) (m : Nat) (news : List Value) : Prop := (m = 0 ∧ news = []) ∨ ∃ ad, y = some ad ∧ ∀ j u, news[j]? = some u → w.cell? (ad.add j) = some u

theorem Src.grow {w w' : World} {y : Option Addr} {m : Nat} {news : List Value} (h : Src w y m news) (hg : Grow w w') : Src w' y m news :=
  h.imp id (fun ⟨ad, hy, hc⟩ => ⟨ad, hy, fun j u hj => hg.some (hc j u hj)⟩)

theorem Src.strs {S : Nat → Prop} {w : World} {a : Option Addr} {c : Nat} {xs : List ByteArray} (h : StrsR w S a c xs) : Src w a xs.length (xs.map Value.string) := by
  rcases h.2.2.2 with rfl | ⟨b, o, rfl, _, hc⟩
  · exact .inl ⟨rfl, rfl⟩
  · refine .inr ⟨_, rfl, fun j u hj => ?_⟩
    rw [List.getElem?_map] at hj
    rcases Nat.lt_or_ge j xs.length with hl | hl
    · rw [List.getElem?_eq_getElem hl] at hj
      simp at hj
      subst hj
      rw [addr_add]; exact hc j hl
    · rw [List.getElem?_eq_none hl] at hj; simp at hj

theorem Src.nodes {S : Nat → Prop} {w : World} {a : Option Addr} {c : Nat} {l : List Nd} (h : NodesR w S a c l) : ∃ cs, NCells w S l cs ∧ Src w a l.length cs := by
  rcases h.2.2 with rfl | ⟨b, o, rfl, _, hk⟩
  · exact ⟨[], rfl, .inl ⟨rfl, rfl⟩⟩
  · obtain ⟨cs, h1, h2⟩ := hk.cells
    exact ⟨cs, h1, .inr ⟨_, rfl, fun j u hj => by rw [addr_add]; exact h2 j u hj⟩⟩

theorem run_append3 {P : Program} (w : World) (base : Nat) (t ty e : TypeId) (i : TypeInfo) (z : Value) (size bytes : Nat) (ht : P.underlying t = some (.slice e)) (hi : P.info? e = some i) (hz : i.zero = some z)
    (hsize : i.size = size) (hby : i.bytes = bytes) (hzs : z.cells.size = size) (hsz : 0 < size) (v : Value) (n : Nat) (xs : List Value) (hown : w.ownsRow base e size v n xs)
    (y : Option Addr) (m c : Nat) (news : List Value) (hl : news.length = m * size) (hnews : Src w y m news) (h1 : ∀ u ∈ news, u.oneCell' = true)
    (h63 : n + m ≤ maxLen) (hbytes : (n + m) * bytes ≤ 140737488355328) (hbase : base ≤ w.heap.size) :
    ∃ v' w', (Builtin.append_ #[t, t] ty #[v, .slice y m c]).run P w = .ok v' w' ∧ w'.ownsRow base e size v' (n + m) (xs ++ news) ∧ w.grownBy w' v.ownBlock ∧
      (v'.ownBlock = v.ownBlock ∨ v'.ownBlock = some w.heap.size) := by
  rcases hnews with ⟨rfl, rfl⟩ | ⟨ad, rfl, hnews⟩
  · exact ⟨v, w, run_append_empty w base t ty e i size ht hi v n xs hown y c, by simpa using hown, ⟨rfl, rfl, rfl, Nat.le_refl _, fun _ _ _ => rfl⟩, .inl rfl⟩
  · exact run_append2 w base t ty e i z size bytes ht hi hz hsize hby hzs hsz v n xs hown ad m c news hl hnews h1 h63 hbytes hbase

theorem wpList_append3 {P : Program} (w : World) {ops : Array Oper} {rest : List Oper} {o : Oper} {a : Act} {Q : Exit → Act → World → Prop} (hgd : o.guard = none) (s x : Operand) (t : TypeId)
    (ho : o.op = .call { callee := .builtin .append, args := #[s, x], argTypes := #[t, t] })
    (base : Nat) (e : TypeId) (i : TypeInfo) (z : Value) (size bytes : Nat) (ht : P.underlying t = some (.slice e)) (hi : P.info? e = some i) (hz : i.zero = some z)
    (hsize : i.size = size) (hby : i.bytes = bytes) (hzs : z.cells.size = size) (hsz : 0 < size)
    (v : Value) (n : Nat) (xs : List Value) (hs : a.eval s = v) (hown : w.ownsRow base e size v n xs)
    (y : Option Addr) (m c : Nat) (news : List Value) (hx : a.eval x = .slice y m c) (hl : news.length = m * size) (hnews : Src w y m news) (h1 : ∀ u ∈ news, u.oneCell' = true)
    (h63 : n + m ≤ maxLen) (hbytes : (n + m) * bytes ≤ 140737488355328) (hbase : base ≤ w.heap.size)
    (h : ∀ v' w', w'.ownsRow base e size v' (n + m) (xs ++ news) → w.grownBy w' v.ownBlock → (v'.ownBlock = v.ownBlock ∨ v'.ownBlock = some w.heap.size) → wpList P ops Q rest (a.put o.dst v') w') : wpList P ops Q (o :: rest) a w := by
  refine wpList_plain hgd fun K hK => ?_
  obtain ⟨v', w', hr, h2, h3, h4⟩ := run_append3 (P := P) w base t o.type e i z size bytes ht hi hz hsize hby hzs hsz v n xs hown y m c news hl hnews h1 h63 hbytes hbase
  unfold Oper.wp execOp
  simp only [ho, resolve, invoke, builtin, Sem.run_bind, Sem.run_pure, Result.andThen_ok, List.map_toArray, List.map_cons, List.map_nil, hs, hx, hr]
  exact hK _ _ (h v' w' h2 h3 h4)

/-- append to a literal without elements makes memory, and no more. -/
theorem run_append_lit {P : Program} (w : World) (base : Nat) (t ty e : TypeId) (i : TypeInfo) (z : Value) (size bytes : Nat) (ht : P.underlying t = some (.slice e)) (hi : P.info? e = some i) (hz : i.zero = some z)
    (hsize : i.size = size) (hby : i.bytes = bytes) (hzs : z.cells.size = size) (hsz : 0 < size) (g : Nat) (hg : w.heap[g]? = some (.cells #[] e (0, 0))) (hgb : base ≤ g)
    (y : Option Addr) (m c : Nat) (news : List Value) (hl : news.length = m * size) (hnews : Src w y m news) (h1 : ∀ u ∈ news, u.oneCell' = true)
    (h63 : m ≤ maxLen) (hbytes : m * bytes ≤ 140737488355328) (hbase : base ≤ w.heap.size) :
    ∃ v' w', (Builtin.append_ #[t, t] ty #[.slice (some ⟨g, 0, none⟩) 0 0, .slice y m c]).run P w = .ok v' w' ∧ w'.ownsRow base e size v' m news ∧ Grow w w' := by
  have hown : w.ownsRow base e size (.slice (some ⟨g, 0, none⟩) 0 0) 0 [] := ⟨by simp, .inr ⟨g, 0, #[], rfl, hgb, hg, Nat.le_refl _, Nat.zero_le _, by simp, by simp⟩⟩
  rcases hnews with ⟨rfl, rfl⟩ | ⟨ad, rfl, hnews⟩
  · exact ⟨_, w, run_append_empty w base t ty e i size ht hi _ 0 [] hown y c, hown, Ext.refl _ _⟩
  · obtain ⟨v', w', hr, h2, h3, h4⟩ := run_append2 (P := P) w base t ty e i z size bytes ht hi hz hsize hby hzs hsz _ 0 [] hown ad m c news hl hnews h1 (by omega) (by simpa using hbytes) hbase
    by_cases hm : m = 0
    · subst hm
      have hr2 := run_append_empty (P := P) w base t ty e i size ht hi _ 0 [] hown (some ad) c
      rw [hr] at hr2
      cases hr2
      exact ⟨_, _, hr, by simpa using h2, Ext.refl _ _⟩
    · subst hsize hby
      have hr2 := run_append_grow (P := P) w t ty e i z ht hi hz ⟨g, 0, none⟩ 0 0 [] (by simp) (fun j u hj => by simp at hj) ad m c news hl hnews (by omega) (by unfold maxLen at h63; omega) (growslice_fits (by omega) (by simpa using hbytes))
      rw [hr] at hr2
      cases hr2
      exact ⟨_, _, hr, by simpa using h2, ((Ext.refl nil w).drew).alloc _⟩

theorem heap_grow {w w' : World} (h : Grow w w') {g : Nat} {o : Obj} (hg : w.heap[g]? = some o) : w'.heap[g]? = some o := by
  rw [h.block g (Array.getElem?_eq_some_iff.1 hg).1 (fun h => h)]; exact hg

/-- Block k is not the row's. -/
def offRow (B : Nat) (v : Value) (k : Nat) : Prop := B ≤ k ∧ v.ownBlock ≠ some k

theorem grownBy_ext {w w' : World} {v : Value} (h : w.grownBy w' v.ownBlock) : Ext (fun k => v.ownBlock = some k) w w' :=
  ⟨h.os, h.tape, h.output, h.size, fun k hk hx => h.block k hk (fun e => hx e.symm)⟩

/-- What hangs on elements that lie off the row stays so. -/
theorem NCells.grown {w w' : World} {B : Nat} {v v' : Value} {l : List Nd} {cs : List Value} (hlt : NCells w (fun k => offRow B v k ∧ k < w.heap.size) l cs) (hg : w.grownBy w' v.ownBlock) (hv : v'.ownBlock = v.ownBlock ∨ v'.ownBlock = some w.heap.size) :
    NCells w' (offRow B v') l cs := by
  have h1 := hlt.ext (grownBy_ext hg) (fun k hk hx => hk.1.2 hx)
  refine h1.mono (fun k hk => ⟨hk.1.1, fun e => ?_⟩)
  rcases hv with hv | hv
  · rw [hv] at e; exact hk.1.2 e
  · rw [hv] at e; cases e; exact Nat.lt_irrefl _ hk.2

theorem StrsR.lt {S : Nat → Prop} {w : World} {a : Option Addr} {c : Nat} {xs : List ByteArray} (h : StrsR w S a c xs) : StrsR w (fun k => S k ∧ k < w.heap.size) a c xs := by
  obtain ⟨h1, h2, h3, h4⟩ := h
  refine ⟨h1, h2, h3, ?_⟩
  rcases Nat.eq_zero_or_pos xs.length with hl | hl
  · exact .inl (List.length_eq_zero_iff.1 hl)
  rcases h4 with h4 | ⟨b, o, rfl, hb, hc⟩
  · exact .inl h4
  · exact .inr ⟨b, o, rfl, ⟨hb, lt_of_cell (hc 0 hl)⟩, hc⟩
mutual
theorem NodeC.lt {S : Nat → Prop} {w : World} : ∀ {n : Nd} {na : Option Addr} {nc : Nat} {ka : Option Addr} {kc : Nat}, NodeC w S n na nc ka kc → NodeC w (fun k => S k ∧ k < w.heap.size) n na nc ka kc
  | ⟨_, _, _, _, kids⟩, na, nc, ka, kc, h => by
    unfold NodeC at h ⊢
    obtain ⟨h1, h2, h3, h4, h5⟩ := h
    refine ⟨h1, h2.lt, h3, h4, ?_⟩
    rcases h5 with h5 | ⟨b, o, rfl, hb, hk⟩
    · exact .inl h5
    · cases kids with
      | nil => exact .inl rfl
      | cons k ks =>
        refine .inr ⟨b, o, rfl, ⟨hb, ?_⟩, KidsR.lt hk⟩
        unfold KidsR at hk
        obtain ⟨⟨_, _, _, _, c0, _⟩, _⟩ := hk
        exact lt_of_cell c0
theorem KidsR.lt {S : Nat → Prop} {w : World} {b : Nat} : ∀ {l : List Nd} {o : Nat}, KidsR w S b o l → KidsR w (fun k => S k ∧ k < w.heap.size) b o l
  | [], _, _ => by unfold KidsR; trivial
  | k :: ks, o, h => by
    unfold KidsR at h ⊢
    obtain ⟨⟨na, nc, ka, kc, c0, c1, c2, c3, c4, hn⟩, hr⟩ := h
    exact ⟨⟨na, nc, ka, kc, c0, c1, c2, c3, c4, hn.lt⟩, KidsR.lt hr⟩
end
theorem NCells.lt {S : Nat → Prop} {w : World} : ∀ {l : List Nd} {cs : List Value}, NCells w S l cs → NCells w (fun k => S k ∧ k < w.heap.size) l cs
  | [], cs, h => h
  | n :: l, cs, h => by
    obtain ⟨na, nc, ka, kc, cs', rfl, hn, h⟩ := h
    exact ⟨na, nc, ka, kc, cs', rfl, hn.lt, NCells.lt h⟩
theorem NCells.grown' {w w' : World} {B : Nat} {v v' : Value} {l : List Nd} {cs : List Value} (h : NCells w (offRow B v) l cs) (hg : w.grownBy w' v.ownBlock) (hv : v'.ownBlock = v.ownBlock ∨ v'.ownBlock = some w.heap.size) :
    NCells w' (offRow B v') l cs := NCells.grown h.lt hg hv

theorem BoxN.grown {w w' : World} {b : Nat} {cs : List Value} {v : Value} (h : BoxN w b cs) (hg : w.grownBy w' v.ownBlock) (hb : ∀ k, v.ownBlock = some k → b < k) : BoxN w' b cs :=
  h.ext (grownBy_ext hg) (fun e => by have := hb _ e; omega)

end Go.Proofs.Ytchiakeceiefdaa

/-
  Nodes and slices of texts as data put together from parts.
-/
namespace Go.Proofs.Ytchiakeceiefdaa
open Go Go.RowKit

theorem NodeC.grow' {S : Nat → Prop} {w w' : World} {n : Nd} {na : Option Addr} {nc : Nat} {ka : Option Addr} {kc : Nat} (h : NodeC w S n na nc ka kc) (hg : Grow w w') : NodeC w' S n na nc ka kc := h.ext hg (fun _ _ h => h)

theorem Grow.toX' {X : Nat → Prop} {w w' : World} (h : Grow w w') : Ext X w w' := h.mono (fun _ h => False.elim h)
theorem Free.app2 {B : Nat} {w : World} {f g : List Nat} (hf : Free B w f) (hg : Free B w g) (hd : ∀ a, a ∈ f → a ∈ g → False) : Free B w (f ++ g) :=
  ⟨List.nodup_append.2 ⟨hf.1, hg.1, fun a ha b hb e => by subst e; exact hd a ha hb⟩, fun b hb => by
    rcases List.mem_append.1 hb with h | h
    · exact hf.2 b h
    · exact hg.2 b h⟩

def nodeRep : Rep Nd where
  n := 5
  R := fun w S x cs => ∃ na nc ka kc, cs = nodeL x na nc ka kc ∧ NodeC w S x na nc ka kc
  F := fun w x cs fp => ∃ na nc ka kc, cs = nodeL x na nc ka kc ∧ NodeF w x na nc ka kc fp
  rlen := by rintro w S x cs ⟨na, nc, ka, kc, rfl, _⟩; rfl
  flen := by rintro w x cs fp ⟨na, nc, ka, kc, rfl, _⟩; rfl
  ext := by rintro X S w w' x cs h hS ⟨na, nc, ka, kc, rfl, hn⟩; exact ⟨na, nc, ka, kc, rfl, hn.ext h hS⟩
  mono := by rintro S T w x cs h ⟨na, nc, ka, kc, rfl, hn⟩; exact ⟨na, nc, ka, kc, rfl, hn.mono h⟩
  lt := by rintro S w x cs ⟨na, nc, ka, kc, rfl, hn⟩; exact ⟨na, nc, ka, kc, rfl, hn.lt⟩
  keep := by rintro w w' x cs fp ⟨na, nc, ka, kc, rfl, hn⟩ h; exact ⟨na, nc, ka, kc, rfl, hn.keep h⟩
  toR := by rintro S w x cs fp ⟨na, nc, ka, kc, rfl, hn⟩ h; exact ⟨na, nc, ka, kc, rfl, hn.toC h⟩

def strsRep : Rep (List ByteArray) where
  n := 1
  R := fun w S x cs => ∃ a c, cs = [.slice a x.length c] ∧ StrsR w S a c x
  F := fun w x cs fp => ∃ a c, cs = [.slice a x.length c] ∧ StrsF w a c x fp
  rlen := by rintro w S x cs ⟨a, c, rfl, _⟩; rfl
  flen := by rintro w x cs fp ⟨a, c, rfl, _⟩; rfl
  ext := by rintro X S w w' x cs h hS ⟨a, c, rfl, hn⟩; exact ⟨a, c, rfl, hn.ext h hS⟩
  mono := by rintro S T w x cs h ⟨a, c, rfl, hn⟩; exact ⟨a, c, rfl, hn.mono h⟩
  lt := by rintro S w x cs ⟨a, c, rfl, hn⟩; exact ⟨a, c, rfl, hn.lt⟩
  keep := by rintro w w' x cs fp ⟨a, c, rfl, hn⟩ h; exact ⟨a, c, rfl, hn.keep h⟩
  toR := by rintro S w x cs fp ⟨a, c, rfl, hn⟩ h; exact ⟨a, c, rfl, hn.toR h⟩

end Go.Proofs.Ytchiakeceiefdaa

/-
  The walks of the laws' sizes of texts and nodes.
-/
namespace Go.Proofs.Ytchiakeceiefdaa
open Go.RowKit

/-- What is left of a budget. -/
def szR (c : Nat) (left : Int) : Int := if (c : Int) ≤ left then left - c else -1

theorem szR_neg {c : Nat} {left : Int} (h : left < c) : szR c left = -1 := by unfold szR; rw [if_neg (by omega)]
theorem szR_pos {c : Nat} {left : Int} (h : (c : Int) ≤ left) : szR c left = left - c := by unfold szR; rw [if_pos h]

theorem sum_take_le (l : List Nat) (k : Nat) : (l.take k).sum ≤ l.sum := by
  induction l generalizing k with
  | nil => simp
  | cons a l ih => cases k with
    | zero => simp
    | succ k => have := ih k; simp only [List.take_succ_cons, List.sum_cons]; omega

def sumB (xs : List ByteArray) : Nat := (xs.map (·.size)).sum
theorem sumB_snoc (xs : List ByteArray) (x : ByteArray) : sumB (xs ++ [x]) = sumB xs + x.size := by simp [sumB]
theorem sumB_take (xs : List ByteArray) (k : Nat) : sumB (xs.take k) ≤ sumB xs := by
  unfold sumB; rw [List.map_take]; exact sum_take_le _ _
theorem costS_eq (xs : List ByteArray) : costS xs = xs.length + sumB xs := rfl

def sumN (l : List Nd) : Nat := (l.map costN).sum
theorem sumN_snoc (xs : List Nd) (x : Nd) : sumN (xs ++ [x]) = sumN xs + costN x := by simp [sumN]
theorem sumN_take (xs : List Nd) (k : Nat) : sumN (xs.take k) ≤ sumN xs := by
  unfold sumN; rw [List.map_take]; exact sum_take_le _ _
theorem costL_eq (l : List Nd) : costL l = l.length + sumN l := by
  induction l with
  | nil => simp [costL, sumN]
  | cons a l ih => simp only [costL, ih, sumN, List.map_cons, List.sum_cons, List.length_cons]; omega

set_option maxHeartbeats 400000 in
theorem szStringS_ok (a : Option Addr) (c : Nat) (xs : List ByteArray) (left : Int) (w : World) (ha : StrsR w any a c xs) (h0 : 0 ≤ left) (h1 : left ≤ 1048576) :
    Calls Try.prog 71 #[.slice a xs.length c, .int .i64 left] w fun e w' => e = .returned (.int .i64 (szR (costS xs) left)) ∧ Grow w w' := by
  have hbig : xs.length ≤ 9223372036854775807 := ha.2.1
  have Ha := Lib.hid ha
  clear ha
  by_cases hl : left < (xs.length : Int)
  · have Hf := Lib.hid (szR_neg (c := costS xs) (left := left) (by rw [costS_eq]; omega))
    go_enter Try.func71, Try.ntmps71
    go_wp2
    go_ret
    exact ⟨by rw [Hf.out]; simp, Ext.refl _ _⟩
  · go_enter Try.func71, Try.ntmps71
    go_wp2
    go_loopw [1, 5] (fun t i wr => Grow w wr ∧ ∃ (k : Nat) (r : Int), k ≤ xs.length ∧ i = .int .i64 k ∧ t = .int .i64 r ∧ 0 ≤ r ∧ r ≤ 1048576 ∧ Hid (r = left - xs.length - sumB (xs.take k))) (fun _ i _ => xs.length - (intOf i).toNat)
    case atStart => exact ⟨Ext.refl _ _, 0, _, Nat.zero_le _, rfl, rfl, by omega, by omega, Lib.hid (by simp [sumB])⟩
    case round =>
      obtain ⟨hg, k, r, hk, rfl, rfl, hr0, hr1, Hr⟩ := hrel
      have hst := sumB_take xs k
      by_cases hlt : k < xs.length
      · obtain ⟨_, _, hxs, ha4⟩ := (Ha.out).ext hg (fun _ _ h => h)
        rcases ha4 with rfl | ⟨ba, oa, rfl, _, hca⟩
        · simp at hlt
        have hx := hca k hlt
        have hsz : xs[k].size ≤ 9223372036854775807 := hxs _ (List.getElem_mem hlt)
        have hst2 := sumB_take xs (k + 1)
        rw [take_snoc' _ _ hlt, sumB_snoc] at hst2
        clear hca Ha
        by_cases hneg : r < (xs[k].size : Int)
        · have Hf : Hid (szR (costS xs) left = -1) := Lib.hid (szR_neg (by rw [costS_eq]; have := Hr.out; omega))
          go_wp2
          go_ret
          exact ⟨by simp [Hf.out], hg⟩
        · go_wp2
          go_roundw
          case rel => exact ⟨hg, k + 1, _, by omega, by go_num, rfl, by omega, by omega, Lib.hid (by rw [take_snoc' _ _ hlt, sumB_snoc, Hr.out]; omega)⟩
          case measure => simp [intOf]; omega
      · have hke : k = xs.length := by omega
        have Hf : Hid (szR (costS xs) left = r) := Lib.hid (by
          have h2 := Hr.out
          rw [hke, List.take_length] at h2
          rw [szR_pos (by rw [costS_eq]; omega), costS_eq]; omega)
        have Hke := Lib.hid hke
        clear hke
        go_wp2
        go_ret
        exact ⟨by simp [Hf.out], hg⟩

def SzOk (n : Nd) : Prop := ∀ (v : Value) (left : Int) (w : World), 0 ≤ left → left ≤ 1048576 → NodeR w any n v →
    Calls Try.prog 26 #[v, .int .i64 left] w fun e w' => e = .returned (.int .i64 (szR (costN n) left)) ∧ Grow w w'

set_option maxHeartbeats 400000 in
theorem szNodeS_of (l : List Nd) (ih : ∀ k ∈ l, SzOk k) (a : Option Addr) (c : Nat) (left : Int) (w : World) (hn : NodesR w any a c l) (h0 : 0 ≤ left) (h1 : left ≤ 1048576) :
    Calls Try.prog 74 #[.slice a l.length c, .int .i64 left] w fun e w' => e = .returned (.int .i64 (szR (costL l) left)) ∧ Grow w w' := by
  have hbig : l.length ≤ 9223372036854775807 := hn.2.1
  have Hn := Lib.hid hn
  have Ih := Lib.hid ih
  clear hn ih
  by_cases hl : left < (l.length : Int)
  · have Hf := Lib.hid (szR_neg (c := costL l) (left := left) (by rw [costL_eq]; omega))
    go_enter Try.func74, Try.ntmps74
    go_wp2
    go_ret
    exact ⟨by rw [Hf.out]; simp, Ext.refl _ _⟩
  · go_enter Try.func74, Try.ntmps74
    go_wp2
    go_loopw [1, 5] (fun t i wr => Grow w wr ∧ ∃ (k : Nat) (r : Int), k ≤ l.length ∧ i = .int .i64 k ∧ t = .int .i64 r ∧ 0 ≤ r ∧ r ≤ 1048576 ∧ Hid (r = left - l.length - sumN (l.take k))) (fun _ i _ => l.length - (intOf i).toNat)
    case atStart => exact ⟨Ext.refl _ _, 0, _, Nat.zero_le _, rfl, rfl, by omega, by omega, Lib.hid (by simp [sumN])⟩
    case round =>
      obtain ⟨hg, k, r, hk, rfl, rfl, hr0, hr1, Hr⟩ := hrel
      have hst := sumN_take l k
      by_cases hlt : k < l.length
      · obtain ⟨_, _, hks⟩ := (Hn.out).ext hg (fun _ _ h => h)
        rcases hks with hks | ⟨bk, ok, rfl, _, hkr⟩
        · simp [hks] at hlt
        obtain ⟨na', nc', ka', kc', c0, c1, c2, c3, c4, hkc⟩ := hkr.get k hlt
        have Hkc : Hid (NodeR wr any l[k] (nodeV l[k] na' nc' ka' kc')) := Lib.hid ⟨_, _, _, _, rfl, hkc⟩
        have hst2 := sumN_take l (k + 1)
        rw [take_snoc' _ _ hlt, sumN_snoc] at hst2
        clear hkr hkc
        by_cases hneg : r < (costN l[k] : Int)
        · have Hf : Hid (szR (costL l) left = -1) := Lib.hid (szR_neg (by rw [costL_eq]; have := Hr.out; omega))
          have Hs := Lib.hid (szR_neg hneg)
          go_wp2_with (go_at_call 26; refine (Ih.out _ (List.getElem_mem hlt) _ _ _ hr0 hr1 Hkc.out).mono ?_; rintro e w2 ⟨rfl, hg2⟩; simp only [Hs.out])
          go_ret
          exact ⟨by simp [Hf.out], hg.trans hg2⟩
        · have Hs := Lib.hid (szR_pos (c := costN l[k]) (left := r) (by omega))
          go_wp2_with (go_at_call 26; refine (Ih.out _ (List.getElem_mem hlt) _ _ _ hr0 hr1 Hkc.out).mono ?_; rintro e w2 ⟨rfl, hg2⟩; simp only [Hs.out])
          go_roundw
          case rel => exact ⟨hg.trans hg2, k + 1, _, by omega, by go_num, rfl, by omega, by omega, Lib.hid (by rw [take_snoc' _ _ hlt, sumN_snoc, Hr.out]; omega)⟩
          case measure => simp [intOf]; omega
      · have hke : k = l.length := by omega
        have Hf : Hid (szR (costL l) left = r) := Lib.hid (by
          have h2 := Hr.out
          rw [hke, List.take_length] at h2
          rw [szR_pos (by rw [costL_eq]; omega), costL_eq]; omega)
        have Hke := Lib.hid hke
        clear hke
        go_wp2
        go_ret
        exact ⟨by simp [Hf.out], hg⟩

set_option maxHeartbeats 1000000 in
theorem szNode_ok : ∀ n, SzOk n := by
  refine Nd.ind' SzOk ?_
  intro n ih v left w h0 h1 hn
  obtain ⟨na, nc, ka, kc, rfl, hc⟩ := hn
  obtain ⟨htx, hns, hks⟩ := hc.parts
  have htx' : n.text.size ≤ 9223372036854775807 := htx
  have Hns := Lib.hid hns
  have Hks := Lib.hid hks
  have Ih := Lib.hid ih
  have hce := costN_eq n
  have Hce := Lib.hid hce
  clear hns hks hc htx ih hce
  unfold nodeV at *
  by_cases a1 : left < (n.text.size : Int)
  · have Hf := Lib.hid (szR_neg (c := costN n) (left := left) (by have := Hce.out; omega))
    go_enter Try.func26, Try.ntmps26
    go_wp2_with fail
    go_ret
    exact ⟨by simp [Hf.out], (by repeat (first | with_reducible exact Ext.refl _ _ | with_reducible refine Ext.trans ?_ (by assumption) | with_reducible refine Ext.drew ?_ | with_reducible refine Ext.drewN ?_ _ | with_reducible refine Ext.alloc ?_ _ | with_reducible refine Ext.setNew ?_ (by simp; done) _ | with_reducible refine Ext.setNew ?_ (by simp; omega) _))⟩
  by_cases a2 : left - n.text.size < (costS n.names : Int)
  · have Hf := Lib.hid (szR_neg (c := costN n) (left := left) (by have := Hce.out; omega))
    have Hs := Lib.hid (szR_neg a2)
    go_enter Try.func26, Try.ntmps26
    go_wp2_with (go_at_call 71; refine (szStringS_ok _ _ _ _ _ (Hns.out.grow (by repeat (first | with_reducible exact Ext.refl _ _ | with_reducible refine Ext.trans ?_ (by assumption) | with_reducible refine Ext.drew ?_ | with_reducible refine Ext.drewN ?_ _ | with_reducible refine Ext.alloc ?_ _ | with_reducible refine Ext.setNew ?_ (by simp; done) _ | with_reducible refine Ext.setNew ?_ (by simp; omega) _))) (by omega) (by omega)).mono ?_; rintro e w2 ⟨rfl, hg2⟩; simp only [Hs.out])
    go_ret
    exact ⟨by simp [Hf.out], (by repeat (first | with_reducible exact Ext.refl _ _ | with_reducible refine Ext.trans ?_ (by assumption) | with_reducible refine Ext.drew ?_ | with_reducible refine Ext.drewN ?_ _ | with_reducible refine Ext.alloc ?_ _ | with_reducible refine Ext.setNew ?_ (by simp; done) _ | with_reducible refine Ext.setNew ?_ (by simp; omega) _))⟩
  have Hs := Lib.hid (szR_pos (c := costS n.names) (left := left - n.text.size) (by omega))
  by_cases a3 : left - n.text.size - costS n.names < (costL n.kids : Int)
  · have Hf := Lib.hid (szR_neg (c := costN n) (left := left) (by have := Hce.out; omega))
    have Hs2 := Lib.hid (szR_neg a3)
    go_enter Try.func26, Try.ntmps26
    go_wp2_with (first | (go_at_call 71; refine (szStringS_ok _ _ _ _ _ (Hns.out.grow (by repeat (first | with_reducible exact Ext.refl _ _ | with_reducible refine Ext.trans ?_ (by assumption) | with_reducible refine Ext.drew ?_ | with_reducible refine Ext.drewN ?_ _ | with_reducible refine Ext.alloc ?_ _ | with_reducible refine Ext.setNew ?_ (by simp; done) _ | with_reducible refine Ext.setNew ?_ (by simp; omega) _))) (by omega) (by omega)).mono ?_; rintro e w2 ⟨rfl, hg2⟩; simp only [Hs.out]; have hcc := bcell hg2) | (go_at_call 74; refine (szNodeS_of _ Ih.out _ _ _ _ (Hks.out.grow (by repeat (first | with_reducible exact Ext.refl _ _ | with_reducible refine Ext.trans ?_ (by assumption) | with_reducible refine Ext.drew ?_ | with_reducible refine Ext.drewN ?_ _ | with_reducible refine Ext.alloc ?_ _ | with_reducible refine Ext.setNew ?_ (by simp; done) _ | with_reducible refine Ext.setNew ?_ (by simp; omega) _))) (by omega) (by omega)).mono ?_; rintro e w3 ⟨rfl, hg3⟩; simp only [Hs2.out]))
    go_ret
    exact ⟨by simp [Hf.out], (by repeat (first | with_reducible exact Ext.refl _ _ | with_reducible refine Ext.trans ?_ (by assumption) | with_reducible refine Ext.drew ?_ | with_reducible refine Ext.drewN ?_ _ | with_reducible refine Ext.alloc ?_ _ | with_reducible refine Ext.setNew ?_ (by simp; done) _ | with_reducible refine Ext.setNew ?_ (by simp; omega) _))⟩
  · have Hf := Lib.hid (szR_pos (c := costN n) (left := left) (by have := Hce.out; omega))
    have Hs2 := Lib.hid (szR_pos (c := costL n.kids) (left := left - n.text.size - costS n.names) (by omega))
    go_enter Try.func26, Try.ntmps26
    go_wp2_with (first | (go_at_call 71; refine (szStringS_ok _ _ _ _ _ (Hns.out.grow (by repeat (first | with_reducible exact Ext.refl _ _ | with_reducible refine Ext.trans ?_ (by assumption) | with_reducible refine Ext.drew ?_ | with_reducible refine Ext.drewN ?_ _ | with_reducible refine Ext.alloc ?_ _ | with_reducible refine Ext.setNew ?_ (by simp; done) _ | with_reducible refine Ext.setNew ?_ (by simp; omega) _))) (by omega) (by omega)).mono ?_; rintro e w2 ⟨rfl, hg2⟩; simp only [Hs.out]; have hcc := bcell hg2) | (go_at_call 74; refine (szNodeS_of _ Ih.out _ _ _ _ (Hks.out.grow (by repeat (first | with_reducible exact Ext.refl _ _ | with_reducible refine Ext.trans ?_ (by assumption) | with_reducible refine Ext.drew ?_ | with_reducible refine Ext.drewN ?_ _ | with_reducible refine Ext.alloc ?_ _ | with_reducible refine Ext.setNew ?_ (by simp; done) _ | with_reducible refine Ext.setNew ?_ (by simp; omega) _))) (by omega) (by omega)).mono ?_; rintro e w3 ⟨rfl, hg3⟩; simp only [Hs2.out]))
    go_ret
    exact ⟨by have h1 := Hf.out; have h2 := Hce.out; rw [h1]; simp; omega, (by repeat (first | with_reducible exact Ext.refl _ _ | with_reducible refine Ext.trans ?_ (by assumption) | with_reducible refine Ext.drew ?_ | with_reducible refine Ext.drewN ?_ _ | with_reducible refine Ext.alloc ?_ _ | with_reducible refine Ext.setNew ?_ (by simp; done) _ | with_reducible refine Ext.setNew ?_ (by simp; omega) _))⟩

end Go.Proofs.Ytchiakeceiefdaa

/-
  One element of a row that is being marked.
-/
namespace Go.Proofs.Ytchiakeceiefdaa
open Go Go.RowKit

/-- Since world wr: the element at place p of block b (n cells) holds cs; the rest of the block is as it was; of the other blocks only G's have turned. -/
structure Elm (wr w : World) (b p n : Nat) (cs : List Value) (G : List Nat) : Prop where
  ext : Ext (inl (b :: G)) wr w
  len : cs.length = n
  cells : ∀ i v, cs[i]? = some v → w.cell? ⟨b, p + i, none⟩ = some v
  rest : ∀ q, (q < p ∨ p + n ≤ q) → w.cell? ⟨b, q, none⟩ = wr.cell? ⟨b, q, none⟩
  fr : ∀ q, w.frozen? ⟨b, q, none⟩ = false
  lt : b < w.heap.size

theorem Elm.new {w : World} {b p n : Nat} {cs : List Value} (hc : CellsAt w b p cs) (hl : cs.length = n) (hf : ∀ q, w.frozen? ⟨b, q, none⟩ = false) (hb : b < w.heap.size) : Elm w w b p n cs [] :=
  ⟨Ext.refl _ _, hl, hc, fun _ _ => rfl, hf, hb⟩

theorem Elm.set {wr w : World} {b p n : Nat} {cs : List Value} {G : List Nat} (h : Elm wr w b p n cs G) (i : Nat) (hi : i < cs.length) (v : Value) : Elm wr (w.setCell ⟨b, p + i, none⟩ v) b p n (cs.set i v) G := by
  have h0 := h.cells i cs[i] (List.getElem?_eq_getElem hi)
  refine ⟨h.ext.setIn (p := ⟨b, p + i, none⟩) (by simp [inl]) v, by rw [List.length_set]; exact h.len, fun j u hj => ?_, fun q hq => ?_, fun q => by rw [World.frozen?_setCell]; exact h.fr q, by rw [size_setCell]; exact h.lt⟩
  · rw [cell_set h0]
    rw [List.getElem?_set] at hj
    by_cases e : j = i
    · subst e; rw [if_pos rfl]; simpa [hi] using hj
    · have hne : ¬ (⟨b, p + j, none⟩ : Addr) = ⟨b, p + i, none⟩ := by intro h'; have := congrArg Addr.off h'; simp at this; exact e this
      rw [if_neg hne]
      rw [if_neg (fun h' => e h'.symm)] at hj
      exact h.cells j u hj
  · have := h.len
    rw [set_ne _ _ _ _ _ _ (.inr (by omega))]; exact h.rest q hq
theorem Elm.set0 {wr w : World} {b p n : Nat} {cs : List Value} {G : List Nat} (h : Elm wr w b p n cs G) (hi : 0 < cs.length) (v : Value) : Elm wr (w.setCell ⟨b, p, none⟩ v) b p n (cs.set 0 v) G := h.set 0 hi v

theorem Elm.sub {wr w w' : World} {b p n : Nat} {cs : List Value} {G g : List Nat} (h : Elm wr w b p n cs G) (he : Ext (inl g) w w') (hb : b ∉ g) : Elm wr w' b p n cs (G ++ g) := by
  refine ⟨(h.ext.mono (fun k hk => ?_)).trans (he.mono (fun k hk => ?_)), h.len, fun i v hi => he.some (h.cells i v hi) hb, fun q hq => ?_, fun q => ?_, Nat.lt_of_lt_of_le h.lt he.size⟩
  · simp [inl] at hk ⊢
    rcases hk with hk | hk
    · exact .inl hk
    · exact .inr (.inl hk)
  · simp [inl] at hk ⊢; exact .inr (.inr hk)
  · rw [he.cell (p := ⟨b, q, none⟩) h.lt hb]; exact h.rest q hq
  · rw [he.frozen (p := ⟨b, q, none⟩) h.lt hb]; exact h.fr q
theorem Elm.grow {wr w w' : World} {b p n : Nat} {cs : List Value} {G : List Nat} (h : Elm wr w b p n cs G) (hg : Grow w w') : Elm wr w' b p n cs G := by
  have := h.sub (g := []) (hg.toX' (X := inl [])) (by simp)
  simpa using this

theorem not_nodup {l : List Nat} (y : Nat) (h : 2 ≤ l.count y) : ¬ l.Nodup := fun hn => by
  have := List.nodup_iff_count.1 hn y
  omega

section rows
variable {α : Type} {E : Rep α}

theorem RowF.append' {w : World} {b : Nat} : ∀ {l m : List α} {o : Nat} {f g : List Nat}, RowF E w b o l f → RowF E w b (o + l.length * E.n) m g → RowF E w b o (l ++ m) (f ++ g)
  | [], m, o, f, g, h1, h2 => by
    cases h1; simpa using h2
  | x :: l, m, o, f, g, h1, h2 => by
    obtain ⟨f1, f2, cs, rfl, hc, hx, hr⟩ := h1
    refine ⟨f1, f2 ++ g, cs, by simp, hc, hx, RowF.append' hr ?_⟩
    rw [show o + E.n + l.length * E.n = o + (x :: l).length * E.n by simp [Nat.succ_mul]; omega]
    exact h2
theorem RowF.split {w : World} {b : Nat} : ∀ {l m : List α} {o : Nat} {fp : List Nat}, RowF E w b o (l ++ m) fp → ∃ f g, fp = f ++ g ∧ RowF E w b o l f ∧ RowF E w b (o + l.length * E.n) m g
  | [], m, o, fp, h => ⟨[], fp, rfl, rfl, by simpa using h⟩
  | x :: l, m, o, fp, h => by
    obtain ⟨f1, f2, cs, rfl, hc, hx, hr⟩ := h
    obtain ⟨f, g, rfl, h1, h2⟩ := RowF.split hr
    rw [show o + E.n + l.length * E.n = o + (x :: l).length * E.n by simp [Nat.succ_mul]; omega] at h2
    exact ⟨f1 ++ f, g, by simp, ⟨f1, f, cs, rfl, hc, hx, h1⟩, h2⟩

/-- What marking leaves of a row. -/
def mkR (mk : Nat → α → α) (cnt : α → Nat) : Nat → List α → List α
  | _, [] => []
  | k, x :: l => mk k x :: mkR mk cnt (k + cnt x) l
def cntR (cnt : α → Nat) (l : List α) : Nat := (l.map cnt).sum
theorem mkR_len (mk : Nat → α → α) (cnt : α → Nat) (k : Nat) (l : List α) : (mkR mk cnt k l).length = l.length := by
  induction l generalizing k with
  | nil => rfl
  | cons x l ih => simp [mkR, ih]
theorem mkR_snoc (mk : Nat → α → α) (cnt : α → Nat) (k : Nat) (l : List α) (x : α) : mkR mk cnt k (l ++ [x]) = mkR mk cnt k l ++ [mk (k + cntR cnt l) x] := by
  induction l generalizing k with
  | nil => simp [mkR, cntR]
  | cons a l ih => simp only [List.cons_append, mkR, ih, cntR, List.map_cons, List.sum_cons]; rw [Nat.add_assoc]
theorem cntR_snoc (cnt : α → Nat) (l : List α) (x : α) : cntR cnt (l ++ [x]) = cntR cnt l + cnt x := by simp [cntR]
theorem cntR_take (cnt : α → Nat) (l : List α) (j : Nat) : cntR cnt (l.take j) ≤ cntR cnt l := by
  unfold cntR; rw [List.map_take]; exact sum_take_le _ _

/-- A row whose element at the middle has been marked. -/
theorem RowF.marked {wr w : World} {b o p B : Nat} {l1 l2 : List α} {x' : α} {cs' : List Value} {f1 fx f2 G : List Nat} (h1 : RowF E wr b o l1 f1) (h2 : RowF E wr b (p + E.n) l2 f2) (hp : p = o + l1.length * E.n)
    (he : Elm wr w b p E.n cs' G) (hG : ∀ y ∈ G, y ∈ fx) (hfr : Free B wr (b :: (f1 ++ (fx ++ f2)))) (hx : E.F w x' cs' fx) : RowF E w b o (l1 ++ x' :: l2) (f1 ++ (fx ++ f2)) := by
  obtain ⟨hb, hnd⟩ := List.nodup_cons.1 hfr.1
  have keepF : ∀ y, y ∈ f1 ++ (fx ++ f2) → y ∉ fx → ∀ q, w.cell? ⟨y, q, none⟩ = wr.cell? ⟨y, q, none⟩ := fun y hy hyx q => by
    refine he.ext.cell (p := ⟨y, q, none⟩) (hfr.2 y (List.mem_cons_of_mem _ hy)).2.1 (fun h => ?_)
    simp [inl] at h
    rcases h with h | h
    · subst h; exact hb hy
    · exact hyx (hG y h)
  have d1 : ∀ y ∈ f1, y ∉ fx := fun y hy h => (List.nodup_append.1 hnd).2.2 y hy y (by simp [h]) rfl
  have d2 : ∀ y ∈ f2, y ∉ fx := fun y hy h => (List.nodup_append.1 (List.nodup_append.1 hnd).2.1).2.2 y h y hy rfl
  refine RowF.append' (h1.keep (fun y hy q => keepF y (by simp [hy]) (d1 y hy) q) (fun q _ hq => he.rest q (.inl (by omega)))) ?_
  rw [← hp]
  exact ⟨fx, f2, cs', rfl, he.cells, hx, h2.keep (fun y hy q => keepF y (by simp [hy]) (d2 y hy) q) (fun q hq _ => he.rest q (.inr hq))⟩

/-- All one's blocks are still one's own behind the marking of an element. -/
theorem Elm.free {wr w : World} {b p n B : Nat} {cs : List Value} {G f : List Nat} (he : Elm wr w b p n cs G) (hf : Free B wr (b :: f)) (hG : ∀ y ∈ G, ∀ q, w.frozen? ⟨y, q, none⟩ = false) : Free B w (b :: f) := by
  refine hf.sub he.ext (fun y hy q => ?_)
  rcases List.mem_cons.1 hy with rfl | hy
  · exact he.fr q
  · exact hG y hy q
end rows

theorem nodeL_mk (k : Nat) (n : Nd) (na : Option Addr) (nc : Nat) (ka : Option Addr) (kc : Nat) : nodeL (mkK k n) na nc ka kc = [.int .i64 (k : Int), .int .i64 ((k : Int) + 1), .string (mtxt (k + 2)), .slice na n.names.length nc, .slice ka n.kids.length kc] := by
  rw [mkK_eq]; simp [nodeL, mkS_len, mkL_len]
theorem nodeF_mk {w : World} {k : Nat} {n : Nd} {na : Option Addr} {nc : Nat} {ka : Option Addr} {kc : Nat} {f1 f2 : List Nat} (hk : k + 2 ≤ 1000000000) (h1 : StrsF w na nc (mkS (k + 3) n.names.length) f1) (h2 : NodesF w ka kc (mkL (k + 3 + n.names.length) n.kids) f2) :
    NodeF w (mkK k n) na nc ka kc (f1 ++ f2) := by
  rw [mkK_eq]; exact NodeF.mk (mtxt_size _ hk) h1 h2
theorem NodesF.keep' {w w' : World} {a : Option Addr} {c : Nat} {l : List Nd} {fp : List Nat} (hs : NodesF w a c l fp) (h : ∀ b ∈ fp, ∀ o, w'.cell? ⟨b, o, none⟩ = w.cell? ⟨b, o, none⟩) : NodesF w' a c l fp := hs.keep h

end Go.Proofs.Ytchiakeceiefdaa

/-
  The walks of laws.markNode and laws.heldNode.
-/
namespace Go.Proofs.Ytchiakeceiefdaa
open Go.RowKit

set_option maxHeartbeats 2000000 in
theorem markNode_ok (n : Nd) (na : Option Addr) (nc : Nat) (ka : Option Addr) (kc : Nat) (fp : List Nat) (B k : Nat) (i : Int) (w : World) (hi : i = (k : Int)) (hF : NodeF w n na nc ka kc fp) (hfr : Free B w fp) (h1 : 0 < k) (h2 : k + cntT n ≤ 1000000000) :
    Calls Try.prog 42 #[nodeV n na nc ka kc, .int .i64 i] w fun e w' => e = .returned (.int .i64 ((k + cntT n : Nat) : Int)) ∧ Ext (inl fp) w w' ∧ Free B w' fp ∧ NodeF w' (mkT k n) na nc ka kc fp := by
  subst hi
  obtain ⟨f1, f2, rfl, htx, hs, hk⟩ := hF.parts
  have hct : cntT n = n.names.length + cntL n.kids := rfl
  have hnd := List.nodup_append.1 hfr.1
  have hf1 : Free B w f1 := ⟨hnd.1, fun y hy => hfr.2 y (by simp [hy])⟩
  have hf2 : Free B w f2 := ⟨hnd.2.1, fun y hy => hfr.2 y (by simp [hy])⟩
  have hd : ∀ y, y ∈ f1 → y ∈ f2 → False := fun y h1 h2 => hnd.2.2 y h1 y h2 rfl
  have Hct := Lib.hid hct
  have Hs := Lib.hid hs
  have Hk := Lib.hid hk
  have Htx := Lib.hid htx
  have Hf1 := Lib.hid hf1
  have Hf2 := Lib.hid hf2
  have Hd := Lib.hid hd
  have Hfr := Lib.hid hfr
  clear hct hs hk htx hf1 hf2 hd hnd hF hfr
  unfold nodeV
  go_enter Try.func42, Try.ntmps42
  go_wp2_with fail
  have hga : Grow w (w.alloc (.cells #[.int .i64 n.kind, .int .i64 n.num, .string n.text, .slice na n.names.length nc, .slice ka n.kids.length kc] 30)) := (Ext.refl nil w).alloc _
  have hB0 := BoxN.new w (nodeL n na nc ka kc) 30
  have hlt : ∀ y ∈ f1 ++ f2, y < w.heap.size := fun y hy => (Hfr.out.2 y hy).2.1
  have Hlt := Lib.hid hlt
  have HB0 := Lib.hid hB0
  clear hlt hB0
  refine (markStringS_i na nc n.names f1 B k _ _ rfl (Hs.out.keep (hga.keeps Hf1.out (fun _ _ h => h))) (Hf1.out.ext hga (fun _ _ h => h)) (by omega) (by have := Hct.out; omega)).mono ?_
  rintro e w2 ⟨rfl, hx2, hfr2, hF2⟩
  have B2 := HB0.out.ext hx2 (fun h => by have := Hlt.out _ (List.mem_append_left f2 h); omega)
  have p4 := B2.cell 4 _ rfl
  have hk2 := Hk.out.keep' (w' := w2) (fun y hy o => by rw [hx2.cell (p := ⟨y, o, none⟩) (by have := Hlt.out y (by simp [hy]); simp; omega) (fun h => Hd.out y h hy)]; exact hga.cell (p := ⟨y, o, none⟩) (Hlt.out y (by simp [hy])) (fun h => h))
  have hf22 := (Hf2.out.ext hga (fun _ _ h => h)).ext hx2 (fun y hy h => Hd.out y h hy)
  have Hx2 := Lib.hid (hga.toX'.trans (hx2.mono (Y := inl (f1 ++ f2)) (fun y hy => List.mem_append_left f2 hy)))
  have Hk2 := Lib.hid hk2
  have Hf22 := Lib.hid hf22
  have Hfr2 := Lib.hid hfr2
  have HF2 := Lib.hid hF2
  clear hx2 hfr2 hF2 hk2 hf22 B2 hga
  go_wp2_with fail
  refine (markNodeS_ok n.kids ka kc f2 B (k + n.names.length) _ _ (by omega) Hk2.out Hf22.out (by omega) (by have := Hct.out; omega)).mono ?_
  rintro e w3 ⟨rfl, hx3, hfr3, hF3⟩
  have hs3 := HF2.out.keep (w' := w3) (fun y hy o => hx3.cell (p := ⟨y, o, none⟩) (Hfr2.out.2 y hy).2.1 (fun h => Hd.out y hy h))
  have hfr13 := Hfr2.out.ext hx3 (fun y hy h => Hd.out y hy h)
  have Hres : Hid (Ext (inl (f1 ++ f2)) w w3 ∧ Free B w3 (f1 ++ f2) ∧ NodeF w3 (mkT k n) na nc ka kc (f1 ++ f2)) := Lib.hid ⟨Hx2.out.trans (hx3.mono (fun y hy => List.mem_append_right f1 hy)), hfr13.app2 hfr3 Hd.out, by
    unfold mkT NodeF
    obtain ⟨q1, q2, q3⟩ := hF3
    refine ⟨f1, f2, rfl, Htx.out, hs3, q1, q2, ?_⟩
    rcases q3 with ⟨h, h'⟩ | ⟨b, o, f3, q4, q5, q6, q7⟩
    · exact .inl ⟨h, h'⟩
    · exact .inr ⟨b, o, f3, q4, q5, q6, q7⟩⟩
  clear hx3 hfr3 hF3 hs3 hfr13
  go_wp2_with fail
  go_ret
  exact ⟨by rw [Hct.out]; simp; omega, Hres.out⟩

set_option maxHeartbeats 1000000 in
theorem heldNode_ok (n : Nd) (na : Option Addr) (nc : Nat) (ka : Option Addr) (kc : Nat) (k : Nat) (i : Int) (w : World) (hi : i = (k : Int)) (hn : NodeR w any (mkT k n) (nodeV (mkT k n) na nc ka kc)) (h1 : 0 < k) (h2 : k + cntT n ≤ 1000000000) :
    Calls Try.prog 49 #[nodeV (mkT k n) na nc ka kc, .int .i64 i] w fun e w' => e = .returned (.int .i64 ((k + cntT n : Nat) : Int)) ∧ Grow w w' := by
  subst hi
  obtain ⟨a1, c1, a2, c2, he, hc⟩ := hn
  obtain ⟨_, hs, hk⟩ := hc.parts
  have hct : cntT n = n.names.length + cntL n.kids := rfl
  simp only [nodeV, Value.agg.injEq, Array.mk.injEq, List.cons.injEq, Value.slice.injEq, true_and, and_true] at he
  obtain ⟨⟨rfl, rfl⟩, rfl, rfl⟩ := he
  unfold mkT at hs hk
  simp only at hs hk
  have Hct := Lib.hid hct
  have Hs := Lib.hid hs
  have Hk := Lib.hid hk
  clear hct hs hk hc
  have hl : (mkL (k + n.names.length) n.kids).length = n.kids.length := mkL_len _ _
  unfold nodeV mkT
  simp only [mkS_len, hl]
  go_enter Try.func49, Try.ntmps49
  go_wp2_with fail
  refine (heldStringS_i na nc n.names.length k _ _ rfl (Hs.out.grow (by repeat (first | with_reducible exact Ext.refl _ _ | with_reducible refine Ext.trans ?_ (by assumption) | with_reducible refine Ext.drew ?_ | with_reducible refine Ext.drewN ?_ _ | with_reducible refine Ext.alloc ?_ _ | with_reducible refine Ext.setNew ?_ (by simp; done) _ | with_reducible refine Ext.setNew ?_ (by simp; omega) _))) (by omega) (by have := Hct.out; omega)).mono ?_
  rintro e w2 ⟨rfl, hg2⟩
  have hcc := bcell hg2
  go_wp2_with fail
  have hh := heldNodeS_ok n.kids ka kc (k + n.names.length) ((k + n.names.length : Nat) : Int) w2 rfl (Hk.out.grow (by repeat (first | with_reducible exact Ext.refl _ _ | with_reducible refine Ext.trans ?_ (by assumption) | with_reducible refine Ext.drew ?_ | with_reducible refine Ext.drewN ?_ _ | with_reducible refine Ext.alloc ?_ _ | with_reducible refine Ext.setNew ?_ (by simp; done) _ | with_reducible refine Ext.setNew ?_ (by simp; omega) _))) (by omega) (by have := Hct.out; omega)
  refine hh.mono ?_
  rintro e w3 ⟨rfl, hg3⟩
  go_wp2_with fail
  go_ret
  exact ⟨by rw [Hct.out]; simp; omega, (by repeat (first | with_reducible exact Ext.refl _ _ | with_reducible refine Ext.trans ?_ (by assumption) | with_reducible refine Ext.drew ?_ | with_reducible refine Ext.drewN ?_ _ | with_reducible refine Ext.alloc ?_ _ | with_reducible refine Ext.setNew ?_ (by simp; done) _ | with_reducible refine Ext.setNew ?_ (by simp; omega) _))⟩

end Go.Proofs.Ytchiakeceiefdaa

/-
  The walks of the laws' comparisons of texts and nodes.
-/
namespace Go.Proofs.Ytchiakeceiefdaa
open Go.RowKit

mutual
def eqN : Nd → Nd → Bool
  | ⟨k, n, t, ns, ks⟩, m => decide (k = m.kind) && decide (n = m.num) && decide (t = m.text) && decide (ns = m.names) && eqL ks m.kids
def eqL : List Nd → List Nd → Bool
  | [], [] => true
  | a :: l, b :: m => eqN a b && eqL l m
  | _, _ => false
end
mutual
theorem eqN_iff : ∀ a b : Nd, eqN a b = true ↔ a = b
  | ⟨k, n, t, ns, ks⟩, ⟨k', n', t', ns', ks'⟩ => by
    simp only [eqN, Bool.and_eq_true, decide_eq_true_eq, eqL_iff ks ks', Nd.mk.injEq]
    constructor
    · rintro ⟨⟨⟨⟨a, b⟩, c⟩, d⟩, e⟩; exact ⟨a, b, c, d, e⟩
    · rintro ⟨a, b, c, d, e⟩; exact ⟨⟨⟨⟨a, b⟩, c⟩, d⟩, e⟩
theorem eqL_iff : ∀ a b : List Nd, eqL a b = true ↔ a = b
  | [], [] => by simp [eqL]
  | [], _ :: _ => by simp [eqL]
  | _ :: _, [] => by simp [eqL]
  | a :: l, b :: m => by simp only [eqL, Bool.and_eq_true, eqN_iff a b, eqL_iff l m, List.cons.injEq]
end
theorem eqN_eq (a b : Nd) : eqN a b = (decide (a.kind = b.kind) && decide (a.num = b.num) && decide (a.text = b.text) && decide (a.names = b.names) && eqL a.kids b.kids) := by cases a; simp [eqN]
theorem eqN_refl (a : Nd) : eqN a a = true := (eqN_iff a a).2 rfl
theorem eqL_len {a b : List Nd} (h : a.length ≠ b.length) : eqL a b = false := by
  cases h' : eqL a b
  · rfl
  · exact absurd (congrArg List.length ((eqL_iff a b).1 h')) h

def eqS (xs ys : List ByteArray) : Bool := decide (xs = ys)
theorem eqS_cons (x y : ByteArray) (xs ys : List ByteArray) : eqS (x :: xs) (y :: ys) = ((x.toList == y.toList) && eqS xs ys) := by
  rw [beq_toList]; unfold eqS; by_cases h : x = y <;> simp [h]

set_option maxHeartbeats 400000 in
theorem eqStringS_ok (a b : Option Addr) (c d : Nat) (xs ys : List ByteArray) (w : World) (ha : StrsR w any a c xs) (hb : StrsR w any b d ys) :
    Calls Try.prog 20 #[.slice a xs.length c, .slice b ys.length d] w fun e w' => e = .returned (.bool (eqS xs ys)) ∧ Grow w w' := by
  have hbig : xs.length ≤ 9223372036854775807 := ha.2.1
  have Ha := Lib.hid ha
  have Hb := Lib.hid hb
  clear ha hb
  by_cases hl : xs.length = ys.length
  · have hlb : ((xs.length : Int) != (ys.length : Int)) = false := by simp [hl]
    have Hl := Lib.hid hl
    clear hl
    go_enter Try.func20, Try.ntmps20
    go_wp2
    go_loopw [4, 5] (fun n i wr => n = .bool false ∧ Grow w wr ∧ ∃ k : Nat, k ≤ xs.length ∧ i = .int .i64 k ∧ Hid (eqS xs ys = eqS (xs.drop k) (ys.drop k))) (fun _ i _ => xs.length - (intOf i).toNat)
    case atStart => exact ⟨rfl, Ext.refl _ _, 0, Nat.zero_le _, rfl, Lib.hid rfl⟩
    case round =>
      obtain ⟨rfl, hg, k, hk, rfl, Hr⟩ := hrel
      by_cases hlt : k < xs.length
      · have hlt' : k < ys.length := by have := Hl.out; omega
        obtain ⟨_, _, _, ha4⟩ := (Ha.out).grow hg
        obtain ⟨_, _, _, hb4⟩ := (Hb.out).grow hg
        rcases ha4 with rfl | ⟨ba, oa, rfl, _, hca⟩
        · simp at hlt
        rcases hb4 with rfl | ⟨bb, ob, rfl, _, hcb⟩
        · simp at hlt'
        have hx := hca k hlt
        have hy := hcb k hlt'
        have Hs : Hid (eqS (xs.drop k) (ys.drop k) = ((xs[k].toList == ys[k].toList) && eqS (xs.drop (k + 1)) (ys.drop (k + 1)))) := Lib.hid (by rw [drop_cons xs k hlt, drop_cons ys k hlt', eqS_cons])
        clear hca hcb Ha Hb
        cases he : (xs[k].toList == ys[k].toList)
        · go_wp2
          go_quiet (fail)
          go_wp2
          go_ret
          exact ⟨by simp [Hr.out, Hs.out, he], hg.drewN _⟩
        · go_wp2
          go_quiet (fail)
          go_wp2
          go_roundw
          case rel => exact ⟨rfl, hg.drewN _, k + 1, by omega, by go_num, Lib.hid (by rw [Hr.out, Hs.out, he, Bool.true_and])⟩
          case measure => simp [intOf]; omega
      · have Hs : Hid (eqS xs ys = true) := Lib.hid (by rw [Hr.out, List.drop_eq_nil_of_le (by omega), List.drop_eq_nil_of_le (by have := Hl.out; omega)]; rfl)
        go_wp2
        go_ret
        exact ⟨by simp [Hs.out], hg⟩
  · have hlb : ((xs.length : Int) != (ys.length : Int)) = true := by simp; omega
    have Hf : Hid (eqS xs ys = false) := Lib.hid (by unfold eqS; simp; exact fun h => hl (by rw [h]))
    clear hl
    go_enter Try.func20, Try.ntmps20
    go_wp2
    go_ret
    exact ⟨by simp [Hf.out], Ext.refl _ _⟩

def EqOk (n : Nd) : Prop := ∀ (m : Nd) (v u : Value) (w : World), NodeR w any n v → NodeR w any m u →
    Calls Try.prog 30 #[v, u] w fun e w' => e = .returned (.bool (eqN n m)) ∧ Grow w w'

set_option maxHeartbeats 1000000 in
theorem eqNodeS_of (l m : List Nd) (ih : ∀ k ∈ l, EqOk k) (a b : Option Addr) (c d : Nat) (w : World) (ha : NodesR w any a c l) (hb : NodesR w any b d m) :
    Calls Try.prog 81 #[.slice a l.length c, .slice b m.length d] w fun e w' => e = .returned (.bool (eqL l m)) ∧ Grow w w' := by
  have hbig : l.length ≤ 9223372036854775807 := ha.2.1
  have Ha := Lib.hid ha
  have Hb := Lib.hid hb
  have Ih := Lib.hid ih
  clear ha hb ih
  by_cases hl : l.length = m.length
  · have hlb : ((l.length : Int) != (m.length : Int)) = false := by simp [hl]
    have Hl := Lib.hid hl
    clear hl
    go_enter Try.func81, Try.ntmps81
    go_wp2
    go_loopw [4, 5] (fun n i wr => n = .bool false ∧ Grow w wr ∧ ∃ k : Nat, k ≤ l.length ∧ i = .int .i64 k ∧ Hid (eqL l m = eqL (l.drop k) (m.drop k))) (fun _ i _ => l.length - (intOf i).toNat)
    case atStart => exact ⟨rfl, Ext.refl _ _, 0, Nat.zero_le _, rfl, Lib.hid rfl⟩
    case round =>
      obtain ⟨rfl, hg, k, hk, rfl, Hr⟩ := hrel
      by_cases hlt : k < l.length
      · have hlt' : k < m.length := by have := Hl.out; omega
        obtain ⟨_, _, ha4⟩ := (Ha.out).grow hg
        obtain ⟨_, _, hb4⟩ := (Hb.out).grow hg
        rcases ha4 with rfl | ⟨ba, oa, rfl, _, hca⟩
        · simp at hlt
        rcases hb4 with rfl | ⟨bb, ob, rfl, _, hcb⟩
        · simp at hlt'
        obtain ⟨na, nc, ka, kc, a0, a1, a2, a3, a4, hkc⟩ := hca.get k hlt
        obtain ⟨na', nc', ka', kc', b0, b1, b2, b3, b4, hkc'⟩ := hcb.get k hlt'
        have Hx : Hid (NodeR wr any l[k] (nodeV l[k] na nc ka kc)) := Lib.hid ⟨_, _, _, _, rfl, hkc⟩
        have Hy : Hid (NodeR wr any m[k] (nodeV m[k] na' nc' ka' kc')) := Lib.hid ⟨_, _, _, _, rfl, hkc'⟩
        have Hs : Hid (eqL (l.drop k) (m.drop k) = (eqN l[k] m[k] && eqL (l.drop (k + 1)) (m.drop (k + 1)))) := Lib.hid (by rw [drop_cons l k hlt, drop_cons m k hlt', eqL])
        clear hca hcb Ha Hb hkc hkc'
        cases he : eqN l[k] m[k]
        · have He := Lib.hid he
          go_wp2
          (refine wp_region_later (by kernel_rfl) (by kernel_rfl) ?_; (repeat (first | go_big_quiet_step ((go_at_call 30; exact later_call (Ih.out _ (List.getElem_mem hlt) _ _ _ _ (Hx.out.grow (later_grow _ _)) (Hy.out.grow (later_grow _ _))))) | quiet_step ((go_at_call 30; exact later_call (Ih.out _ (List.getElem_mem hlt) _ _ _ _ (Hx.out.grow (later_grow _ _)) (Hy.out.grow (later_grow _ _))))))); refine wpQuiet_nil ?_; rintro _ ⟨x_w2, rfl⟩; have hg_w2 := later_grow wr x_w2; generalize later wr x_w2 = w2 at hg_w2 ⊢)
          go_wp2
          go_ret
          exact ⟨by simp [Hr.out, Hs.out, He.out], hg.trans hg_w2⟩
        · have He := Lib.hid he
          go_wp2
          (refine wp_region_later (by kernel_rfl) (by kernel_rfl) ?_; (repeat (first | go_big_quiet_step ((go_at_call 30; exact later_call (Ih.out _ (List.getElem_mem hlt) _ _ _ _ (Hx.out.grow (later_grow _ _)) (Hy.out.grow (later_grow _ _))))) | quiet_step ((go_at_call 30; exact later_call (Ih.out _ (List.getElem_mem hlt) _ _ _ _ (Hx.out.grow (later_grow _ _)) (Hy.out.grow (later_grow _ _))))))); refine wpQuiet_nil ?_; rintro _ ⟨x_w2, rfl⟩; have hg_w2 := later_grow wr x_w2; generalize later wr x_w2 = w2 at hg_w2 ⊢)
          go_wp2
          go_roundw
          case rel => exact ⟨rfl, hg.trans hg_w2, k + 1, by omega, by go_num, Lib.hid (by rw [Hr.out, Hs.out, He.out, Bool.true_and])⟩
          case measure => simp [intOf]; omega
      · have Hs : Hid (eqL l m = true) := Lib.hid (by rw [Hr.out, List.drop_eq_nil_of_le (by omega), List.drop_eq_nil_of_le (by have := Hl.out; omega)]; rfl)
        go_wp2
        go_ret
        exact ⟨by simp [Hs.out], hg⟩
  · have hlb : ((l.length : Int) != (m.length : Int)) = true := by simp; omega
    have Hf := Lib.hid (eqL_len hl)
    clear hl
    go_enter Try.func81, Try.ntmps81
    go_wp2
    go_ret
    exact ⟨by simp [Hf.out], Ext.refl _ _⟩

theorem eqN_kind {a b : Nd} (h : ¬ a.kind = b.kind) : eqN a b = false := by rw [eqN_eq]; simp [h]
theorem eqN_num {a b : Nd} (h : ¬ a.num = b.num) : eqN a b = false := by rw [eqN_eq]; simp [h]
theorem eqN_text {a b : Nd} (h : ¬ a.text = b.text) : eqN a b = false := by rw [eqN_eq]; simp [h]
theorem eqN_names {a b : Nd} (h : eqS a.names b.names = false) : eqN a b = false := by rw [eqN_eq]; unfold eqS at h; simp [of_decide_eq_false h]
theorem eqN_kids {a b : Nd} (h : eqL a.kids b.kids = false) : eqN a b = false := by rw [eqN_eq]; simp [h]
theorem eqN_all {a b : Nd} (h1 : a.kind = b.kind) (h2 : a.num = b.num) (h3 : a.text = b.text) (h4 : eqS a.names b.names = true) (h5 : eqL a.kids b.kids = true) : eqN a b = true := by
  rw [eqN_eq]; unfold eqS at h4; simp [h1, h2, h3, of_decide_eq_true h4, h5]

set_option maxHeartbeats 1000000 in
theorem eqNode_ok : ∀ n, EqOk n := by
  refine Nd.ind' EqOk ?_
  intro n ih m v u w hn hm
  have Ih := Lib.hid ih
  obtain ⟨na, nc, ka, kc, rfl, hc⟩ := hn
  obtain ⟨_, hns, hks⟩ := hc.parts
  obtain ⟨na', nc', ka', kc', rfl, hc'⟩ := hm
  obtain ⟨_, hns', hks'⟩ := hc'.parts
  have Hns := Lib.hid hns
  have Hks := Lib.hid hks
  have Hns' := Lib.hid hns'
  have Hks' := Lib.hid hks'
  clear ih hc hns hks hc' hns' hks'
  unfold nodeV at *
  by_cases h1 : n.kind = m.kind
  rotate_left
  · have Hf := Lib.hid (eqN_kind h1)
    have hb1 : (n.kind != m.kind) = true := by simpa using h1
    clear h1
    go_enter Try.func30, Try.ntmps30
    go_wp2_with fail
    go_ret
    exact ⟨by simp [Hf.out], (by repeat (first | with_reducible exact Ext.refl _ _ | with_reducible refine Ext.trans ?_ (by assumption) | with_reducible refine Ext.drew ?_ | with_reducible refine Ext.drewN ?_ _ | with_reducible refine Ext.alloc ?_ _ | with_reducible refine Ext.setNew ?_ (by simp; done) _ | with_reducible refine Ext.setNew ?_ (by simp; omega) _))⟩
  by_cases h2 : n.num = m.num
  rotate_left
  · have Hf := Lib.hid (eqN_num h2)
    have hb1 : (n.kind != m.kind) = false := by simp [h1]
    have hb2 : (n.num != m.num) = true := by simpa using h2
    clear h1 h2
    go_enter Try.func30, Try.ntmps30
    go_wp2_with fail
    go_ret
    exact ⟨by simp [Hf.out], (by repeat (first | with_reducible exact Ext.refl _ _ | with_reducible refine Ext.trans ?_ (by assumption) | with_reducible refine Ext.drew ?_ | with_reducible refine Ext.drewN ?_ _ | with_reducible refine Ext.alloc ?_ _ | with_reducible refine Ext.setNew ?_ (by simp; done) _ | with_reducible refine Ext.setNew ?_ (by simp; omega) _))⟩
  have hb1 : (n.kind != m.kind) = false := by simp [h1]
  have hb2 : (n.num != m.num) = false := by simp [h2]
  by_cases h3 : n.text = m.text
  rotate_left
  · have Hf := Lib.hid (eqN_text h3)
    have hb3 : (n.text.toList == m.text.toList) = false := by rw [beq_toList]; simp [h3]
    clear h1 h2 h3
    go_enter Try.func30, Try.ntmps30
    go_wp2_with fail
    go_ret
    exact ⟨by simp [Hf.out], (by repeat (first | with_reducible exact Ext.refl _ _ | with_reducible refine Ext.trans ?_ (by assumption) | with_reducible refine Ext.drew ?_ | with_reducible refine Ext.drewN ?_ _ | with_reducible refine Ext.alloc ?_ _ | with_reducible refine Ext.setNew ?_ (by simp; done) _ | with_reducible refine Ext.setNew ?_ (by simp; omega) _))⟩
  have hb3 : (n.text.toList == m.text.toList) = true := by rw [beq_toList]; simp [h3]
  cases h4 : eqS n.names m.names
  · have Hf := Lib.hid (eqN_names h4)
    have H4 := Lib.hid h4
    clear h1 h2 h3 h4
    go_enter Try.func30, Try.ntmps30
    go_wp2_with (go_at_call 20; refine (eqStringS_ok _ _ _ _ _ _ _ (Hns.out.grow (by repeat (first | with_reducible exact Ext.refl _ _ | with_reducible refine Ext.trans ?_ (by assumption) | with_reducible refine Ext.drew ?_ | with_reducible refine Ext.drewN ?_ _ | with_reducible refine Ext.alloc ?_ _ | with_reducible refine Ext.setNew ?_ (by simp; done) _ | with_reducible refine Ext.setNew ?_ (by simp; omega) _))) (Hns'.out.grow (by repeat (first | with_reducible exact Ext.refl _ _ | with_reducible refine Ext.trans ?_ (by assumption) | with_reducible refine Ext.drew ?_ | with_reducible refine Ext.drewN ?_ _ | with_reducible refine Ext.alloc ?_ _ | with_reducible refine Ext.setNew ?_ (by simp; done) _ | with_reducible refine Ext.setNew ?_ (by simp; omega) _)))).mono ?_; rintro e w2 ⟨rfl, hg2⟩; simp only [H4.out])
    go_ret
    exact ⟨by simp [Hf.out], (by repeat (first | with_reducible exact Ext.refl _ _ | with_reducible refine Ext.trans ?_ (by assumption) | with_reducible refine Ext.drew ?_ | with_reducible refine Ext.drewN ?_ _ | with_reducible refine Ext.alloc ?_ _ | with_reducible refine Ext.setNew ?_ (by simp; done) _ | with_reducible refine Ext.setNew ?_ (by simp; omega) _))⟩
  have H4 := Lib.hid h4
  cases h5 : eqL n.kids m.kids
  · have Hf := Lib.hid (eqN_kids h5)
    have H5 := Lib.hid h5
    clear h1 h2 h3 h4 h5
    go_enter Try.func30, Try.ntmps30
    go_wp2_with (first | (go_at_call 20; refine (eqStringS_ok _ _ _ _ _ _ _ (Hns.out.grow (by repeat (first | with_reducible exact Ext.refl _ _ | with_reducible refine Ext.trans ?_ (by assumption) | with_reducible refine Ext.drew ?_ | with_reducible refine Ext.drewN ?_ _ | with_reducible refine Ext.alloc ?_ _ | with_reducible refine Ext.setNew ?_ (by simp; done) _ | with_reducible refine Ext.setNew ?_ (by simp; omega) _))) (Hns'.out.grow (by repeat (first | with_reducible exact Ext.refl _ _ | with_reducible refine Ext.trans ?_ (by assumption) | with_reducible refine Ext.drew ?_ | with_reducible refine Ext.drewN ?_ _ | with_reducible refine Ext.alloc ?_ _ | with_reducible refine Ext.setNew ?_ (by simp; done) _ | with_reducible refine Ext.setNew ?_ (by simp; omega) _)))).mono ?_; rintro e w2 ⟨rfl, hg2⟩; simp only [H4.out]; have hcc := bcell hg2) | (go_at_call 81; refine (eqNodeS_of _ _ Ih.out _ _ _ _ _ (Hks.out.grow (by repeat (first | with_reducible exact Ext.refl _ _ | with_reducible refine Ext.trans ?_ (by assumption) | with_reducible refine Ext.drew ?_ | with_reducible refine Ext.drewN ?_ _ | with_reducible refine Ext.alloc ?_ _ | with_reducible refine Ext.setNew ?_ (by simp; done) _ | with_reducible refine Ext.setNew ?_ (by simp; omega) _))) (Hks'.out.grow (by repeat (first | with_reducible exact Ext.refl _ _ | with_reducible refine Ext.trans ?_ (by assumption) | with_reducible refine Ext.drew ?_ | with_reducible refine Ext.drewN ?_ _ | with_reducible refine Ext.alloc ?_ _ | with_reducible refine Ext.setNew ?_ (by simp; done) _ | with_reducible refine Ext.setNew ?_ (by simp; omega) _)))).mono ?_; rintro e w3 ⟨rfl, hg3⟩; simp only [H5.out]))
    go_ret
    exact ⟨by simp [Hf.out], (by repeat (first | with_reducible exact Ext.refl _ _ | with_reducible refine Ext.trans ?_ (by assumption) | with_reducible refine Ext.drew ?_ | with_reducible refine Ext.drewN ?_ _ | with_reducible refine Ext.alloc ?_ _ | with_reducible refine Ext.setNew ?_ (by simp; done) _ | with_reducible refine Ext.setNew ?_ (by simp; omega) _))⟩
  · have Hf := Lib.hid (eqN_all h1 h2 h3 h4 h5)
    have H5 := Lib.hid h5
    clear h1 h2 h3 h4 h5
    go_enter Try.func30, Try.ntmps30
    go_wp2_with (first | (go_at_call 20; refine (eqStringS_ok _ _ _ _ _ _ _ (Hns.out.grow (by repeat (first | with_reducible exact Ext.refl _ _ | with_reducible refine Ext.trans ?_ (by assumption) | with_reducible refine Ext.drew ?_ | with_reducible refine Ext.drewN ?_ _ | with_reducible refine Ext.alloc ?_ _ | with_reducible refine Ext.setNew ?_ (by simp; done) _ | with_reducible refine Ext.setNew ?_ (by simp; omega) _))) (Hns'.out.grow (by repeat (first | with_reducible exact Ext.refl _ _ | with_reducible refine Ext.trans ?_ (by assumption) | with_reducible refine Ext.drew ?_ | with_reducible refine Ext.drewN ?_ _ | with_reducible refine Ext.alloc ?_ _ | with_reducible refine Ext.setNew ?_ (by simp; done) _ | with_reducible refine Ext.setNew ?_ (by simp; omega) _)))).mono ?_; rintro e w2 ⟨rfl, hg2⟩; simp only [H4.out]; have hcc := bcell hg2) | (go_at_call 81; refine (eqNodeS_of _ _ Ih.out _ _ _ _ _ (Hks.out.grow (by repeat (first | with_reducible exact Ext.refl _ _ | with_reducible refine Ext.trans ?_ (by assumption) | with_reducible refine Ext.drew ?_ | with_reducible refine Ext.drewN ?_ _ | with_reducible refine Ext.alloc ?_ _ | with_reducible refine Ext.setNew ?_ (by simp; done) _ | with_reducible refine Ext.setNew ?_ (by simp; omega) _))) (Hks'.out.grow (by repeat (first | with_reducible exact Ext.refl _ _ | with_reducible refine Ext.trans ?_ (by assumption) | with_reducible refine Ext.drew ?_ | with_reducible refine Ext.drewN ?_ _ | with_reducible refine Ext.alloc ?_ _ | with_reducible refine Ext.setNew ?_ (by simp; done) _ | with_reducible refine Ext.setNew ?_ (by simp; omega) _)))).mono ?_; rintro e w3 ⟨rfl, hg3⟩; simp only [H5.out]))
    go_ret
    exact ⟨by simp [Hf.out], (by repeat (first | with_reducible exact Ext.refl _ _ | with_reducible refine Ext.trans ?_ (by assumption) | with_reducible refine Ext.drew ?_ | with_reducible refine Ext.drewN ?_ _ | with_reducible refine Ext.alloc ?_ _ | with_reducible refine Ext.setNew ?_ (by simp; done) _ | with_reducible refine Ext.setNew ?_ (by simp; omega) _))⟩

theorem eqNodeS_ok (l m : List Nd) (a b : Option Addr) (c d : Nat) (w : World) (ha : NodesR w any a c l) (hb : NodesR w any b d m) :
    Calls Try.prog 81 #[.slice a l.length c, .slice b m.length d] w fun e w' => e = .returned (.bool (eqL l m)) ∧ Grow w w' :=
  eqNodeS_of l m (fun k _ => eqNode_ok k) a b c d w ha hb

end Go.Proofs.Ytchiakeceiefdaa

/-
  The walks of the laws' helpers on Entry: sizes, copies, comparisons with themselves. (Printed by wip/gentypes.py.)
-/
namespace Go.Proofs.Ytchiakeceiefdaa
open Go.RowKit

abbrev Ent := Nd × ByteArray
def entRep : Rep Ent := pairRep nodeRep (strRep)
theorem entRep_n : entRep.n = 6 := rfl
def entL (x : Ent) (na0 : Option Addr) (nc0 : Nat) (ka0 : Option Addr) (kc0 : Nat) : List Value := [.int .i64 x.1.kind, .int .i64 x.1.num, .string x.1.text, .slice na0 x.1.names.length nc0, .slice ka0 x.1.kids.length kc0, .string x.2]
def costEnt (x : Ent) : Nat := costN x.1 + x.2.size
def costEntL (l : List Ent) : Nat := l.length + (l.map costEnt).sum
def sumEnt (l : List Ent) : Nat := (l.map costEnt).sum
theorem sumEnt_snoc (l : List Ent) (x : Ent) : sumEnt (l ++ [x]) = sumEnt l + costEnt x := by simp [sumEnt]
theorem sumEnt_take (l : List Ent) (k : Nat) : sumEnt (l.take k) ≤ sumEnt l := by
  unfold sumEnt; rw [List.map_take]; exact sum_take_le _ _
theorem costEnt_get (l : List Ent) (k : Nat) (h : k < l.length) : costEnt l[k] ≤ costEntL l := by
  have := sumEnt_take l (k + 1)
  rw [take_snoc' _ _ h, sumEnt_snoc] at this
  unfold costEntL; unfold sumEnt at *; omega

theorem entRep_open {w : World} {S : Nat → Prop} {x : Ent} {cs : List Value} (h : entRep.R w S x cs) : ∃ (na0 : Option Addr) (nc0 : Nat) (ka0 : Option Addr) (kc0 : Nat), cs = entL x na0 nc0 ka0 kc0 ∧ NodeC w S x.1 na0 nc0 ka0 kc0 ∧ x.2.size ≤ big := by
  obtain ⟨_, _, rfl, ⟨na0, nc0, ka0, kc0, rfl, h0⟩, ⟨rfl, h1⟩⟩ := h
  exact ⟨na0, nc0, ka0, kc0, rfl, h0, h1⟩

theorem entRep_openF {w : World} {x : Ent} {cs : List Value} {fp : List Nat} (h : entRep.F w x cs fp) : ∃ (na0 : Option Addr) (nc0 : Nat) (ka0 : Option Addr) (kc0 : Nat), cs = entL x na0 nc0 ka0 kc0 ∧ True ∧ x.2.size ≤ big := by
  obtain ⟨_, _, _, _, rfl, _, ⟨na0, nc0, ka0, kc0, rfl, h0⟩, ⟨rfl, h1, _⟩⟩ := h
  exact ⟨na0, nc0, ka0, kc0, rfl, trivial, h1⟩

set_option maxHeartbeats 2000000 in
theorem szEntry_ok (x : Ent) (cs : List Value) (left : Int) (w : World) (hb0 : 0 ≤ left) (hb1 : left ≤ 1048576) (hx : entRep.R w any x cs) :
    Calls Try.prog 87 #[.agg cs.toArray, .int .i64 left] w fun e w' => e = .returned (.int .i64 (szR (costEnt x) left)) ∧ Grow w w' := by
  obtain ⟨na0, nc0, ka0, kc0, rfl, h0, h1⟩ := entRep_open hx
  have H0 := Lib.hid h0
  have hs1 : x.2.size ≤ 9223372036854775807 := h1
  clear h0 h1
  have Hce : Hid (costEnt x = costN x.1 + x.2.size) := Lib.hid rfl
  unfold entL
  by_cases a0 : left < ((costN x.1 : Nat) : Int)
  · have Hf := Lib.hid (szR_neg (c := costEnt x) (left := left) (by have := Hce.out; omega))
    have Hs0 := Lib.hid (szR_neg a0)
    go_enter Try.func87, Try.ntmps87
    go_wp2_with fail
    refine (szNode_ok x.1 _ _ _ (by omega) (by omega) ⟨_, _, _, _, rfl, H0.out.grow' (by repeat (first | with_reducible exact Ext.refl _ _ | with_reducible refine Ext.trans ?_ (by assumption) | with_reducible refine Ext.drew ?_ | with_reducible refine Ext.drewN ?_ _ | with_reducible refine Ext.alloc ?_ _ | with_reducible refine Ext.setNew ?_ (by simp; done) _ | with_reducible refine Ext.setNew ?_ (by simp; omega) _))⟩).mono ?_
    rintro e w2 ⟨rfl, hg2⟩
    simp only [Hs0.out]
    have hcc2 := bcell hg2
    go_wp2_with fail
    go_ret
    exact ⟨by simp [Hf.out], (by repeat (first | with_reducible exact Ext.refl _ _ | with_reducible refine Ext.trans ?_ (by assumption) | with_reducible refine Ext.drew ?_ | with_reducible refine Ext.drewN ?_ _ | with_reducible refine Ext.alloc ?_ _ | with_reducible refine Ext.setNew ?_ (by simp; done) _ | with_reducible refine Ext.setNew ?_ (by simp; omega) _))⟩
  have Hs0 := Lib.hid (szR_pos (c := costN x.1) (left := left) (by omega))
  by_cases a1 : left - ((costN x.1 : Nat) : Int) < ((x.2.size : Nat) : Int)
  · have Hf := Lib.hid (szR_neg (c := costEnt x) (left := left) (by have := Hce.out; omega))
    go_enter Try.func87, Try.ntmps87
    go_wp2_with fail
    refine (szNode_ok x.1 _ _ _ (by omega) (by omega) ⟨_, _, _, _, rfl, H0.out.grow' (by repeat (first | with_reducible exact Ext.refl _ _ | with_reducible refine Ext.trans ?_ (by assumption) | with_reducible refine Ext.drew ?_ | with_reducible refine Ext.drewN ?_ _ | with_reducible refine Ext.alloc ?_ _ | with_reducible refine Ext.setNew ?_ (by simp; done) _ | with_reducible refine Ext.setNew ?_ (by simp; omega) _))⟩).mono ?_
    rintro e w2 ⟨rfl, hg2⟩
    simp only [Hs0.out]
    have hcc2 := bcell hg2
    go_wp2_with fail
    go_ret
    exact ⟨by simp [Hf.out], (by repeat (first | with_reducible exact Ext.refl _ _ | with_reducible refine Ext.trans ?_ (by assumption) | with_reducible refine Ext.drew ?_ | with_reducible refine Ext.drewN ?_ _ | with_reducible refine Ext.alloc ?_ _ | with_reducible refine Ext.setNew ?_ (by simp; done) _ | with_reducible refine Ext.setNew ?_ (by simp; omega) _))⟩
  have Hf := Lib.hid (szR_pos (c := costEnt x) (left := left) (by have := Hce.out; omega))
  go_enter Try.func87, Try.ntmps87
  go_wp2_with fail
  refine (szNode_ok x.1 _ _ _ (by omega) (by omega) ⟨_, _, _, _, rfl, H0.out.grow' (by repeat (first | with_reducible exact Ext.refl _ _ | with_reducible refine Ext.trans ?_ (by assumption) | with_reducible refine Ext.drew ?_ | with_reducible refine Ext.drewN ?_ _ | with_reducible refine Ext.alloc ?_ _ | with_reducible refine Ext.setNew ?_ (by simp; done) _ | with_reducible refine Ext.setNew ?_ (by simp; omega) _))⟩).mono ?_
  rintro e w2 ⟨rfl, hg2⟩
  simp only [Hs0.out]
  have hcc2 := bcell hg2
  go_wp2_with fail
  go_ret
  exact ⟨by have h1 := Hf.out; have h2 := Hce.out; rw [h1]; simp; omega, (by repeat (first | with_reducible exact Ext.refl _ _ | with_reducible refine Ext.trans ?_ (by assumption) | with_reducible refine Ext.drew ?_ | with_reducible refine Ext.drewN ?_ _ | with_reducible refine Ext.alloc ?_ _ | with_reducible refine Ext.setNew ?_ (by simp; done) _ | with_reducible refine Ext.setNew ?_ (by simp; omega) _))⟩

set_option maxHeartbeats 1000000 in
theorem szEntryS_ok (l : List Ent) (a : Option Addr) (c : Nat) (left : Int) (w : World) (hn : SlR entRep w any a c l) (h0 : 0 ≤ left) (h1 : left ≤ 1048576) :
    Calls Try.prog 36 #[.slice a l.length c, .int .i64 left] w fun e w' => e = .returned (.int .i64 (szR (costEntL l) left)) ∧ Grow w w' := by
  have hbig : l.length ≤ 9223372036854775807 := hn.2.1
  have hce : costEntL l = l.length + sumEnt l := rfl
  have Hce := Lib.hid hce
  have Hn := Lib.hid hn
  clear hn hce
  by_cases hl : left < (l.length : Int)
  · have Hf := Lib.hid (szR_neg (c := costEntL l) (left := left) (by rw [Hce.out]; omega))
    go_enter Try.func36, Try.ntmps36
    go_wp2
    go_ret
    exact ⟨by rw [Hf.out]; simp, Ext.refl _ _⟩
  · go_enter Try.func36, Try.ntmps36
    go_wp2
    go_loopw [1, 5] (fun t i wr => Grow w wr ∧ ∃ (k : Nat) (r : Int), k ≤ l.length ∧ i = .int .i64 k ∧ t = .int .i64 r ∧ 0 ≤ r ∧ r ≤ 1048576 ∧ Hid (r = left - l.length - sumEnt (l.take k))) (fun _ i _ => l.length - (intOf i).toNat)
    case atStart => exact ⟨Ext.refl _ _, 0, _, Nat.zero_le _, rfl, rfl, by omega, by omega, Lib.hid (by simp [sumEnt])⟩
    case round =>
      obtain ⟨hg, k, r, hk, rfl, rfl, hr0, hr1, Hr⟩ := hrel
      have hst := sumEnt_take l k
      by_cases hlt : k < l.length
      · obtain ⟨_, _, hks⟩ := (Hn.out).grow hg
        rcases hks with hks | ⟨bk, ok, rfl, _, hkr⟩
        · simp [hks] at hlt
        obtain ⟨cs, hcs, hx⟩ := hkr k hlt
        have Hx := Lib.hid hx
        obtain ⟨na0, nc0, ka0, kc0, rfl, h0, h1⟩ := entRep_open hx
        rw [entRep_n] at hcs
        have x0 : wr.cell? ⟨bk, ok + k * 6, none⟩ = _ := hcs 0 _ rfl
        have x1 := hcs 1 _ rfl
        have x2 := hcs 2 _ rfl
        have x3 := hcs 3 _ rfl
        have x4 := hcs 4 _ rfl
        have x5 := hcs 5 _ rfl
        have hst2 := sumEnt_take l (k + 1)
        rw [take_snoc' _ _ hlt, sumEnt_snoc] at hst2
        clear hkr hcs hx h0 h1
        by_cases hneg : r < (costEnt l[k] : Int)
        · have Hf : Hid (szR (costEntL l) left = -1) := Lib.hid (szR_neg (by rw [Hce.out]; have := Hr.out; omega))
          have Hs := Lib.hid (szR_neg hneg)
          go_wp2_with fail
          refine (szEntry_ok l[k] _ _ _ hr0 hr1 Hx.out).mono ?_
          rintro e w2 ⟨rfl, hg2⟩
          simp only [Hs.out]
          go_wp2_with fail
          go_ret
          exact ⟨by simp [Hf.out], hg.trans hg2⟩
        · have Hs := Lib.hid (szR_pos (c := costEnt l[k]) (left := r) (by omega))
          go_wp2_with fail
          refine (szEntry_ok l[k] _ _ _ hr0 hr1 Hx.out).mono ?_
          rintro e w2 ⟨rfl, hg2⟩
          simp only [Hs.out]
          go_wp2_with fail
          go_roundw
          case rel => exact ⟨hg.trans hg2, k + 1, _, by omega, by go_num, rfl, by omega, by omega, Lib.hid (by rw [take_snoc' _ _ hlt, sumEnt_snoc, Hr.out]; omega)⟩
          case measure => simp [intOf]; omega
      · have hke : k = l.length := by omega
        have Hf : Hid (szR (costEntL l) left = r) := Lib.hid (by
          have h2 := Hr.out
          rw [hke, List.take_length] at h2
          rw [szR_pos (by rw [Hce.out]; omega), Hce.out]; omega)
        have Hke := Lib.hid hke
        clear hke
        go_wp2
        go_ret
        exact ⟨by simp [Hf.out], hg⟩

set_option maxHeartbeats 2000000 in
theorem eqEntry_same (x : Ent) (cs ds : List Value) (w : World) (hx : entRep.R w any x cs) (hy : entRep.R w any x ds) :
    Calls Try.prog 93 #[.agg cs.toArray, .agg ds.toArray] w fun e w' => e = .returned (.bool true) ∧ Grow w w' := by
  obtain ⟨na0, nc0, ka0, kc0, rfl, h0, h1⟩ := entRep_open hx
  obtain ⟨na0', nc0', ka0', kc0', rfl, h0', h1'⟩ := entRep_open hy
  have H0 := Lib.hid h0
  have H0' := Lib.hid h0'
  have E0 : Hid (eqN x.1 x.1 = true) := Lib.hid (eqN_refl _)
  have e1 : (x.2.toList == x.2.toList) = true := by simp
  clear hx hy h0 h0' h1 h1'
  unfold entL
  go_enter Try.func93, Try.ntmps93
  go_wp2_with fail
  refine (eqNode_ok x.1 x.1 _ _ _ ⟨_, _, _, _, rfl, H0.out.grow' (by repeat (first | with_reducible exact Ext.refl _ _ | with_reducible refine Ext.trans ?_ (by assumption) | with_reducible refine Ext.drew ?_ | with_reducible refine Ext.drewN ?_ _ | with_reducible refine Ext.alloc ?_ _ | with_reducible refine Ext.setNew ?_ (by simp; done) _ | with_reducible refine Ext.setNew ?_ (by simp; omega) _))⟩ ⟨_, _, _, _, rfl, H0'.out.grow' (by repeat (first | with_reducible exact Ext.refl _ _ | with_reducible refine Ext.trans ?_ (by assumption) | with_reducible refine Ext.drew ?_ | with_reducible refine Ext.drewN ?_ _ | with_reducible refine Ext.alloc ?_ _ | with_reducible refine Ext.setNew ?_ (by simp; done) _ | with_reducible refine Ext.setNew ?_ (by simp; omega) _))⟩).mono ?_
  rintro e w2 ⟨rfl, hg2⟩
  simp only [E0.out]
  have hcc2 := bcell hg2
  go_wp2_with fail
  go_ret
  exact ⟨by simp, (by repeat (first | with_reducible exact Ext.refl _ _ | with_reducible refine Ext.trans ?_ (by assumption) | with_reducible refine Ext.drew ?_ | with_reducible refine Ext.drewN ?_ _ | with_reducible refine Ext.alloc ?_ _ | with_reducible refine Ext.setNew ?_ (by simp; done) _ | with_reducible refine Ext.setNew ?_ (by simp; omega) _))⟩

set_option maxRecDepth 100000 in
set_option maxHeartbeats 1000000 in
theorem eqEntryS_same (l : List Ent) (a b : Option Addr) (c d : Nat) (w : World) (ha : SlR entRep w any a c l) (hb : SlR entRep w any b d l) :
    Calls Try.prog 40 #[.slice a l.length c, .slice b l.length d] w fun e w' => e = .returned (.bool true) ∧ Grow w w' := by
  have hbig : l.length ≤ 9223372036854775807 := ha.2.1
  have Ha := Lib.hid ha
  have Hb := Lib.hid hb
  clear ha hb
  have hlb : ((l.length : Int) != (l.length : Int)) = false := by simp
  go_enter Try.func40, Try.ntmps40
  go_wp2
  go_loopw [4, 5] (fun n i wr => n = .bool false ∧ Grow w wr ∧ ∃ k : Nat, k ≤ l.length ∧ i = .int .i64 k) (fun _ i _ => l.length - (intOf i).toNat)
  case atStart => exact ⟨rfl, Ext.refl _ _, 0, Nat.zero_le _, rfl⟩
  case round =>
    obtain ⟨rfl, hg, k, hk, rfl⟩ := hrel
    by_cases hlt : k < l.length
    · obtain ⟨_, _, ha4⟩ := (Ha.out).grow hg
      obtain ⟨_, _, hb4⟩ := (Hb.out).grow hg
      rcases ha4 with hh | ⟨ba, oa, rfl, _, hca⟩
      · rw [hh] at hlt; simp at hlt
      rcases hb4 with hh | ⟨bb, ob, rfl, _, hcb⟩
      · rw [hh] at hlt; simp at hlt
      obtain ⟨cs, hcs, hx⟩ := hca k hlt
      obtain ⟨ds, hds, hy⟩ := hcb k hlt
      have Hx := Lib.hid hx
      have Hy := Lib.hid hy
      obtain ⟨na0, nc0, ka0, kc0, rfl, h0, h1⟩ := entRep_open hx
      obtain ⟨na0', nc0', ka0', kc0', rfl, h0', h1'⟩ := entRep_open hy
      rw [entRep_n] at hcs hds
      have x0 : wr.cell? ⟨ba, oa + k * 6, none⟩ = _ := hcs 0 _ rfl
      have x1 := hcs 1 _ rfl
      have x2 := hcs 2 _ rfl
      have x3 := hcs 3 _ rfl
      have x4 := hcs 4 _ rfl
      have x5 := hcs 5 _ rfl
      have y0 : wr.cell? ⟨bb, ob + k * 6, none⟩ = _ := hds 0 _ rfl
      have y1 := hds 1 _ rfl
      have y2 := hds 2 _ rfl
      have y3 := hds 3 _ rfl
      have y4 := hds 4 _ rfl
      have y5 := hds 5 _ rfl
      clear hca hcb Ha Hb hcs hds hx hy h0 h0' h1 h1'
      go_wp2_with fail
      (refine wp_region_later (by kernel_rfl) (by kernel_rfl) ?_; (repeat (first | go_big_quiet_step ((go_at_call 93; exact later_call (v := .bool true) (eqEntry_same l[k] _ _ _ (entRep.grow Hx.out (later_grow _ _)) (entRep.grow Hy.out (later_grow _ _))))) | quiet_step ((go_at_call 93; exact later_call (v := .bool true) (eqEntry_same l[k] _ _ _ (entRep.grow Hx.out (later_grow _ _)) (entRep.grow Hy.out (later_grow _ _))))))); refine wpQuiet_nil ?_; rintro _ ⟨x_w2, rfl⟩; have hg_w2 := later_grow wr x_w2; generalize later wr x_w2 = w2 at hg_w2 ⊢)
      go_wp2_with fail
      go_roundw
      case rel => exact ⟨rfl, hg.trans hg_w2, k + 1, by omega, by go_num⟩
      case measure => simp [intOf]; omega
    · go_wp2_with fail
      go_ret
      exact ⟨by simp, hg⟩

end Go.Proofs.Ytchiakeceiefdaa

/-
  The walk of markEntryS. (Printed by wip/genmark.py.)
-/
namespace Go.Proofs.Ytchiakeceiefdaa
open Go.RowKit

def cntEnt (x : Ent) : Nat := cntK x.1 + 1
def mkEnt (k : Nat) (x : Ent) : Ent := (mkK (k) x.1, mtxt (k + cntK x.1))

set_option maxRecDepth 100000 in
set_option maxHeartbeats 4000000 in
theorem markEntryS_ok (l : List Ent) (a : Option Addr) (c : Nat) (fp : List Nat) (B k : Nat) (i : Int) (w : World) (hi : i = (k : Int)) (hF : SlF entRep w a c l fp) (hfr : Free B w fp) (h1 : 0 < k) (h2 : k + cntR cntEnt l ≤ 1000000000) (hl : l.length ≤ 1000000000) :
    Calls Try.prog 41 #[.slice a l.length c, .int .i64 i] w fun e w' => e = .returned (.int .i64 ((k + cntR cntEnt l : Nat) : Int)) ∧ Ext (inl fp) w w' ∧ Free B w' fp ∧ SlF entRep w' a c (mkR mkEnt cntEnt k l) fp := by
  subst hi
  obtain ⟨hle, hlen, hcc⟩ := hF
  rcases hcc with ⟨rfl, rfl⟩ | ⟨b, o, f, hne, rfl, rfl, hcc⟩
  · go_enter Try.func41, Try.ntmps41
    go_wp2_with fail
    go_loopw [1, 5] (fun t1 i wr => t1 = .int .i64 k ∧ i = .int .i64 0 ∧ wr = w) (fun _ _ _ => 0)
    case atStart => exact ⟨rfl, rfl, rfl⟩
    case round =>
      obtain ⟨rfl, rfl, rfl⟩ := hrel
      go_wp2_with fail
      go_ret
      exact ⟨by simp [cntR], Ext.refl _ _, hfr, ⟨by simp [mkR], by simp [mkR], .inl ⟨rfl, rfl⟩⟩⟩
  · have Hle := Lib.hid hle
    have Hlen := Lib.hid hlen
    have Hne := Lib.hid hne
    have hK0 : RowF entRep w b o (mkR mkEnt cntEnt k (l.take 0) ++ l.drop 0) f := by simpa [mkR] using hcc
    clear hle hlen hne hcc
    go_enter Try.func41, Try.ntmps41
    go_wp2_with fail
    go_loopw [1, 5] (fun t1 i wr => ∃ j : Nat, j ≤ l.length ∧ i = .int .i64 j ∧ t1 = .int .i64 ((k + cntR cntEnt (l.take j) : Nat) : Int) ∧ Ext (inl (b :: f)) w wr ∧ Free B wr (b :: f) ∧ RowF entRep wr b o (mkR mkEnt cntEnt k (l.take j) ++ l.drop j) f) (fun _ i _ => l.length - (intOf i).toNat)
    case atStart => exact ⟨0, Nat.zero_le _, rfl, rfl, Ext.refl _ _, hfr, hK0⟩
    case round =>
      obtain ⟨j, hj, rfl, rfl, hg, hfr', hK⟩ := hrel
      have hct := cntR_take cntEnt l j
      have Hg := Lib.hid hg
      have Hfr := Lib.hid hfr'
      have HK := Lib.hid hK
      clear hg hfr' hK hfr hK0
      by_cases hlt : j < l.length
      · obtain ⟨x, hx⟩ : ∃ x, x = l[j] := ⟨_, rfl⟩
        have htk : l.take (j + 1) = l.take j ++ [x] := by rw [take_snoc' _ _ hlt, hx]
        have hct2 := cntR_take cntEnt l (j + 1)
        rw [htk, cntR_snoc] at hct2
        have hdr : l.drop j = x :: l.drop (j + 1) := by rw [drop_cons _ _ hlt, hx]
        have hK := HK.out
        rw [hdr] at hK
        obtain ⟨f1, f', hf, hK1, hK2⟩ := hK.split
        have hjl : (mkR mkEnt cntEnt k (l.take j)).length = j := by rw [mkR_len]; simp; omega
        rw [hjl] at hK2
        obtain ⟨fx, f2, cs, hf', hcs, hxF, hK3⟩ := hK2
        subst hf
        subst hf'
        have hcl := entRep.flen hxF

        obtain ⟨_, _, fp0, fq0, rfl, hq0, ⟨na0, nc0, ka0, kc0, rfl, h0⟩, ⟨rfl, h1, hz1⟩⟩ := hxF
        subst hz1
        obtain ⟨k', hk'⟩ : ∃ k', k' = k + cntR cntEnt (l.take j) := ⟨_, rfl⟩
        have hk1 : 0 < k' := by omega
        have hb9 : k' + (cntK x.1 + 1) ≤ 1000000000 := by have : cntEnt x = cntK x.1 + 1 := rfl; omega
        obtain ⟨g0a, g0b, hfx0, ht0, hn0, hk0⟩ := h0.parts
        have Hck0 := Lib.hid (cntK_eq x.1)
        rw [← hk']
        clear hct2 hct
        have hs_g0a : ∀ y ∈ g0a, y ∈ fx := fun y hy => by simp [hq0, hfx0, hy]
        have hs_g0b : ∀ y ∈ g0b, y ∈ fx := fun y hy => by simp [hq0, hfx0, hy]
        have hbf : b ∉ f1 ++ (fx ++ f2) := (List.nodup_cons.1 Hfr.out.1).1
        have hnx : fx.Nodup := (List.nodup_append.1 (List.nodup_append.1 (List.nodup_cons.1 Hfr.out.1).2).2.1).1
        have hnx' := hnx
        simp only [hq0, hfx0] at hnx'
        simp only [List.nodup_append, List.append_nil] at hnx'
        have hn_g0a : g0a.Nodup := by simp_all
        have hb_g0a : b ∉ g0a := fun h => hbf (by simp [hs_g0a b h])
        have hf_g0a : Free B wr g0a := ⟨hn_g0a, fun y hy => Hfr.out.2 y (by simp [hs_g0a y hy])⟩
        have hn_g0b : g0b.Nodup := by simp_all
        have hb_g0b : b ∉ g0b := fun h => hbf (by simp [hs_g0b b h])
        have hf_g0b : Free B wr g0b := ⟨hn_g0b, fun y hy => Hfr.out.2 y (by simp [hs_g0b y hy])⟩
        have hd_g0a_g0b : ∀ y, y ∈ g0a → y ∈ g0b → False := by
          intro y h1 h2
          have h3 := hnx
          simp only [hq0, hfx0] at h3
          exact absurd h3 (not_nodup y (by simp [List.count_append]; have := List.count_pos_iff.2 h1; have := List.count_pos_iff.2 h2; omega))
        have he := Elm.new hcs hcl (Hfr.out.2 b (by simp)).2.2 (hcs.lt (by intro h; rw [h] at hcl; cases hcl))
        rw [entRep_n] at he
        simp only [nodeL, List.cons_append, List.nil_append] at he
        have H_hs_g0a := Lib.hid hs_g0a
        have H_hb_g0a := Lib.hid hb_g0a
        have H_hf_g0a := Lib.hid hf_g0a
        have H_hs_g0b := Lib.hid hs_g0b
        have H_hb_g0b := Lib.hid hb_g0b
        have H_hf_g0b := Lib.hid hf_g0b
        have H_hd_g0a_g0b := Lib.hid hd_g0a_g0b
        have H_hn0 := Lib.hid hn0
        have H_hk0 := Lib.hid hk0
        have H_hfx0 := Lib.hid hfx0
        have H_hq0 := Lib.hid hq0
        have H_hK1 := Lib.hid hK1
        have H_hK3 := Lib.hid hK3
        have H_htk := Lib.hid htk
        have H_hk' := Lib.hid hk'
        have HE := Lib.hid he
        clear hx hdr hK hnx hnx' hbf he hcs hcl hjl HK hs_g0a hb_g0a hf_g0a hn_g0a hs_g0b hb_g0b hf_g0b hn_g0b hd_g0a_g0b hn0 hk0 hfx0 h0 ht0 hq0 hK1 hK3 htk hk' h1
        have c0 : wr.cell? ⟨b, o + j * 6, none⟩ = _ := HE.out.cells 0 _ rfl
        have c1 := HE.out.cells 1 _ rfl
        have c2 := HE.out.cells 2 _ rfl
        have c3 := HE.out.cells 3 _ rfl
        have c4 := HE.out.cells 4 _ rfl
        have c5 := HE.out.cells 5 _ rfl
        have cz := HE.out.fr
        go_wp2_with fail
        obtain ⟨wa1, hwa⟩ : ∃ wa, wa = ((wr.setCell ⟨b, o + j * 6, none⟩ (.int .i64 ((k' : Int)))).setCell ⟨b, o + j * 6 + 1, none⟩ (.int .i64 ((k' : Int) + 1))) := ⟨_, rfl⟩
        rw [← hwa]
        have he : Elm wr wa1 b (o + j * 6) 6 [.int .i64 ((k' : Int)), .int .i64 ((k' : Int) + 1), .string x.1.text, .slice na0 x.1.names.length nc0, .slice ka0 x.1.kids.length kc0, .string x.2] ([]) := by rw [hwa]; exact ((HE.out.set0 (by simp) (.int .i64 ((k' : Int)))).set 1 (by simp) (.int .i64 ((k' : Int) + 1)))
        have hea : Ext (inl [b]) wr wa1 := by rw [hwa]; exact (((Ext.refl (inl [b]) wr).setIn (p := ⟨b, o + j * 6, none⟩) (by simp [inl]) (.int .i64 ((k' : Int)))).setIn (p := ⟨b, o + j * 6 + 1, none⟩) (by simp [inl]) (.int .i64 ((k' : Int) + 1)))
        clear hwa HE
        have HE := Lib.hid he
        clear he
        have HA := Lib.hid hea
        clear hea
        clear c0 c1 c2 c3 c4 c5 cz
        refine (markText_i (k' + 1 + 1) _ _ (by have := Hck0.out; omega) (by have := Hck0.out; omega) (by have := Hck0.out; omega)).mono ?_
        rintro e w1 ⟨rfl, hg⟩
        have he := HE.out.grow hg
        have hes : Ext (inl [b]) wr w1 := HA.out.trans hg.toX'
        clear hes HA hg HE
        have HE := Lib.hid he
        clear he
        have c0 : w1.cell? ⟨b, o + j * 6, none⟩ = _ := HE.out.cells 0 _ rfl
        have c1 := HE.out.cells 1 _ rfl
        have c2 := HE.out.cells 2 _ rfl
        have c3 := HE.out.cells 3 _ rfl
        have c4 := HE.out.cells 4 _ rfl
        have c5 := HE.out.cells 5 _ rfl
        have cz := HE.out.fr
        go_wp2_with fail
        obtain ⟨wa2, hwa⟩ : ∃ wa, wa = (w1.setCell ⟨b, o + j * 6 + 2, none⟩ (.string (mtxt (k' + 1 + 1)))) := ⟨_, rfl⟩
        rw [← hwa]
        have he : Elm wr wa2 b (o + j * 6) 6 [.int .i64 ((k' : Int)), .int .i64 ((k' : Int) + 1), .string (mtxt (k' + 1 + 1)), .slice na0 x.1.names.length nc0, .slice ka0 x.1.kids.length kc0, .string x.2] ([]) := by rw [hwa]; exact (HE.out.set 2 (by simp) (.string (mtxt (k' + 1 + 1))))
        have hea : Ext (inl [b]) w1 wa2 := by rw [hwa]; exact ((Ext.refl (inl [b]) w1).setIn (p := ⟨b, o + j * 6 + 2, none⟩) (by simp [inl]) (.string (mtxt (k' + 1 + 1))))
        clear hwa HE
        have HE := Lib.hid he
        clear he
        have HA := Lib.hid hea
        clear hea
        clear c0 c1 c2 c3 c4 c5 cz
        have hni : ∀ y ∈ g0a, ¬ inl (b :: ([])) y := (fun y hy h => by simp [inl] at h; subst h; exact H_hb_g0a.out hy)
        have hko := HE.out.ext.keeps H_hf_g0a.out hni
        have hfo := H_hf_g0a.out.ext HE.out.ext hni
        have Hko := Lib.hid hko
        have Hfo := Lib.hid hfo
        clear hko hfo hni
        refine (markStringS_i na0 nc0 x.1.names g0a B (k' + 1 + 1 + 1) _ _ (by have := Hck0.out; omega) (H_hn0.out.keep Hko.out) Hfo.out (by have := Hck0.out; omega) (by have := Hck0.out; omega)).mono ?_
        rintro e w2 ⟨rfl, hx, hfree, hF⟩
        clear HA
        have he := HE.out.sub hx H_hb_g0a.out
        have M_g0a := Lib.hid hF
        have MF_g0a := Lib.hid hfree
        have X_g0a := Lib.hid hx
        clear hx hfree hF HE Hko Hfo
        have HE := Lib.hid he
        clear he
        have c0 : w2.cell? ⟨b, o + j * 6, none⟩ = _ := HE.out.cells 0 _ rfl
        have c1 := HE.out.cells 1 _ rfl
        have c2 := HE.out.cells 2 _ rfl
        have c3 := HE.out.cells 3 _ rfl
        have c4 := HE.out.cells 4 _ rfl
        have c5 := HE.out.cells 5 _ rfl
        have cz := HE.out.fr
        go_wp2_with fail
        have hea : Ext (inl [b]) w2 w2 := Ext.refl _ _
        have HA := Lib.hid hea
        clear hea
        clear c0 c1 c2 c3 c4 c5 cz
        have hni : ∀ y ∈ g0b, ¬ inl (b :: ([] ++ g0a)) y := (fun y hy h => by simp [inl] at h; rcases h with h | h; subst h; exact H_hb_g0b.out hy; exact False.elim (H_hd_g0a_g0b.out y h hy))
        have hko := HE.out.ext.keeps H_hf_g0b.out hni
        have hfo := H_hf_g0b.out.ext HE.out.ext hni
        have Hko := Lib.hid hko
        have Hfo := Lib.hid hfo
        clear hko hfo hni
        refine (markNodeS_ok x.1.kids ka0 kc0 g0b B (k' + 1 + 1 + 1 + x.1.names.length) _ _ (by have := Hck0.out; omega) (H_hk0.out.keep Hko.out) Hfo.out (by have := Hck0.out; omega) (by have := Hck0.out; omega)).mono ?_
        rintro e w3 ⟨rfl, hx, hfree, hF⟩
        have hes : Ext (inl (b :: g0b)) w2 w3 := (HA.out.mono (fun y hy => by simp [inl] at hy ⊢; exact .inl hy)).trans (hx.mono (fun y hy => List.mem_cons_of_mem _ hy))
        have hnn : ∀ y ∈ g0a, ¬ inl (b :: g0b) y := (fun y hy h => by simp [inl] at h; rcases h with h | h; subst h; exact H_hb_g0a.out hy; exact H_hd_g0a_g0b.out y hy h)
        replace M_g0a := Lib.hid (M_g0a.out.keep (hes.keeps MF_g0a.out hnn))
        replace MF_g0a := Lib.hid (MF_g0a.out.ext hes hnn)
        clear hnn
        clear hes
        clear HA
        have he := HE.out.sub hx H_hb_g0b.out
        have M_g0b := Lib.hid hF
        have MF_g0b := Lib.hid hfree
        have X_g0b := Lib.hid hx
        clear hx hfree hF HE Hko Hfo
        have HE := Lib.hid he
        clear he
        have c0 : w3.cell? ⟨b, o + j * 6, none⟩ = _ := HE.out.cells 0 _ rfl
        have c1 := HE.out.cells 1 _ rfl
        have c2 := HE.out.cells 2 _ rfl
        have c3 := HE.out.cells 3 _ rfl
        have c4 := HE.out.cells 4 _ rfl
        have c5 := HE.out.cells 5 _ rfl
        have cz := HE.out.fr
        go_wp2_with fail
        have hea : Ext (inl [b]) w3 w3 := Ext.refl _ _
        have HA := Lib.hid hea
        clear hea
        clear c0 c1 c2 c3 c4 c5 cz
        refine (markText_i (k' + cntK x.1) _ _ (by have := Hck0.out; omega) (by have := Hck0.out; omega) (by have := Hck0.out; omega)).mono ?_
        rintro e w4 ⟨rfl, hg⟩
        have he := HE.out.grow hg
        have hes : Ext (inl [b]) w3 w4 := HA.out.trans hg.toX'
        have hnn : ∀ y ∈ g0a, ¬ inl [b] y := (fun y hy h => by simp [inl] at h; subst h; exact H_hb_g0a.out hy)
        replace M_g0a := Lib.hid (M_g0a.out.keep (hes.keeps MF_g0a.out hnn))
        replace MF_g0a := Lib.hid (MF_g0a.out.ext hes hnn)
        clear hnn
        have hnn : ∀ y ∈ g0b, ¬ inl [b] y := (fun y hy h => by simp [inl] at h; subst h; exact H_hb_g0b.out hy)
        replace M_g0b := Lib.hid (M_g0b.out.keep (hes.keeps MF_g0b.out hnn))
        replace MF_g0b := Lib.hid (MF_g0b.out.ext hes hnn)
        clear hnn
        clear hes HA hg HE
        have HE := Lib.hid he
        clear he
        have c0 : w4.cell? ⟨b, o + j * 6, none⟩ = _ := HE.out.cells 0 _ rfl
        have c1 := HE.out.cells 1 _ rfl
        have c2 := HE.out.cells 2 _ rfl
        have c3 := HE.out.cells 3 _ rfl
        have c4 := HE.out.cells 4 _ rfl
        have c5 := HE.out.cells 5 _ rfl
        have cz := HE.out.fr
        go_wp2_with fail
        clear c0 c1 c2 c3 c4 c5 cz
        go_roundw
        case rel =>
          have he := (HE.out.set 5 (by simp) (.string (mtxt (k' + cntK x.1))))
          have hG : ∀ y ∈ [] ++ g0a ++ g0b, y ∈ fx := by
            intro y hy
            simp at hy
            rcases hy with h | h
            · exact H_hs_g0a.out y h
            · exact H_hs_g0b.out y h
          have hes := ((Ext.refl (inl [b]) w4).setIn (p := ⟨b, o + j * 6 + 5, none⟩) (by simp [inl]) (.string (mtxt (k' + cntK x.1))))
          have hnn : ∀ y ∈ g0a, ¬ inl [b] y := (fun y hy h => by simp [inl] at h; subst h; exact H_hb_g0a.out hy)
          replace M_g0a := Lib.hid (M_g0a.out.keep (hes.keeps MF_g0a.out hnn))
          replace MF_g0a := Lib.hid (MF_g0a.out.ext hes hnn)
          clear hnn
          have hnn : ∀ y ∈ g0b, ¬ inl [b] y := (fun y hy h => by simp [inl] at h; subst h; exact H_hb_g0b.out hy)
          replace M_g0b := Lib.hid (M_g0b.out.keep (hes.keeps MF_g0b.out hnn))
          replace MF_g0b := Lib.hid (MF_g0b.out.ext hes hnn)
          clear hnn
          refine ⟨j + 1, by omega, by go_num, ?_, Hg.out.trans (he.ext.mono (fun y hy => ?_)), he.free Hfr.out (fun y hy q => ?_), ?_⟩
          · rw [H_htk.out, cntR_snoc]
            have h3 := H_hk'.out
            have h4 : cntEnt x = cntK x.1 + 1 := rfl
            congr 1
            exact (by have := Hck0.out; first | omega | (unfold wrap64; omega))
          · simp only [inl, List.mem_cons] at hy ⊢
            rcases hy with hy | hy
            · exact .inl hy
            · right; simp [hG y hy]
          · simp at hy
            rcases hy with h | h
            · exact (MF_g0a.out.2 y h).2.2 q
            · exact (MF_g0b.out.2 y h).2.2 q
          · have hxF : entRep.F _ (mkEnt k' x) (nodeL (mkK (k') x.1) na0 nc0 ka0 kc0 ++ [.string (mtxt (k' + cntK x.1))]) ((g0a ++ g0b) ++ []) := ⟨nodeL (mkK (k') x.1) na0 nc0 ka0 kc0, [.string (mtxt (k' + cntK x.1))], (g0a ++ g0b), [], rfl, rfl, ⟨na0, nc0, ka0, kc0, rfl, nodeF_mk (by have := Hck0.out; omega) M_g0a.out M_g0b.out⟩, ⟨rfl, mtxt_size _ (by omega), rfl⟩⟩
            have hfx : fx = ((g0a ++ g0b) ++ []) := by simp [H_hq0.out, H_hfx0.out]
            rw [← hfx] at hxF
            simp only [nodeL_mk] at hxF
            have hjl : (mkR mkEnt cntEnt k (l.take j)).length = j := by rw [mkR_len]; simp; omega
            rw [H_htk.out, mkR_snoc, ← H_hk'.out, List.append_assoc]
            exact RowF.marked H_hK1.out H_hK3.out (by rw [hjl]) he hG Hfr.out hxF
        case measure => simp [intOf]; omega
      · have hje : j = l.length := by omega
        subst hje
        have hK := HK.out
        rw [List.take_length, List.drop_length, List.append_nil] at hK
        have HK2 := Lib.hid hK
        clear hK
        simp only [List.take_length]
        go_wp2_with fail
        go_ret
        refine ⟨by simp, Hg.out, Hfr.out, ⟨by rw [mkR_len]; exact Hle.out, by rw [mkR_len]; exact Hlen.out, .inr ⟨b, o, f, ?_, rfl, rfl, HK2.out⟩⟩⟩
        intro h
        have := congrArg List.length h
        rw [mkR_len] at this
        exact Hne.out (List.length_eq_zero_iff.1 this)

end Go.Proofs.Ytchiakeceiefdaa

/-
  The walks of impl.areEntries and spec.validEntries.
-/
namespace Go.Proofs.Ytchiakeceiefdaa
open Go.RowKit

def entsV (l : List Ent) : Bool := l.all (fun e => validB e.1)
def entsB (l : List Ent) : Bool := decide (l.length ≤ 10) && entsV l
theorem entsV_drop (l : List Ent) (k : Nat) (h : k < l.length) : entsV (l.drop k) = (validB l[k].1 && entsV (l.drop (k + 1))) := by
  unfold entsV; rw [drop_cons _ _ h, List.all_cons]
theorem entsV_end (l : List Ent) (k : Nat) (h : ¬ k < l.length) : entsV (l.drop k) = true := by
  rw [List.drop_eq_nil_of_le (Nat.le_of_not_lt h)]; rfl

theorem areEntries_ok (l : List Ent) (a : Option Addr) (c : Nat) (w : World) (hn : SlR entRep w any a c l) :
    Calls Try.prog 91 #[.slice a l.length c] w fun e w' => e = .returned (.bool (entsB l)) ∧ Grow w w' := by
  have hbig : l.length ≤ 9223372036854775807 := hn.2.1
  have Hn := Lib.hid hn
  clear hn
  by_cases hl : 10 < l.length
  · go_enter Try.func91, Try.ntmps91
    go_wp2
    go_ret
    exact ⟨by simp [entsB]; omega, Ext.refl _ _⟩
  · have Hb : Hid (entsB l = entsV l) := Lib.hid (by simp [entsB]; intro h; omega)
    go_enter Try.func91, Try.ntmps91
    go_wp2
    go_loopw [2, 4, 10] (fun n _ i wr => n = .bool false ∧ Grow w wr ∧ ∃ k : Nat, k ≤ l.length ∧ i = .int .i64 k ∧ Hid (entsV l = entsV (l.drop k))) (fun _ _ i _ => l.length - (intOf i).toNat)
    case atStart => exact ⟨rfl, Ext.refl _ _, 0, Nat.zero_le _, rfl, Lib.hid rfl⟩
    case round =>
      obtain ⟨rfl, hg, k, hk, rfl, Hr⟩ := hrel
      by_cases hlt : k < l.length
      · obtain ⟨_, _, hks⟩ := (Hn.out).grow hg
        rcases hks with hks | ⟨bk, ok, rfl, _, hkr⟩
        · simp [hks] at hlt
        obtain ⟨cs, hcs, hx⟩ := hkr k hlt
        obtain ⟨na0, nc0, ka0, kc0, rfl, h0, h1⟩ := entRep_open hx
        rw [entRep_n] at hcs
        have x0 : wr.cell? ⟨bk, ok + k * 6, none⟩ = _ := hcs 0 _ rfl
        have x1 := hcs 1 _ rfl
        have x2 := hcs 2 _ rfl
        have x3 := hcs 3 _ rfl
        have x4 := hcs 4 _ rfl
        have x5 := hcs 5 _ rfl
        have H0 := Lib.hid h0
        have Hs := Lib.hid (entsV_drop l k hlt)
        clear hkr hcs hx h0 h1
        cases hv : validB l[k].1
        · have Hv := Lib.hid hv
          clear hv
          go_wp2_with fail
          refine (ValidNode_ok l[k].1 _ _ ⟨_, _, _, _, rfl, H0.out.grow' (by repeat (first | with_reducible exact Ext.refl _ _ | with_reducible refine Ext.trans ?_ (by assumption) | with_reducible refine Ext.drew ?_ | with_reducible refine Ext.drewN ?_ _ | with_reducible refine Ext.alloc ?_ _ | with_reducible refine Ext.setNew ?_ (by simp; done) _ | with_reducible refine Ext.setNew ?_ (by simp; omega) _))⟩).mono ?_
          rintro e w2 ⟨rfl, hg2⟩
          simp only [Hv.out]
          go_wp2_with fail
          go_ret
          exact ⟨by rw [Hb.out, Hr.out, Hs.out, Hv.out]; rfl, (by repeat (first | with_reducible exact Ext.refl _ _ | with_reducible refine Ext.trans ?_ (by assumption) | with_reducible refine Ext.drew ?_ | with_reducible refine Ext.drewN ?_ _ | with_reducible refine Ext.alloc ?_ _ | with_reducible refine Ext.setNew ?_ (by simp; done) _ | with_reducible refine Ext.setNew ?_ (by simp; omega) _))⟩
        · have Hv := Lib.hid hv
          clear hv
          go_wp2_with fail
          refine (ValidNode_ok l[k].1 _ _ ⟨_, _, _, _, rfl, H0.out.grow' (by repeat (first | with_reducible exact Ext.refl _ _ | with_reducible refine Ext.trans ?_ (by assumption) | with_reducible refine Ext.drew ?_ | with_reducible refine Ext.drewN ?_ _ | with_reducible refine Ext.alloc ?_ _ | with_reducible refine Ext.setNew ?_ (by simp; done) _ | with_reducible refine Ext.setNew ?_ (by simp; omega) _))⟩).mono ?_
          rintro e w2 ⟨rfl, hg2⟩
          simp only [Hv.out]
          go_wp2_with fail
          go_roundw
          case rel => exact ⟨rfl, (by repeat (first | with_reducible exact Ext.refl _ _ | with_reducible refine Ext.trans ?_ (by assumption) | with_reducible refine Ext.drew ?_ | with_reducible refine Ext.drewN ?_ _ | with_reducible refine Ext.alloc ?_ _ | with_reducible refine Ext.setNew ?_ (by simp; done) _ | with_reducible refine Ext.setNew ?_ (by simp; omega) _)), k + 1, by omega, by go_num, Lib.hid (by rw [Hr.out, Hs.out, Hv.out]; rfl)⟩
          case measure => simp [intOf]; omega
      · have He := Lib.hid (entsV_end l k hlt)
        go_wp2
        go_ret
        exact ⟨by rw [Hb.out, Hr.out, He.out]; rfl, hg⟩

theorem validEntries_ok (l : List Ent) (a : Option Addr) (c : Nat) (w : World) (hn : SlR entRep w any a c l) :
    Calls Try.prog 88 #[.slice a l.length c] w fun e w' => e = .returned (.bool (entsB l)) ∧ Grow w w' := by
  have hbig : l.length ≤ 9223372036854775807 := hn.2.1
  have Hn := Lib.hid hn
  clear hn
  have Hb : Hid (entsB l = (decide (l.length ≤ 10) && entsV l)) := Lib.hid rfl
  go_enter Try.func88, Try.ntmps88
  go_wp2
  go_loopw [2, 3] (fun n i wr => n = .bool false ∧ Grow w wr ∧ ∃ k : Nat, k ≤ l.length ∧ i = .int .i64 k ∧ Hid (entsV l = entsV (l.drop k))) (fun _ i _ => l.length - (intOf i).toNat)
  case atStart => exact ⟨rfl, Ext.refl _ _, 0, Nat.zero_le _, rfl, Lib.hid rfl⟩
  case round =>
    obtain ⟨rfl, hg, k, hk, rfl, Hr⟩ := hrel
    by_cases hlt : k < l.length
    · obtain ⟨_, _, hks⟩ := (Hn.out).grow hg
      rcases hks with hks | ⟨bk, ok, rfl, _, hkr⟩
      · simp [hks] at hlt
      obtain ⟨cs, hcs, hx⟩ := hkr k hlt
      obtain ⟨na0, nc0, ka0, kc0, rfl, h0, h1⟩ := entRep_open hx
      rw [entRep_n] at hcs
      have x0 : wr.cell? ⟨bk, ok + k * 6, none⟩ = _ := hcs 0 _ rfl
      have x1 := hcs 1 _ rfl
      have x2 := hcs 2 _ rfl
      have x3 := hcs 3 _ rfl
      have x4 := hcs 4 _ rfl
      have H0 := Lib.hid h0
      have Hs := Lib.hid (entsV_drop l k hlt)
      clear hkr hcs hx h0 h1
      cases hv : validB l[k].1
      · have Hv := Lib.hid hv
        clear hv
        go_wp2_with fail
        refine (validNode_ok l[k].1 _ _ ⟨_, _, _, _, rfl, H0.out.grow' (by repeat (first | with_reducible exact Ext.refl _ _ | with_reducible refine Ext.trans ?_ (by assumption) | with_reducible refine Ext.drew ?_ | with_reducible refine Ext.drewN ?_ _ | with_reducible refine Ext.alloc ?_ _ | with_reducible refine Ext.setNew ?_ (by simp; done) _ | with_reducible refine Ext.setNew ?_ (by simp; omega) _))⟩).mono ?_
        rintro e w2 ⟨rfl, hg2⟩
        simp only [Hv.out]
        go_wp2_with fail
        go_ret
        exact ⟨by rw [Hb.out, Hr.out, Hs.out, Hv.out]; simp, (by repeat (first | with_reducible exact Ext.refl _ _ | with_reducible refine Ext.trans ?_ (by assumption) | with_reducible refine Ext.drew ?_ | with_reducible refine Ext.drewN ?_ _ | with_reducible refine Ext.alloc ?_ _ | with_reducible refine Ext.setNew ?_ (by simp; done) _ | with_reducible refine Ext.setNew ?_ (by simp; omega) _))⟩
      · have Hv := Lib.hid hv
        clear hv
        go_wp2_with fail
        refine (validNode_ok l[k].1 _ _ ⟨_, _, _, _, rfl, H0.out.grow' (by repeat (first | with_reducible exact Ext.refl _ _ | with_reducible refine Ext.trans ?_ (by assumption) | with_reducible refine Ext.drew ?_ | with_reducible refine Ext.drewN ?_ _ | with_reducible refine Ext.alloc ?_ _ | with_reducible refine Ext.setNew ?_ (by simp; done) _ | with_reducible refine Ext.setNew ?_ (by simp; omega) _))⟩).mono ?_
        rintro e w2 ⟨rfl, hg2⟩
        simp only [Hv.out]
        go_wp2_with fail
        go_roundw
        case rel => exact ⟨rfl, (by repeat (first | with_reducible exact Ext.refl _ _ | with_reducible refine Ext.trans ?_ (by assumption) | with_reducible refine Ext.drew ?_ | with_reducible refine Ext.drewN ?_ _ | with_reducible refine Ext.alloc ?_ _ | with_reducible refine Ext.setNew ?_ (by simp; done) _ | with_reducible refine Ext.setNew ?_ (by simp; omega) _)), k + 1, by omega, by go_num, Lib.hid (by rw [Hr.out, Hs.out, Hv.out]; rfl)⟩
        case measure => simp [intOf]; omega
    · have He := Lib.hid (entsV_end l k hlt)
      go_wp2
      go_ret
      exact ⟨by rw [Hb.out, Hr.out, He.out]; simp; try omega, hg⟩

end Go.Proofs.Ytchiakeceiefdaa

/-
  The order of nodes: the plain law and the walks of impl.compareValid and spec.compare.
-/
namespace Go.Proofs.Ytchiakeceiefdaa
open Go.RowKit

def sgnI (a b : Int) : Int := if a < b then -1 else if b < a then 1 else 0
def sgnT (a b : ByteArray) : Int := if lt a b then -1 else if lt b a then 1 else 0

theorem sgnI_refl (a : Int) : sgnI a a = 0 := by simp [sgnI]
theorem sgnI_zero {a b : Int} : sgnI a b = 0 ↔ a = b := by
  unfold sgnI
  by_cases h1 : a < b
  · simp [h1]; omega
  · by_cases h2 : b < a
    · simp [h1, h2]; omega
    · simp [h1, h2]; omega
theorem sgnT_refl (a : ByteArray) : sgnT a a = 0 := by simp [sgnT, lt_irr]
theorem sgnT_zero {a b : ByteArray} : sgnT a b = 0 ↔ a = b := by
  rcases bl_cases a b with ⟨h1, h2, _, _, h3⟩ | ⟨h1, h2, _, _, h3⟩ | h
  · simp [sgnT, lt, h1, h3]
  · simp [sgnT, lt, h1, h2, h3]
  · subst h; simp [sgnT_refl]

theorem compareBytes_bl : ∀ a b : List UInt8, Lib.compareBytes a b = if Op.bytesLess a b then -1 else if Op.bytesLess b a then 1 else 0
  | [], [] => rfl
  | [], _ :: _ => rfl
  | _ :: _, [] => rfl
  | x :: a, y :: b => by
    have ih := compareBytes_bl a b
    simp only [Lib.compareBytes, Op.bytesLess]
    rcases (show x.toNat < y.toNat ∨ x.toNat = y.toNat ∨ y.toNat < x.toNat from by omega) with h | h | h
    · have h1 : x < y := UInt8.lt_iff_toNat_lt.2 h
      simp [h1]
    · have h3 : x = y := UInt8.toNat_inj.1 h
      subst h3
      have h1 : ¬ x < x := fun h' => by have := UInt8.lt_iff_toNat_lt.1 h'; omega
      simp [h1, ih]
    · have h1 : y < x := UInt8.lt_iff_toNat_lt.2 h
      have h2 : ¬ x < y := fun h' => by have := UInt8.lt_iff_toNat_lt.1 h'; omega
      have h3 : ¬ x = y := fun e => by subst e; omega
      simp [h1, h2, h3]

theorem run_cmpstring (a b : ByteArray) (w : World) :
    (callFunc 161 #[.string a, .string b]).run Try.prog w = .ok (.value (.int .i64 (sgnT a b))) w := by
  rw [run_callFunc_extern (P := Try.prog) (f := 161) (fn := Try.f161) (e := Extern.BytealgCompare.compare) (by kernel_rfl) (by kernel_rfl) (by kernel_rfl) (by kernel_rfl) (by kernel_rfl)]
  rw [Lib.run_compareString, compareBytes_bl]
  simp only [← ByteArray.toList_eq]
  rfl

theorem stringsCompare_ok (a b : ByteArray) (w : World) : Calls Try.prog 129 #[.string a, .string b] w fun e w' => e = .returned (.int .i64 (sgnT a b)) ∧ w' = w := by
  have hx := run_cmpstring a b w
  have h2 : Calls Try.prog 149 #[.string a, .string b] w fun e w' => e = .returned (.int .i64 (sgnT a b)) ∧ w' = w := by
    go_enter Try.func149, Try.ntmps149
    go_wp2
    go_ret
    exact ⟨by simp, rfl⟩
  clear hx
  go_enter Try.func129, Try.ntmps129
  go_wp2_with fail
  refine h2.mono ?_
  rintro e w' ⟨rfl, rfl⟩
  go_wp2_with fail
  go_ret
  exact ⟨by simp, rfl⟩

theorem cmpIsNaNInt_ok (s : Int) (w : World) : Calls Try.prog 148 #[.int .i64 s] w fun e w' => e = .returned (.bool false) ∧ w' = w := by
  go_enter Try.func148, Try.ntmps148
  go_wp2
  go_ret
  exact ⟨by simp, rfl⟩
theorem cmpCompare_ok (a b : Int) (w : World) : Calls Try.prog 128 #[.int .i64 a, .int .i64 b] w fun e w' => e = .returned (.int .i64 (sgnI a b)) ∧ w' = w := by
  rcases (show a < b ∨ b < a ∨ a = b by omega) with h | h | h
  · have Hf : Hid (sgnI a b = -1) := Lib.hid (by simp [sgnI, h])
    go_enter Try.func128, Try.ntmps128
    go_wp2_with (go_at_call 148; refine (cmpIsNaNInt_ok _ _).mono ?_; rintro e w' ⟨rfl, rfl⟩)
    go_ret
    exact ⟨by simp [Hf.out], rfl⟩
  · have Hf : Hid (sgnI a b = 1) := Lib.hid (by have : ¬ a < b := by omega
                                                simp [sgnI, h, this])
    go_enter Try.func128, Try.ntmps128
    go_wp2_with (go_at_call 148; refine (cmpIsNaNInt_ok _ _).mono ?_; rintro e w' ⟨rfl, rfl⟩)
    go_ret
    exact ⟨by simp [Hf.out], rfl⟩
  · subst h
    have Hf : Hid (sgnI a a = 0) := Lib.hid (sgnI_refl a)
    go_enter Try.func128, Try.ntmps128
    go_wp2_with (go_at_call 148; refine (cmpIsNaNInt_ok _ _).mono ?_; rintro e w' ⟨rfl, rfl⟩)
    go_ret
    exact ⟨by simp [Hf.out], rfl⟩

theorem toInt_ok (b : Bool) (w : World) : Calls Try.prog 147 #[.bool b] w fun e w' => e = .returned (.int .i64 (if b then 1 else 0)) ∧ w' = w := by
  cases b
  all_goals
    go_enter Try.func147, Try.ntmps147
    go_wp2
    go_ret
    exact ⟨by simp, rfl⟩
theorem order_ok (a b : Int) (w : World) : Calls Try.prog 126 #[.int .i64 a, .int .i64 b] w fun e w' => e = .returned (.int .i64 (sgnI a b)) ∧ w' = w := by
  rcases (show a < b ∨ b < a ∨ a = b by omega) with h | h | h
  · have Hf : Hid (sgnI a b = -1) := Lib.hid (by simp [sgnI, h])
    have h1 : (decide (b < a)) = false := by simp; omega
    have h2 : (decide (a < b)) = true := by simp; omega
    go_enter Try.func126, Try.ntmps126
    go_wp2_with (go_at_call 147; refine (toInt_ok _ _).mono ?_; rintro e w' ⟨rfl, rfl⟩)
    go_ret
    exact ⟨by simp [Hf.out], rfl⟩
  · have Hf : Hid (sgnI a b = 1) := Lib.hid (by have : ¬ a < b := by omega
                                                simp [sgnI, h, this])
    have h1 : (decide (b < a)) = true := by simp; omega
    have h2 : (decide (a < b)) = false := by simp; omega
    go_enter Try.func126, Try.ntmps126
    go_wp2_with (go_at_call 147; refine (toInt_ok _ _).mono ?_; rintro e w' ⟨rfl, rfl⟩)
    go_ret
    exact ⟨by simp [Hf.out], rfl⟩
  · subst h
    have Hf : Hid (sgnI a a = 0) := Lib.hid (sgnI_refl a)
    have h1 : (decide (a < a)) = false := by simp
    go_enter Try.func126, Try.ntmps126
    go_wp2_with (go_at_call 147; refine (toInt_ok _ _).mono ?_; rintro e w' ⟨rfl, rfl⟩)
    go_ret
    exact ⟨by simp [Hf.out], rfl⟩
theorem orderText_ok (a b : ByteArray) (w : World) : Calls Try.prog 127 #[.string a, .string b] w fun e w' => e = .returned (.int .i64 (sgnT a b)) ∧ w' = w := by
  rcases bl_cases a b with ⟨l1, l2, l3, l4, hne⟩ | ⟨l1, l2, l3, l4, hne⟩ | l0
  · have Hf : Hid (sgnT a b = -1) := Lib.hid (by simp [sgnT, lt, l1])
    clear hne
    go_enter Try.func127, Try.ntmps127
    go_wp2_with (go_at_call 147; refine (toInt_ok _ _).mono ?_; rintro e w' ⟨rfl, rfl⟩)
    go_ret
    exact ⟨by simp [Hf.out], rfl⟩
  · have Hf : Hid (sgnT a b = 1) := Lib.hid (by simp [sgnT, lt, l1, l2])
    clear hne
    go_enter Try.func127, Try.ntmps127
    go_wp2_with (go_at_call 147; refine (toInt_ok _ _).mono ?_; rintro e w' ⟨rfl, rfl⟩)
    go_ret
    exact ⟨by simp [Hf.out], rfl⟩
  · subst l0
    have l1 := blF_irrefl a
    have l3 : (a.toList == a.toList) = true := by simp
    have Hf : Hid (sgnT a a = 0) := Lib.hid (sgnT_refl a)
    go_enter Try.func127, Try.ntmps127
    go_wp2_with (go_at_call 147; refine (toInt_ok _ _).mono ?_; rintro e w' ⟨rfl, rfl⟩)
    go_ret
    exact ⟨by simp [Hf.out], rfl⟩

end Go.Proofs.Ytchiakeceiefdaa

/-
  The order of nodes, and the walks of impl.compareValid and spec.compare.
-/
namespace Go.Proofs.Ytchiakeceiefdaa
open Go.RowKit

mutual
/-- The order of nodes. -/
def cmpN : Nd → Nd → Int
  | ⟨kind, num, text, names, kids⟩, b =>
    if sgnI kind b.kind ≠ 0 then sgnI kind b.kind else if sgnI num b.num ≠ 0 then sgnI num b.num else if sgnT text b.text ≠ 0 then sgnT text b.text
    else cmpKs (decide (kind = 4)) names b.names kids b.kids
def cmpKs : Bool → List ByteArray → List ByteArray → List Nd → List Nd → Int
  | m, ns, ms, k :: ks, j :: js =>
    if m = true ∧ sgnT (ns.headD ⟨#[]⟩) (ms.headD ⟨#[]⟩) ≠ 0 then sgnT (ns.headD ⟨#[]⟩) (ms.headD ⟨#[]⟩) else if cmpN k j ≠ 0 then cmpN k j else cmpKs m ns.tail ms.tail ks js
  | _, _, _, [], js => sgnI 0 js.length
  | _, _, _, ks, [] => sgnI ks.length 0
end

theorem cmpN_eq (a b : Nd) : cmpN a b = if sgnI a.kind b.kind ≠ 0 then sgnI a.kind b.kind else if sgnI a.num b.num ≠ 0 then sgnI a.num b.num else if sgnT a.text b.text ≠ 0 then sgnT a.text b.text
    else cmpKs (decide (a.kind = 4)) a.names b.names a.kids b.kids := by cases a; simp [cmpN]

theorem headD_drop (l : List ByteArray) (k : Nat) (h : k < l.length) (d : ByteArray) : (l.drop k).headD d = l[k] := by
  rw [drop_cons _ _ h]; rfl
theorem cmpKs_map {ns ms : List ByteArray} {ks js : List Nd} {k : Nat} (h1 : k < ks.length) (h2 : k < js.length) (h3 : k < ns.length) (h4 : k < ms.length) :
    cmpKs true (ns.drop k) (ms.drop k) (ks.drop k) (js.drop k) = if sgnT ns[k] ms[k] ≠ 0 then sgnT ns[k] ms[k] else if cmpN ks[k] js[k] ≠ 0 then cmpN ks[k] js[k] else cmpKs true (ns.drop (k + 1)) (ms.drop (k + 1)) (ks.drop (k + 1)) (js.drop (k + 1)) := by
  rw [drop_cons _ _ h1, drop_cons _ _ h2, cmpKs, headD_drop _ _ h3, headD_drop _ _ h4]
  simp [List.tail_drop]
theorem cmpKs_list {ns ms : List ByteArray} {ks js : List Nd} {k : Nat} (h1 : k < ks.length) (h2 : k < js.length) :
    cmpKs false (ns.drop k) (ms.drop k) (ks.drop k) (js.drop k) = if cmpN ks[k] js[k] ≠ 0 then cmpN ks[k] js[k] else cmpKs false (ns.drop (k + 1)) (ms.drop (k + 1)) (ks.drop (k + 1)) (js.drop (k + 1)) := by
  rw [drop_cons _ _ h1, drop_cons _ _ h2, cmpKs]
  simp [List.tail_drop]
theorem cmpKs_end (m : Bool) (ns ms : List ByteArray) (ks js : List Nd) (k : Nat) (hk1 : k ≤ ks.length) (hk2 : k ≤ js.length) (h : ¬ (k < ks.length ∧ k < js.length)) :
    cmpKs m (ns.drop k) (ms.drop k) (ks.drop k) (js.drop k) = sgnI ks.length js.length := by
  by_cases h1 : k < ks.length
  · have h2 : k = js.length := by omega
    have e : js.drop k = [] := List.drop_eq_nil_of_le (by omega)
    rw [drop_cons _ _ h1, e, cmpKs]
    · simp only [List.length_cons, List.length_drop, sgnI]
      rw [if_neg (by omega), if_pos (by omega), if_neg (by omega), if_pos (by omega)]
    · intro h; simp at h; omega
  · have h2 : k = ks.length := by omega
    have e : ks.drop k = [] := List.drop_eq_nil_of_le (by omega)
    rw [e, cmpKs]
    simp only [List.length_drop, sgnI]
    by_cases h3 : k < js.length
    · rw [if_pos (by omega), if_pos (by omega)]
    · rw [if_neg (by omega), if_neg (by omega), if_neg (by omega), if_neg (by omega)]

def CmpIOk (a : Nd) : Prop := ∀ (b : Nd) (v u : Value) (w : World), Good a → Good b → NodeR w any a v → NodeR w any b u →
    Calls Try.prog 92 #[v, u] w fun e w' => e = .returned (.int .i64 (cmpN a b)) ∧ Grow w w'
def CmpSOk (a : Nd) : Prop := ∀ (b : Nd) (v u : Value) (w : World), Good a → Good b → NodeR w any a v → NodeR w any b u →
    Calls Try.prog 89 #[v, u] w fun e w' => e = .returned (.int .i64 (cmpN a b)) ∧ Grow w w'

theorem bne0 {c : Int} (h : c = 0) : (c != 0) = false := by simp [h]
theorem bne1 {c : Int} (h : ¬ c = 0) : (c != 0) = true := by simp [h]

set_option maxRecDepth 100000 in
set_option maxHeartbeats 8000000 in
theorem compareValid_of (a : Nd) (ih : ∀ k ∈ a.kids, CmpIOk k) : CmpIOk a := by
  intro b v u w hga hgb hv hu
  obtain ⟨na, nc, ka, kc, rfl, hc⟩ := hv
  obtain ⟨na2, nc2, ka2, kc2, rfl, hc2⟩ := hu
  obtain ⟨_, hns, hks⟩ := hc.parts
  obtain ⟨_, hns2, hks2⟩ := hc2.parts
  have l1 : a.kids.length ≤ 6 := hga.kids6
  have l2 : b.kids.length ≤ 6 := hgb.kids6
  have Hns := Lib.hid hns
  have Hks := Lib.hid hks
  have Hns2 := Lib.hid hns2
  have Hks2 := Lib.hid hks2
  have Hga := Lib.hid hga
  have Hgb := Lib.hid hgb
  have Ih := Lib.hid ih
  have Hf := Lib.hid (cmpN_eq a b)
  clear hc hc2 hns hks hns2 hks2 hga hgb ih
  unfold nodeV
  by_cases h1 : sgnI a.kind b.kind = 0
  rotate_left
  · have b1 := bne1 h1
    have Hff : Hid (cmpN a b = sgnI a.kind b.kind) := Lib.hid (by rw [Hf.out, if_pos h1])
    clear h1
    go_enter Try.func92, Try.ntmps92
    go_wp2_with fail
    refine (cmpCompare_ok _ _ _).mono ?_
    rintro e w' ⟨rfl, rfl⟩
    go_wp2_with fail
    go_ret
    exact ⟨by simp [Hff.out], (by repeat (first | with_reducible exact Ext.refl _ _ | with_reducible refine Ext.trans ?_ (by assumption) | with_reducible refine Ext.drew ?_ | with_reducible refine Ext.drewN ?_ _ | with_reducible refine Ext.alloc ?_ _ | with_reducible refine Ext.setNew ?_ (by simp; done) _ | with_reducible refine Ext.setNew ?_ (by simp; omega) _))⟩
  have b1 := bne0 h1
  by_cases h2 : sgnI a.num b.num = 0
  rotate_left
  · have b2 := bne1 h2
    have Hff : Hid (cmpN a b = sgnI a.num b.num) := Lib.hid (by rw [Hf.out, if_neg (by simpa using h1), if_pos h2])
    clear h1 h2
    go_enter Try.func92, Try.ntmps92
    go_wp2_with fail
    refine (cmpCompare_ok _ _ _).mono ?_
    rintro e w' ⟨rfl, rfl⟩
    go_wp2_with fail
    refine (cmpCompare_ok _ _ _).mono ?_
    rintro e w' ⟨rfl, rfl⟩
    go_wp2_with fail
    go_ret
    exact ⟨by simp [Hff.out], (by repeat (first | with_reducible exact Ext.refl _ _ | with_reducible refine Ext.trans ?_ (by assumption) | with_reducible refine Ext.drew ?_ | with_reducible refine Ext.drewN ?_ _ | with_reducible refine Ext.alloc ?_ _ | with_reducible refine Ext.setNew ?_ (by simp; done) _ | with_reducible refine Ext.setNew ?_ (by simp; omega) _))⟩
  have b2 := bne0 h2
  by_cases h3 : sgnT a.text b.text = 0
  rotate_left
  · have b3 := bne1 h3
    have Hff : Hid (cmpN a b = sgnT a.text b.text) := Lib.hid (by rw [Hf.out, if_neg (by simpa using h1), if_neg (by simpa using h2), if_pos h3])
    clear h1 h2 h3
    go_enter Try.func92, Try.ntmps92
    go_wp2_with fail
    refine (cmpCompare_ok _ _ _).mono ?_
    rintro e w' ⟨rfl, rfl⟩
    go_wp2_with fail
    refine (cmpCompare_ok _ _ _).mono ?_
    rintro e w' ⟨rfl, rfl⟩
    go_wp2_with fail
    refine (stringsCompare_ok _ _ _).mono ?_
    rintro e w' ⟨rfl, rfl⟩
    go_wp2_with fail
    go_ret
    exact ⟨by simp [Hff.out], (by repeat (first | with_reducible exact Ext.refl _ _ | with_reducible refine Ext.trans ?_ (by assumption) | with_reducible refine Ext.drew ?_ | with_reducible refine Ext.drewN ?_ _ | with_reducible refine Ext.alloc ?_ _ | with_reducible refine Ext.setNew ?_ (by simp; done) _ | with_reducible refine Ext.setNew ?_ (by simp; omega) _))⟩
  have b3 := bne0 h3
  have hkk : a.kind = b.kind := sgnI_zero.1 h1
  have Hkk := Lib.hid hkk
  have Hff : Hid (cmpN a b = cmpKs (decide (a.kind = 4)) a.names b.names a.kids b.kids) := Lib.hid (by rw [Hf.out, if_neg (by simpa using h1), if_neg (by simpa using h2), if_neg (by simpa using h3)])
  clear h1 h2 h3 hkk
  go_enter Try.func92, Try.ntmps92
  go_wp2_with fail
  refine (cmpCompare_ok _ _ _).mono ?_
  rintro e w' ⟨rfl, rfl⟩
  go_wp2_with fail
  refine (cmpCompare_ok _ _ _).mono ?_
  rintro e w' ⟨rfl, rfl⟩
  go_wp2_with fail
  refine (stringsCompare_ok _ _ _).mono ?_
  rintro e w' ⟨rfl, rfl⟩
  go_wp2_with fail
  clear b1 b2 b3
  go_loopw [4, 8] (fun t4 i wr => t4 = .int .i64 0 ∧ Grow w wr ∧ BoxN wr w.heap.size (nodeL a na nc ka kc) ∧ BoxN wr (w.heap.size + 1) (nodeL b na2 nc2 ka2 kc2) ∧ ∃ k : Nat, k ≤ a.kids.length ∧ k ≤ b.kids.length ∧ i = .int .i64 k ∧ cmpKs (decide (a.kind = 4)) a.names b.names a.kids b.kids = cmpKs (decide (a.kind = 4)) (a.names.drop k) (b.names.drop k) (a.kids.drop k) (b.kids.drop k)) (fun _ i _ => a.kids.length - (intOf i).toNat)
  case atStart => exact ⟨rfl, (by repeat (first | with_reducible exact Ext.refl _ _ | with_reducible refine Ext.trans ?_ (by assumption) | with_reducible refine Ext.drew ?_ | with_reducible refine Ext.drewN ?_ _ | with_reducible refine Ext.alloc ?_ _ | with_reducible refine Ext.setNew ?_ (by simp; done) _ | with_reducible refine Ext.setNew ?_ (by simp; omega) _)), (BoxN.new w (nodeL a na nc ka kc) _).grow ((Ext.refl nil _).alloc _), BoxN.new1 w _ (nodeL b na2 nc2 ka2 kc2) _, 0, Nat.zero_le _, Nat.zero_le _, rfl, rfl⟩
  case round =>
    obtain ⟨rfl, hg0, B1, B2, k, hk1, hk2, rfl, hs⟩ := hrel
    have Hs := Lib.hid hs
    clear hs
    have HB1 := Lib.hid B1
    have HB2 := Lib.hid B2
    clear B1 B2
    by_cases hlt : k < a.kids.length ∧ k < b.kids.length
    · obtain ⟨hlt1, hlt2⟩ := hlt
      rcases Hks.out.2.2 with hh | ⟨bk, ok, rfl, _, hkr⟩
      · rw [hh] at hlt1; simp at hlt1
      rcases Hks2.out.2.2 with hh | ⟨bk2, ok2, rfl, _, hkr2⟩
      · rw [hh] at hlt2; simp at hlt2
      obtain ⟨na', nc', ka', kc', c0, c1, c2, c3, c4, hkc⟩ := (hkr.ext hg0 (fun _ _ h => h) (fun h => h)).get k hlt1
      obtain ⟨na3, nc3, ka3, kc3, d0, d1, d2, d3, d4, hkc2⟩ := (hkr2.ext hg0 (fun _ _ h => h) (fun h => h)).get k hlt2
      have Hkc : Hid (NodeR wr any a.kids[k] (nodeV a.kids[k] na' nc' ka' kc')) := Lib.hid ⟨_, _, _, _, rfl, hkc⟩
      have Hkc2 : Hid (NodeR wr any b.kids[k] (nodeV b.kids[k] na3 nc3 ka3 kc3)) := Lib.hid ⟨_, _, _, _, rfl, hkc2⟩
      have Hgka := Lib.hid (Hga.out.kid (List.getElem_mem hlt1))
      have Hgkb := Lib.hid (Hgb.out.kid (List.getElem_mem hlt2))
      clear hkr hkr2 hkc hkc2
      have p3 := HB1.out.cell 3 _ rfl
      have p4 := HB1.out.cell 4 _ rfl
      have p0 := HB1.out.cell 0 _ rfl
      have q3 := HB2.out.cell 3 _ rfl
      have q4 := HB2.out.cell 4 _ rfl
      by_cases h4 : a.kind = 4
      · have e1 := (Hga.out.map h4).2
        have e2 := (Hgb.out.map (by rw [← Hkk.out]; exact h4)).2
        have n1 : k < a.names.length := by omega
        have n2 : k < b.names.length := by omega
        have b4 : (a.kind == 4) = true := by simp [h4]
        have hst := cmpKs_map (ns := a.names) (ms := b.names) hlt1 hlt2 n1 n2
        rcases ((Hns.out).grow hg0).2.2.2 with hh | ⟨b5, o5, rfl, _, hc5⟩
        · rw [hh] at n1; simp at n1
        rcases ((Hns2.out).grow hg0).2.2.2 with hh | ⟨b6, o6, rfl, _, hc6⟩
        · rw [hh] at n2; simp at n2
        have x1 := hc5 k n1
        have x2 := hc6 k n2
        clear hc5 hc6 e1 e2
        have Hd : Hid (decide (a.kind = 4) = true) := Lib.hid (by simp [h4])
        clear h4
        by_cases h5 : sgnT a.names[k] b.names[k] = 0
        · have b5' := bne0 h5
          have hst' := hst.trans (if_neg (by simpa using h5))
          clear hst h5
          by_cases h6 : cmpN a.kids[k] b.kids[k] = 0
          · have b6' := bne0 h6
            have Hst := Lib.hid (hst'.trans (if_neg (by simpa using h6)))
            clear hst' h6
            go_wp2_with fail
            (refine wp_region_later (by kernel_rfl) (by kernel_rfl) ?_; (repeat (first | go_big_quiet_step ((go_at_call 129; exact later_call_same (stringsCompare_ok _ _ _))) | quiet_step ((go_at_call 129; exact later_call_same (stringsCompare_ok _ _ _))))); refine wpQuiet_nil ?_; rintro _ ⟨x_w2, rfl⟩; have hg_w2 := later_grow wr x_w2; generalize later wr x_w2 = w2 at hg_w2 ⊢)
            (replace p0 := hg_w2.some p0; replace p3 := hg_w2.some p3; replace p4 := hg_w2.some p4; replace q3 := hg_w2.some q3; replace q4 := hg_w2.some q4; replace c0 := hg_w2.some c0; replace c1 := hg_w2.some c1; replace c2 := hg_w2.some c2; replace c3 := hg_w2.some c3; replace c4 := hg_w2.some c4; replace d0 := hg_w2.some d0; replace d1 := hg_w2.some d1; replace d2 := hg_w2.some d2; replace d3 := hg_w2.some d3; replace d4 := hg_w2.some d4)
            go_wp2_with fail
            (refine wp_region_later (by kernel_rfl) (by kernel_rfl) ?_; (repeat (first | go_big_quiet_step ((go_at_call 92; exact later_call (v := .int .i64 (cmpN a.kids[k] b.kids[k])) (Ih.out _ (List.getElem_mem hlt1) b.kids[k] _ _ _ Hgka.out Hgkb.out (Hkc.out.grow (hg_w2.trans (later_grow _ _))) (Hkc2.out.grow (hg_w2.trans (later_grow _ _)))))) | quiet_step ((go_at_call 92; exact later_call (v := .int .i64 (cmpN a.kids[k] b.kids[k])) (Ih.out _ (List.getElem_mem hlt1) b.kids[k] _ _ _ Hgka.out Hgkb.out (Hkc.out.grow (hg_w2.trans (later_grow _ _))) (Hkc2.out.grow (hg_w2.trans (later_grow _ _)))))))); refine wpQuiet_nil ?_; rintro _ ⟨x_w3, rfl⟩; have hg_w3 := later_grow w2 x_w3; generalize later w2 x_w3 = w3 at hg_w3 ⊢)
            go_wp2_with fail
            go_roundw
            case rel => exact ⟨rfl, (by repeat (first | with_reducible exact Ext.refl _ _ | with_reducible refine Ext.trans ?_ (by assumption) | with_reducible refine Ext.drew ?_ | with_reducible refine Ext.drewN ?_ _ | with_reducible refine Ext.alloc ?_ _ | with_reducible refine Ext.setNew ?_ (by simp; done) _ | with_reducible refine Ext.setNew ?_ (by simp; omega) _)), HB1.out.grow (by repeat (first | with_reducible exact Ext.refl _ _ | with_reducible refine Ext.trans ?_ (by assumption) | with_reducible refine Ext.drew ?_ | with_reducible refine Ext.drewN ?_ _ | with_reducible refine Ext.alloc ?_ _ | with_reducible refine Ext.setNew ?_ (by simp; done) _ | with_reducible refine Ext.setNew ?_ (by simp; omega) _)), HB2.out.grow (by repeat (first | with_reducible exact Ext.refl _ _ | with_reducible refine Ext.trans ?_ (by assumption) | with_reducible refine Ext.drew ?_ | with_reducible refine Ext.drewN ?_ _ | with_reducible refine Ext.alloc ?_ _ | with_reducible refine Ext.setNew ?_ (by simp; done) _ | with_reducible refine Ext.setNew ?_ (by simp; omega) _)), k + 1, by omega, by omega, by go_num, by rw [Hs.out, Hd.out, Hst.out]⟩
            case measure => simp [intOf]; omega
          · have b6' := bne1 h6
            have Hst := Lib.hid (hst'.trans (if_pos h6))
            clear hst' h6
            go_wp2_with fail
            (refine wp_region_later (by kernel_rfl) (by kernel_rfl) ?_; (repeat (first | go_big_quiet_step ((go_at_call 129; exact later_call_same (stringsCompare_ok _ _ _))) | quiet_step ((go_at_call 129; exact later_call_same (stringsCompare_ok _ _ _))))); refine wpQuiet_nil ?_; rintro _ ⟨x_w2, rfl⟩; have hg_w2 := later_grow wr x_w2; generalize later wr x_w2 = w2 at hg_w2 ⊢)
            (replace p0 := hg_w2.some p0; replace p3 := hg_w2.some p3; replace p4 := hg_w2.some p4; replace q3 := hg_w2.some q3; replace q4 := hg_w2.some q4; replace c0 := hg_w2.some c0; replace c1 := hg_w2.some c1; replace c2 := hg_w2.some c2; replace c3 := hg_w2.some c3; replace c4 := hg_w2.some c4; replace d0 := hg_w2.some d0; replace d1 := hg_w2.some d1; replace d2 := hg_w2.some d2; replace d3 := hg_w2.some d3; replace d4 := hg_w2.some d4)
            go_wp2_with fail
            (refine wp_region_later (by kernel_rfl) (by kernel_rfl) ?_; (repeat (first | go_big_quiet_step ((go_at_call 92; exact later_call (v := .int .i64 (cmpN a.kids[k] b.kids[k])) (Ih.out _ (List.getElem_mem hlt1) b.kids[k] _ _ _ Hgka.out Hgkb.out (Hkc.out.grow (hg_w2.trans (later_grow _ _))) (Hkc2.out.grow (hg_w2.trans (later_grow _ _)))))) | quiet_step ((go_at_call 92; exact later_call (v := .int .i64 (cmpN a.kids[k] b.kids[k])) (Ih.out _ (List.getElem_mem hlt1) b.kids[k] _ _ _ Hgka.out Hgkb.out (Hkc.out.grow (hg_w2.trans (later_grow _ _))) (Hkc2.out.grow (hg_w2.trans (later_grow _ _)))))))); refine wpQuiet_nil ?_; rintro _ ⟨x_w3, rfl⟩; have hg_w3 := later_grow w2 x_w3; generalize later w2 x_w3 = w3 at hg_w3 ⊢)
            go_wp2_with fail
            go_ret
            exact ⟨by rw [Hff.out, Hs.out, Hd.out, Hst.out]; rfl, (by repeat (first | with_reducible exact Ext.refl _ _ | with_reducible refine Ext.trans ?_ (by assumption) | with_reducible refine Ext.drew ?_ | with_reducible refine Ext.drewN ?_ _ | with_reducible refine Ext.alloc ?_ _ | with_reducible refine Ext.setNew ?_ (by simp; done) _ | with_reducible refine Ext.setNew ?_ (by simp; omega) _))⟩
        · have b5' := bne1 h5
          have Hst := Lib.hid (hst.trans (if_pos h5))
          clear hst h5
          go_wp2_with fail
          (refine wp_region_later (by kernel_rfl) (by kernel_rfl) ?_; (repeat (first | go_big_quiet_step ((go_at_call 129; exact later_call_same (stringsCompare_ok _ _ _))) | quiet_step ((go_at_call 129; exact later_call_same (stringsCompare_ok _ _ _))))); refine wpQuiet_nil ?_; rintro _ ⟨x_w2, rfl⟩; have hg_w2 := later_grow wr x_w2; generalize later wr x_w2 = w2 at hg_w2 ⊢)
          go_wp2_with fail
          go_ret
          exact ⟨by rw [Hff.out, Hs.out, Hd.out, Hst.out]; rfl, (by repeat (first | with_reducible exact Ext.refl _ _ | with_reducible refine Ext.trans ?_ (by assumption) | with_reducible refine Ext.drew ?_ | with_reducible refine Ext.drewN ?_ _ | with_reducible refine Ext.alloc ?_ _ | with_reducible refine Ext.setNew ?_ (by simp; done) _ | with_reducible refine Ext.setNew ?_ (by simp; omega) _))⟩
      · have b4 : (a.kind == 4) = false := by simp [h4]
        have hst := cmpKs_list (ns := a.names) (ms := b.names) hlt1 hlt2
        have Hd : Hid (decide (a.kind = 4) = false) := Lib.hid (by simp [h4])
        clear h4
        by_cases h6 : cmpN a.kids[k] b.kids[k] = 0
        · have b6' := bne0 h6
          have Hst := Lib.hid (hst.trans (if_neg (by simpa using h6)))
          clear hst h6
          go_wp2_with fail
          (refine wp_region_later (by kernel_rfl) (by kernel_rfl) ?_; (repeat (first | go_big_quiet_step ((go_at_call 92; exact later_call (v := .int .i64 (cmpN a.kids[k] b.kids[k])) (Ih.out _ (List.getElem_mem hlt1) b.kids[k] _ _ _ Hgka.out Hgkb.out (Hkc.out.grow (later_grow _ _)) (Hkc2.out.grow (later_grow _ _))))) | quiet_step ((go_at_call 92; exact later_call (v := .int .i64 (cmpN a.kids[k] b.kids[k])) (Ih.out _ (List.getElem_mem hlt1) b.kids[k] _ _ _ Hgka.out Hgkb.out (Hkc.out.grow (later_grow _ _)) (Hkc2.out.grow (later_grow _ _))))))); refine wpQuiet_nil ?_; rintro _ ⟨x_w3, rfl⟩; have hg_w3 := later_grow wr x_w3; generalize later wr x_w3 = w3 at hg_w3 ⊢)
          go_wp2_with fail
          go_roundw
          case rel => exact ⟨rfl, (by repeat (first | with_reducible exact Ext.refl _ _ | with_reducible refine Ext.trans ?_ (by assumption) | with_reducible refine Ext.drew ?_ | with_reducible refine Ext.drewN ?_ _ | with_reducible refine Ext.alloc ?_ _ | with_reducible refine Ext.setNew ?_ (by simp; done) _ | with_reducible refine Ext.setNew ?_ (by simp; omega) _)), HB1.out.grow (by repeat (first | with_reducible exact Ext.refl _ _ | with_reducible refine Ext.trans ?_ (by assumption) | with_reducible refine Ext.drew ?_ | with_reducible refine Ext.drewN ?_ _ | with_reducible refine Ext.alloc ?_ _ | with_reducible refine Ext.setNew ?_ (by simp; done) _ | with_reducible refine Ext.setNew ?_ (by simp; omega) _)), HB2.out.grow (by repeat (first | with_reducible exact Ext.refl _ _ | with_reducible refine Ext.trans ?_ (by assumption) | with_reducible refine Ext.drew ?_ | with_reducible refine Ext.drewN ?_ _ | with_reducible refine Ext.alloc ?_ _ | with_reducible refine Ext.setNew ?_ (by simp; done) _ | with_reducible refine Ext.setNew ?_ (by simp; omega) _)), k + 1, by omega, by omega, by go_num, by rw [Hs.out, Hd.out, Hst.out]⟩
          case measure => simp [intOf]; omega
        · have b6' := bne1 h6
          have Hst := Lib.hid (hst.trans (if_pos h6))
          clear hst h6
          go_wp2_with fail
          (refine wp_region_later (by kernel_rfl) (by kernel_rfl) ?_; (repeat (first | go_big_quiet_step ((go_at_call 92; exact later_call (v := .int .i64 (cmpN a.kids[k] b.kids[k])) (Ih.out _ (List.getElem_mem hlt1) b.kids[k] _ _ _ Hgka.out Hgkb.out (Hkc.out.grow (later_grow _ _)) (Hkc2.out.grow (later_grow _ _))))) | quiet_step ((go_at_call 92; exact later_call (v := .int .i64 (cmpN a.kids[k] b.kids[k])) (Ih.out _ (List.getElem_mem hlt1) b.kids[k] _ _ _ Hgka.out Hgkb.out (Hkc.out.grow (later_grow _ _)) (Hkc2.out.grow (later_grow _ _))))))); refine wpQuiet_nil ?_; rintro _ ⟨x_w3, rfl⟩; have hg_w3 := later_grow wr x_w3; generalize later wr x_w3 = w3 at hg_w3 ⊢)
          go_wp2_with fail
          go_ret
          exact ⟨by rw [Hff.out, Hs.out, Hd.out, Hst.out]; rfl, (by repeat (first | with_reducible exact Ext.refl _ _ | with_reducible refine Ext.trans ?_ (by assumption) | with_reducible refine Ext.drew ?_ | with_reducible refine Ext.drewN ?_ _ | with_reducible refine Ext.alloc ?_ _ | with_reducible refine Ext.setNew ?_ (by simp; done) _ | with_reducible refine Ext.setNew ?_ (by simp; omega) _))⟩
    · have Hend := Lib.hid (cmpKs_end (decide (a.kind = 4)) a.names b.names a.kids b.kids k hk1 hk2 hlt)
      have p4 := HB1.out.cell 4 _ rfl
      have q4 := HB2.out.cell 4 _ rfl
      by_cases h1 : k < a.kids.length
      · have h2 : ¬ k < b.kids.length := by omega
        go_wp2_with fail
        refine (cmpCompare_ok _ _ _).mono ?_
        rintro e w' ⟨rfl, rfl⟩
        go_wp2_with fail
        go_ret
        exact ⟨by rw [Hff.out, Hs.out, Hend.out]; rfl, hg0⟩
      · go_wp2_with fail
        refine (cmpCompare_ok _ _ _).mono ?_
        rintro e w' ⟨rfl, rfl⟩
        go_wp2_with fail
        go_ret
        exact ⟨by rw [Hff.out, Hs.out, Hend.out]; rfl, hg0⟩

theorem compareValid_ok : ∀ a, CmpIOk a := Nd.ind' CmpIOk compareValid_of

end Go.Proofs.Ytchiakeceiefdaa
