/-
  Texts of this claim, joined.
-/
import Derived.Laws.AppendOwn
import Derived.Laws.AppendOwnNone
import Derived.Laws.OwnMore
import Derived.Test.YtgfnmhfdmmnaoaaFmE

set_option linter.unusedSimpArgs false
set_option linter.unusedVariables false
set_option linter.unnecessarySimpa false
set_option maxRecDepth 100000
set_option maxHeartbeats 16000000
namespace Go.Proofs.Ytgfnmhfdmmnaoaa
open Go.RowKit
mutual
def mis : Shp → Nd → Option (List ByteArray)
  | ⟨kind, names, needs, kids⟩, n => if kind = 0 then none else if kind ≠ n.kind then some [] else misL names needs kids n
def misL : List ByteArray → List Bool → List Shp → Nd → Option (List ByteArray)
  | nm :: ns, nd :: bs, k :: ks, n => if mem n.names nm then (match mis k (kidOf n nm) with | some p => some (nm :: p) | none => misL ns bs ks n) else if nd then some [nm] else misL ns bs ks n
  | _, _, _, _ => none
end
theorem mis_eq (x : Shp) (n : Nd) : mis x n = if x.kind = 0 then none else if x.kind ≠ n.kind then some [] else misL x.names x.needs x.kids n := by cases x; simp [mis]
theorem misL_step {ns : List ByteArray} {bs : List Bool} {ks : List Shp} (n : Nd) {k : Nat} (h1 : k < ns.length) (h2 : k < bs.length) (h3 : k < ks.length) :
    misL (ns.drop k) (bs.drop k) (ks.drop k) n = if mem n.names ns[k] then (match mis ks[k] (kidOf n ns[k]) with | some p => some (ns[k] :: p) | none => misL (ns.drop (k + 1)) (bs.drop (k + 1)) (ks.drop (k + 1)) n) else if bs[k] then some [ns[k]] else misL (ns.drop (k + 1)) (bs.drop (k + 1)) (ks.drop (k + 1)) n := by
  rw [drop_cons _ _ h1, drop_cons _ _ h2, drop_cons _ _ h3, misL]
theorem misL_end {ns : List ByteArray} {bs : List Bool} {ks : List Shp} (n : Nd) {k : Nat} (h1 : ¬ k < ns.length) : misL (ns.drop k) (bs.drop k) (ks.drop k) n = none := by
  rw [List.drop_eq_nil_of_le (by omega)]; simp [misL]
def MisR (w w' : World) (r : Option (List ByteArray)) (v : Value) : Prop :=
  ∃ a c fp, v = .tuple #[.slice a (r.getD []).length c, .bool r.isSome] ∧ StrsF w' a c (r.getD []) fp ∧ Free w.heap.size w' fp ∧ (r.getD [] = [] → a = none ∧ c = 0)
theorem MisR.grow {w w' w'' : World} {r : Option (List ByteArray)} {v : Value} (h : MisR w w' r v) (hg : Grow w' w'') : MisR w w'' r v := by
  obtain ⟨a, c, fp, hv, h1, h2, h3⟩ := h
  exact ⟨a, c, fp, hv, h1.keep (hg.keeps h2 (fun _ _ h => h)), h2.ext hg (fun _ _ h => h), h3⟩
theorem MisR.none (w w' : World) : MisR w w' .none (.tuple #[.slice .none 0 0, .bool false]) :=
  ⟨.none, 0, [], rfl, ⟨Nat.le_refl _, Nat.zero_le _, by simp, .inl ⟨rfl, rfl⟩⟩, Free.nil _ _, fun _ => ⟨rfl, rfl⟩⟩
theorem MisR.nil (w w' : World) : MisR w w' (some []) (.tuple #[.slice .none 0 0, .bool true]) :=
  ⟨.none, 0, [], rfl, ⟨Nat.le_refl _, Nat.zero_le _, by simp, .inl ⟨rfl, rfl⟩⟩, Free.nil _ _, fun _ => ⟨rfl, rfl⟩⟩
theorem strs_of_row {w : World} {B : Nat} {T : TypeId} {v : Value} {n : Nat} {xs : List ByteArray} (h : w.ownsRow B T 1 v n (xs.map Value.string)) (hx : ∀ x ∈ xs, x.size ≤ big) :
    ∃ a c fp, v = .slice a xs.length c ∧ StrsF w a c xs fp ∧ Free B w fp ∧ (xs = [] → fp = []) := by
  obtain ⟨h1, h2⟩ := h
  have hn : n = xs.length := by simp at h1; omega
  subst hn
  rcases h2 with ⟨rfl, h0⟩ | ⟨g, cap, cur, rfl, hb, hg, hle, hcap, hcs, htake⟩
  · have : xs = [] := List.length_eq_zero_iff.1 h0
    subst this
    exact ⟨none, 0, [], rfl, ⟨Nat.le_refl _, Nat.zero_le _, by simp, .inl ⟨rfl, rfl⟩⟩, Free.nil _ _, fun _ => rfl⟩
  · have hlen : xs.length ≤ big := by unfold maxLen at hcap; unfold big; omega
    by_cases he : xs = []
    · subst he
      exact ⟨_, _, [], rfl, ⟨Nat.zero_le _, Nat.zero_le _, by simp, .inl ⟨rfl, rfl⟩⟩, Free.nil _ _, fun _ => rfl⟩
    · refine ⟨_, _, [g], rfl, ⟨hle, hlen, hx, .inr ⟨g, 0, he, rfl, rfl, fun i hi => ?_⟩⟩, ⟨by simp, fun b hb' => ?_⟩, fun h => absurd h he⟩
      · unfold World.cell?
        simp only [hg, Nat.zero_add]
        have : cur.toList[i]? = some (Value.string xs[i]) := by
          have h3 : (cur.toList.take (xs.length * 1))[i]? = some (Value.string xs[i]) := by rw [htake]; simp [hi]
          rw [List.getElem?_take] at h3
          rw [if_pos (by omega)] at h3
          exact h3
        rw [Array.getElem?_toList] at this
        simpa [World.frozen?] using this
      · simp at hb'
        subst hb'
        refine ⟨hb, (Array.getElem?_eq_some_iff.1 hg).1, fun o => ?_⟩
        unfold World.frozen?
        simp [hg]
theorem MisR.one (W w : World) (x : ByteArray) (T : TypeId) (b : Nat) (hb : b = w.heap.size) (h : W.heap.size ≤ w.heap.size) (hx : x.size ≤ big) :
    MisR W (w.alloc (.cells #[.string x] T)) (some [x]) (.tuple #[.slice (some ⟨b, 0, Option.none⟩) 1 1, .bool true]) := by
  subst hb
  refine ⟨_, _, [w.heap.size], rfl, ⟨Nat.le_refl _, by simp [big], by simpa using hx, .inr ⟨_, 0, by simp, rfl, rfl, fun i hi => ?_⟩⟩, ⟨by simp, fun b hb => ?_⟩, fun h => by simp at h⟩
  · simp at hi
    subst hi
    rw [World.cell?_alloc_new]; rfl
  · simp at hb
    subst hb
    exact ⟨h, by simp, fun o => World.frozen?_alloc_new w _ T o⟩
theorem addr_add (b o j : Nat) : (⟨b, o, Option.none⟩ : Addr).add j = ⟨b, o + j, Option.none⟩ := by unfold Addr.add; split <;> simp_all
theorem grown_ext {w w1 w2 : World} {row : Option Nat} (h : Grow w w1) (g : w1.grownBy w2 row) (hr : ∀ k, row = some k → w.heap.size ≤ k) : Grow w w2 :=
  ⟨g.os.trans h.os, g.tape.trans h.tape, g.output.trans h.output, Nat.le_trans h.size g.size, fun k hk _ => by
    rw [g.block k (Nat.lt_of_lt_of_le hk h.size) (fun e => by have := hr k e.symm; omega)]
    exact h.block k hk (fun h => h)⟩
theorem row_new (w : World) (B : Nat) (T : TypeId) (xs : List Value) (b : Nat) (hb : b = w.heap.size) (h : B ≤ w.heap.size) (hm : xs.length ≤ 1000) : (w.alloc (.cells xs.toArray T)).ownsRow B T 1 (.slice (some ⟨b, 0, Option.none⟩) xs.length xs.length) xs.length xs := by
  subst hb
  exact ⟨by simp, .inr ⟨_, _, xs.toArray, rfl, h, heap_alloc_new w _, Nat.le_refl _, by unfold maxLen; omega, by simp, by simp⟩⟩
theorem MisR.row {w w' : World} {T : TypeId} {v : Value} {n : Nat} {x : ByteArray} {p : List ByteArray} (h : w'.ownsRow w.heap.size T 1 v n ((x :: p).map Value.string)) (hx : ∀ y ∈ x :: p, y.size ≤ big) :
    MisR w w' (some (x :: p)) (.tuple #[v, .bool true]) := by
  obtain ⟨a, c, fp, hv, h1, h2, _⟩ := strs_of_row h hx
  exact ⟨a, c, fp, by rw [hv]; rfl, h1, h2, fun h => by simp at h⟩
theorem MisR.base {w0 w w' : World} {r : Option (List ByteArray)} {v : Value} (h : MisR w w' r v) (hs : w0.heap.size ≤ w.heap.size) : MisR w0 w' r v := by
  obtain ⟨a, c, fp, hv, h1, h2, h3⟩ := h
  exact ⟨a, c, fp, hv, h1, h2.mono hs, h3⟩
theorem misL_len (n : Nd) (d : Nat) : ∀ (ks : List Shp), (∀ k ∈ ks, ∀ m p, mis k m = some p → p.length ≤ d) → ∀ ns bs p, misL ns bs ks n = some p → p.length ≤ d + 1
  | [], _, ns, bs, p, h => by cases ns <;> cases bs <;> simp [misL] at h
  | k :: ks, hk, [], bs, p, h => by simp [misL] at h
  | k :: ks, hk, nm :: ns, [], p, h => by simp [misL] at h
  | k :: ks, hk, nm :: ns, nd :: bs, p, h => by
    rw [misL] at h
    by_cases hm : mem n.names nm = true
    · rw [if_pos hm] at h
      cases hx : mis k (kidOf n nm) with
      | none => rw [hx] at h; exact misL_len n d ks (fun k' hk' => hk k' (by simp [hk'])) ns bs p h
      | some q =>
        rw [hx] at h
        simp at h
        subst h
        have := hk k (by simp) _ _ hx
        simp; omega
    · rw [if_neg hm] at h
      by_cases hn : nd = true
      · rw [if_pos hn] at h; simp at h; subst h; simp
      · rw [if_neg hn] at h
        exact misL_len n d ks (fun k' hk' => hk k' (by simp [hk'])) ns bs p h
theorem mis_len : ∀ (d : Nat) (x : Shp) (n : Nd) (p : List ByteArray), shpB x d = true → mis x n = some p → p.length ≤ d
  | 0, x, n, p, h, _ => by rw [shpB_eq] at h; simp at h
  | d + 1, x, n, p, h, hp => by
    rw [shpB_eq, shpL_all] at h
    simp only [Bool.and_eq_true, List.all_eq_true, Nat.add_sub_cancel] at h
    rw [mis_eq] at hp
    by_cases h0 : x.kind = 0
    · simp [h0] at hp
    · rw [if_neg h0] at hp
      by_cases h1 : x.kind ≠ n.kind
      · rw [if_pos h1] at hp; simp at hp; subst hp; simp
      · rw [if_neg h1] at hp
        exact misL_len n d x.kids (fun k hk m q hq => mis_len d k m q (h.2 k hk) hq) _ _ _ hp
theorem GoodS.len {x : Shp} (h : GoodS x) {n : Nd} {p : List ByteArray} (hp : mis x n = some p) : p.length ≤ 5 := by
  obtain ⟨d, hd, h⟩ := h
  exact Nat.le_trans (mis_len d x n p h hp) hd
def MisOk (x : Shp) : Prop := ∀ (n : Nd) (v u : Value) (w : World), GoodS x → Good n → ShapeR w any x v → NodeR w any n u →
    Calls Try.prog 60 #[v, u] w fun e w' => ∃ r, e = .returned r ∧ Grow w w' ∧ MisR w w' (mis x n) r
theorem misfit_of (x : Shp) (ih : ∀ k ∈ x.kids, MisOk k) : MisOk x := by
  intro n v u w hx hg hn hu
  obtain ⟨na, nc, ba, bc, ka, kc, rfl, hc⟩ := hn
  obtain ⟨hns, hnb, hk1, hk2, hk3⟩ := hc.parts
  have Hu := Lib.hid hu
  obtain ⟨na2, nc2, ka2, kc2, rfl, hc2⟩ := hu
  obtain ⟨p1, p2, p3, p4, p5, p6⟩ := shpHead_parts hx.head
  have hl1 : x.names.length ≤ 6 := by
    simp only [areNamesB, Bool.and_eq_true, decide_eq_true_eq] at p3
    exact p3.1
  have hl2 : n.kids.length ≤ 6 := hg.kids6
  have Hns := Lib.hid hns
  have Hnb := Lib.hid hnb
  have Hk3 := Lib.hid hk3
  have Ih := Lib.hid ih
  have Hg := Lib.hid hg
  have Hx := Lib.hid hx
  have P4 := Lib.hid p4
  have P5 := Lib.hid p5
  have Hf := Lib.hid (mis_eq x n)
  clear hc hns hnb hk1 hk2 hk3 ih hc2 hx hg p3 p4 p5 p6
  unfold shapeV
  unfold nodeV at *
  by_cases h0 : x.kind = 0
  · have b1 : (x.kind == 0) = true := by simpa using h0
    have Hff : Hid (mis x n = none) := Lib.hid (by rw [Hf.out, if_pos h0])
    clear h0
    go_enter Try.func60, Try.ntmps60
    go_wp2_with fail
    go_ret2
    exact ⟨_, rfl, (by repeat (first | with_reducible exact Ext.refl _ _ | with_reducible refine Ext.trans ?_ (by assumption) | with_reducible refine Ext.drew ?_ | with_reducible refine Ext.drewN ?_ _ | with_reducible refine Ext.alloc ?_ _ | with_reducible refine Ext.setNew ?_ (by simp; done) _ | with_reducible refine Ext.setNew ?_ (by simp; omega) _)), by rw [Hff.out]; exact MisR.none _ _⟩
  have b1 : (x.kind == 0) = false := by simpa using h0
  by_cases h1 : x.kind ≠ n.kind
  · have b2 : (x.kind != n.kind) = true := by simpa using h1
    have Hff : Hid (mis x n = some []) := Lib.hid (by rw [Hf.out, if_neg h0, if_pos h1])
    clear h0 h1
    go_enter Try.func60, Try.ntmps60
    go_wp2_with fail
    go_ret2
    exact ⟨_, rfl, (by repeat (first | with_reducible exact Ext.refl _ _ | with_reducible refine Ext.trans ?_ (by assumption) | with_reducible refine Ext.drew ?_ | with_reducible refine Ext.drewN ?_ _ | with_reducible refine Ext.alloc ?_ _ | with_reducible refine Ext.setNew ?_ (by simp; done) _ | with_reducible refine Ext.setNew ?_ (by simp; omega) _)), by rw [Hff.out]; exact MisR.nil _ _⟩
  have b2 : (x.kind != n.kind) = false := by simpa using h1
  have Hff : Hid (mis x n = misL x.names x.needs x.kids n) := Lib.hid (by rw [Hf.out, if_neg h0, if_neg h1])
  clear h0 h1
  go_enter Try.func60, Try.ntmps60
  go_wp2_with fail
  go_loopw [4, 5, 23] (fun t4 t5 i wr => t4 = .slice none 0 0 ∧ t5 = .bool false ∧ Grow w wr ∧ BoxN wr w.heap.size (shapeL' x na nc ba bc ka kc) ∧ BoxN wr (w.heap.size + 1) (nodeL n na2 nc2 ka2 kc2) ∧ ∃ k : Nat, k ≤ x.names.length ∧ i = .int .i64 k ∧ misL x.names x.needs x.kids n = misL (x.names.drop k) (x.needs.drop k) (x.kids.drop k) n) (fun _ _ i _ => x.names.length - (intOf i).toNat)
  case atStart => exact ⟨rfl, rfl, (by repeat (first | with_reducible exact Ext.refl _ _ | with_reducible refine Ext.trans ?_ (by assumption) | with_reducible refine Ext.drew ?_ | with_reducible refine Ext.drewN ?_ _ | with_reducible refine Ext.alloc ?_ _ | with_reducible refine Ext.setNew ?_ (by simp; done) _ | with_reducible refine Ext.setNew ?_ (by simp; omega) _)), (BoxN.new w (shapeL' x na nc ba bc ka kc) _).grow ((Ext.refl nil _).alloc _), BoxN.new1 w _ (nodeL n na2 nc2 ka2 kc2) _, 0, Nat.zero_le _, rfl, rfl⟩
  case round =>
    obtain ⟨rfl, rfl, hg0, B1, B2, k, hk, rfl, hs⟩ := hrel
    have Hs := Lib.hid hs
    clear hs
    have q2 := B1.cell 2 _ rfl
    have q3 := B1.cell 3 _ rfl
    have r0 := B2.cell 0 _ rfl
    have r1 := B2.cell 1 _ rfl
    have r2 := B2.cell 2 _ rfl
    have r3 := B2.cell 3 _ rfl
    have r4 := B2.cell 4 _ rfl
    have HB1 := Lib.hid B1
    have HB2 := Lib.hid B2
    clear B1 B2
    by_cases hlt : k < x.names.length
    · have hlb : k < x.needs.length := by have := P4.out; omega
      have hlk : k < x.kids.length := by have := P5.out; omega
      have hst := misL_step (ns := x.names) (bs := x.needs) (ks := x.kids) n hlt hlb hlk
      have HA := Lib.hid Hg.out.asc
      have HL := Hg.out.len
      rcases ((Hns.out).ext hg0 (fun _ _ h => h)).2.2.2 with hh | ⟨b1, o1, rfl, _, hc1⟩
      · rw [hh] at hlt; simp at hlt
      rcases ((Hnb.out).ext hg0 (fun _ _ h => h)).2.2 with hh | ⟨b2, o2, rfl, _, hc2⟩
      · rw [hh] at hlb; simp at hlb
      rcases Hk3.out with hh | ⟨b3, o3, rfl, _, hkr⟩
      · rw [hh] at hlk; simp at hlk
      have cn := hc1 k hlt
      have cb := hc2 k hlb
      have hsz := ((Hns.out).ext hg0 (fun _ _ h => h)).2.2.1 _ (List.getElem_mem hlt)
      obtain ⟨na', nc', ba', bc', ka', kc', d0, d1, d2, d3, hkc⟩ := (hkr.ext hg0 (fun _ _ h => h) (fun h => h)).get k hlk
      have Hkc : Hid (ShapeR wr any x.kids[k] (shapeV x.kids[k] na' nc' ba' bc' ka' kc')) := Lib.hid ⟨_, _, _, _, _, _, rfl, hkc⟩
      have Hsz := Lib.hid hsz
      cases hm : mem n.names x.names[k]
      · rw [hm] at hst
        have Hm := Lib.hid hm
        cases hb : x.needs[k]
        · rw [hb] at cb hst
          have Hst : Hid (misL (x.names.drop k) (x.needs.drop k) (x.kids.drop k) n = misL (x.names.drop (k + 1)) (x.needs.drop (k + 1)) (x.kids.drop (k + 1)) n) := Lib.hid (by rw [hst]; rfl)
          clear hst hm hb hkc hkr hc1 hc2 hsz
          go_wp2_with fail
          refine (nameIn_ok n x.names[k] _ _ HA.out HL (by omega) (Hu.out.grow hg0)).mono ?_
          rintro e w2 ⟨v', rfl, hg_w2, hr2⟩
          obtain ⟨na5, nc5, ka5, kc5, rfl, hc5⟩ := hr2
          clear hc5
          simp only [Hm.out]
          (replace q2 := hg_w2.some q2; replace q3 := hg_w2.some q3; replace r0 := hg_w2.some r0; replace r1 := hg_w2.some r1; replace r2 := hg_w2.some r2; replace r3 := hg_w2.some r3; replace r4 := hg_w2.some r4; replace cn := hg_w2.some cn; replace cb := hg_w2.some cb; replace d0 := hg_w2.some d0; replace d1 := hg_w2.some d1; replace d2 := hg_w2.some d2; replace d3 := hg_w2.some d3)
          have z0 : w.heap.size < w2.heap.size := lt_of_cell q2
          have z1 : w.heap.size + 1 < w2.heap.size := lt_of_cell r0
          have z2 : b2 < w2.heap.size := lt_of_cell cb
          have z3 : b3 < w2.heap.size := lt_of_cell d0
          unfold nodeV
          go_wp2_with fail
          go_roundw
          case rel => exact ⟨rfl, rfl, (by repeat (first | with_reducible exact Ext.refl _ _ | with_reducible refine Ext.trans ?_ (by assumption) | with_reducible refine Ext.drew ?_ | with_reducible refine Ext.drewN ?_ _ | with_reducible refine Ext.alloc ?_ _ | with_reducible refine Ext.setNew ?_ (by simp; done) _ | with_reducible refine Ext.setNew ?_ (by simp; omega) _)), HB1.out.grow (by repeat (first | with_reducible exact Ext.refl _ _ | with_reducible refine Ext.trans ?_ (by assumption) | with_reducible refine Ext.drew ?_ | with_reducible refine Ext.drewN ?_ _ | with_reducible refine Ext.alloc ?_ _ | with_reducible refine Ext.setNew ?_ (by simp; done) _ | with_reducible refine Ext.setNew ?_ (by simp; omega) _)), HB2.out.grow (by repeat (first | with_reducible exact Ext.refl _ _ | with_reducible refine Ext.trans ?_ (by assumption) | with_reducible refine Ext.drew ?_ | with_reducible refine Ext.drewN ?_ _ | with_reducible refine Ext.alloc ?_ _ | with_reducible refine Ext.setNew ?_ (by simp; done) _ | with_reducible refine Ext.setNew ?_ (by simp; omega) _)), k + 1, by omega, by go_num, by rw [Hs.out, Hst.out]⟩
          case measure => simp [intOf]; omega
        · rw [hb] at cb hst
          have Hst : Hid (misL (x.names.drop k) (x.needs.drop k) (x.kids.drop k) n = some [x.names[k]]) := Lib.hid (by rw [hst]; rfl)
          clear hst hm hb hkc hkr hc1 hc2 hsz
          go_wp2_with fail
          refine (nameIn_ok n x.names[k] _ _ HA.out HL (by omega) (Hu.out.grow hg0)).mono ?_
          rintro e w2 ⟨v', rfl, hg_w2, hr2⟩
          obtain ⟨na5, nc5, ka5, kc5, rfl, hc5⟩ := hr2
          clear hc5
          simp only [Hm.out]
          (replace q2 := hg_w2.some q2; replace q3 := hg_w2.some q3; replace r0 := hg_w2.some r0; replace r1 := hg_w2.some r1; replace r2 := hg_w2.some r2; replace r3 := hg_w2.some r3; replace r4 := hg_w2.some r4; replace cn := hg_w2.some cn; replace cb := hg_w2.some cb; replace d0 := hg_w2.some d0; replace d1 := hg_w2.some d1; replace d2 := hg_w2.some d2; replace d3 := hg_w2.some d3)
          have z0 : w.heap.size < w2.heap.size := lt_of_cell q2
          have z1 : w.heap.size + 1 < w2.heap.size := lt_of_cell r0
          have z2 : b2 < w2.heap.size := lt_of_cell cb
          have z3 : b3 < w2.heap.size := lt_of_cell d0
          unfold nodeV
          go_wp2_with fail
          go_ret2
          refine ⟨_, rfl, (by repeat (first | with_reducible exact Ext.refl _ _ | with_reducible refine Ext.trans ?_ (by assumption) | with_reducible refine Ext.drew ?_ | with_reducible refine Ext.drewN ?_ _ | with_reducible refine Ext.alloc ?_ _ | with_reducible refine Ext.setNew ?_ (by simp; done) _ | with_reducible refine Ext.setNew ?_ (by simp; omega) _)), ?_⟩
          rw [Hff.out, Hs.out, Hst.out]
          exact MisR.one _ _ _ _ _ (by simp) (by have := hg0.size; have := hg_w2.size; simp; omega) Hsz.out
      · rw [hm] at hst
        have Hm := Lib.hid hm
        have HG : Hid (Good (kidOf n x.names[k])) := Lib.hid (Hg.out.kidOf _)
        clear hm hkc hkr hc1 hc2 hsz
        go_wp2_with fail
        refine (nameIn_ok n x.names[k] _ _ HA.out HL (by omega) (Hu.out.grow hg0)).mono ?_
        rintro e w2 ⟨v', rfl, hg_w2, hr2⟩
        have Hr2 := Lib.hid hr2
        obtain ⟨na5, nc5, ka5, kc5, rfl, hc5⟩ := hr2
        clear hc5
        simp only [Hm.out]
        (replace q2 := hg_w2.some q2; replace q3 := hg_w2.some q3; replace r0 := hg_w2.some r0; replace r1 := hg_w2.some r1; replace r2 := hg_w2.some r2; replace r3 := hg_w2.some r3; replace r4 := hg_w2.some r4; replace cn := hg_w2.some cn; replace cb := hg_w2.some cb; replace d0 := hg_w2.some d0; replace d1 := hg_w2.some d1; replace d2 := hg_w2.some d2; replace d3 := hg_w2.some d3)
        have z0 : w.heap.size < w2.heap.size := lt_of_cell q2
        have z1 : w.heap.size + 1 < w2.heap.size := lt_of_cell r0
        have z2 : b2 < w2.heap.size := lt_of_cell cb
        have z3 : b3 < w2.heap.size := lt_of_cell d0
        generalize hmm : kidOf n x.names[k] = m at *
        have Hmm := Lib.hid hmm
        clear hmm
        have hgk : GoodS x.kids[k] := Hx.out.kid (List.getElem_mem hlk)
        have Hgk := Lib.hid hgk
        cases hmis : mis x.kids[k] m with
        | none =>
          rw [hmis] at hst
          have Hst : Hid (misL (x.names.drop k) (x.needs.drop k) (x.kids.drop k) n = misL (x.names.drop (k + 1)) (x.needs.drop (k + 1)) (x.kids.drop (k + 1)) n) := Lib.hid (by rw [hst]; rfl)
          have Hmis := Lib.hid hmis
          clear hst hmis hgk
          unfold nodeV
          go_wp2_with fail
          obtain ⟨w3, hw3, hg_w3, B3⟩ : ∃ w3, w2.alloc (.cells #[.int .i64 m.kind, .int .i64 m.num, .string m.text, .slice na5 m.names.length nc5, .slice ka5 m.kids.length kc5] 30) = w3 ∧ Grow w2 w3 ∧ BoxN w3 w2.heap.size (nodeL m na5 nc5 ka5 kc5) := ⟨_, rfl, (Ext.refl nil w2).alloc _, BoxN.new w2 (nodeL m na5 nc5 ka5 kc5) _⟩
          rw [hw3]
          clear hw3
          (replace q3 := hg_w3.some q3; replace d0 := hg_w3.some d0; replace d1 := hg_w3.some d1; replace d2 := hg_w3.some d2; replace d3 := hg_w3.some d3)
          have p0 := B3.cell 0 _ rfl
          have p1 := B3.cell 1 _ rfl
          have p2 := B3.cell 2 _ rfl
          have p3 := B3.cell 3 _ rfl
          have p4 := B3.cell 4 _ rfl
          clear B3 q2 r0 r1 r2 r3 r4 cn cb
          refine wp_region_stab Grow (fun i => if i = 6 then some (fun v w' => MisR w3 w' (mis x.kids[k] m) v) else none) (by kernel_rfl) (by kernel_rfl) ⟨Ext.refl nil, fun _ _ h1 h2 => h2.trans h1, ?_⟩ ?_
          · intro i V hV v w1 w2 hr hv
            by_cases h2 : i = 6
            · simp only [h2, if_true, Option.some.injEq] at hV; subst hV; exact hv.grow hr
            · simp [h2] at hV
          (refine wpStab_quiet (by kernel_rfl) (by kernel_rfl) (by simp) ?_; intro K hK; go_big_quiet_op; go_big_quiet_on)
          (refine wpStab_quiet (by kernel_rfl) (by kernel_rfl) (by simp) ?_; intro K hK; go_big_quiet_op; go_big_quiet_on)
          (refine wpStab_quiet (by kernel_rfl) (by kernel_rfl) (by simp) ?_; intro K hK; go_big_quiet_op; go_big_quiet_on)
          (refine wpStab_quiet (by kernel_rfl) (by kernel_rfl) (by simp) ?_; intro K hK; go_big_quiet_op; go_big_quiet_on)
          (refine wpStab_quiet (by kernel_rfl) (by kernel_rfl) (by simp) ?_; intro K hK; go_big_quiet_op; go_big_quiet_on)
          (refine wpStab_quiet (by kernel_rfl) (by kernel_rfl) (by simp) ?_; intro K hK; go_big_quiet_op; go_big_quiet_on)
          refine wpStab_made' (fun v w' => MisR w3 w' (mis x.kids[k] m) v) ?_ ?_ ?_ ?_
          · go_simp
          · simp
          · intro y _
            refine stabAt_call (f := 60) (args := #[shapeV x.kids[k] na' nc' ba' bc' ka' kc', nodeV m na5 nc5 ka5 kc5]) ?_ ?_
            · unfold shapeV nodeV; go_simp
            · refine (Ih.out _ (List.getElem_mem hlk) m _ _ _ Hgk.out HG.out (Hkc.out.grow ((hg_w2.trans hg_w3).trans (later_grow _ _))) (Hr2.out.grow (hg_w3.trans (later_grow _ _)))).mono ?_
              rintro e w' ⟨r, rfl, hg, hr⟩
              exact ⟨r, rfl, hg, hr.base (later_grow _ _).size⟩
          rintro v ⟨y, a, c, fp, rfl, _, _, _⟩
          simp only [Hmis.out]
          go_frame
          (refine wpStab_quiet (by kernel_rfl) (by kernel_rfl) (by simp) ?_; intro K hK; go_big_quiet_op; go_big_quiet_on)
          (refine wpStab_quiet (by kernel_rfl) (by kernel_rfl) (by simp) ?_; intro K hK; go_big_quiet_op; go_big_quiet_on)
          (refine wpStab_quiet (by kernel_rfl) (by kernel_rfl) (by simp) ?_; intro K hK; go_big_quiet_op; go_big_quiet_on)
          (refine wpStab_quiet (by kernel_rfl) (by kernel_rfl) (by simp) ?_; intro K hK; go_big_quiet_op; go_big_quiet_on)
          (refine wpStab_quiet (by kernel_rfl) (by kernel_rfl) (by simp) ?_; intro K hK; go_big_quiet_op; go_big_quiet_on)
          refine wpStab_end' ?_
          intro w4 hg_w4 hE
          clear hE
          have hgA : Grow w w4 := ((hg0.trans hg_w2).trans hg_w3).trans hg_w4
          go_wp2_with fail
          go_roundw
          case rel => exact ⟨rfl, rfl, hgA, HB1.out.grow ((hg_w2.trans hg_w3).trans hg_w4), HB2.out.grow ((hg_w2.trans hg_w3).trans hg_w4), k + 1, by omega, by go_num, by rw [Hs.out, Hst.out]⟩
          case measure => simp [intOf]; omega
        | some p =>
          rw [hmis] at hst
          have hp5 := hgk.len hmis
          have Hst : Hid (misL (x.names.drop k) (x.needs.drop k) (x.kids.drop k) n = some (x.names[k] :: p)) := Lib.hid (by rw [hst]; rfl)
          have Hmis := Lib.hid hmis
          clear hst hmis hgk
          unfold nodeV
          go_wp2_with fail
          obtain ⟨w3, hw3, hg_w3, B3⟩ : ∃ w3, w2.alloc (.cells #[.int .i64 m.kind, .int .i64 m.num, .string m.text, .slice na5 m.names.length nc5, .slice ka5 m.kids.length kc5] 30) = w3 ∧ Grow w2 w3 ∧ BoxN w3 w2.heap.size (nodeL m na5 nc5 ka5 kc5) := ⟨_, rfl, (Ext.refl nil w2).alloc _, BoxN.new w2 (nodeL m na5 nc5 ka5 kc5) _⟩
          rw [hw3]
          clear hw3
          (replace q3 := hg_w3.some q3; replace d0 := hg_w3.some d0; replace d1 := hg_w3.some d1; replace d2 := hg_w3.some d2; replace d3 := hg_w3.some d3)
          have p0 := B3.cell 0 _ rfl
          have p1 := B3.cell 1 _ rfl
          have p2 := B3.cell 2 _ rfl
          have p3 := B3.cell 3 _ rfl
          have p4 := B3.cell 4 _ rfl
          clear B3 q2 r0 r1 r2 r3 r4 cn cb
          refine wp_region_stab Grow (fun i => if i = 6 then some (fun v w' => MisR w3 w' (mis x.kids[k] m) v) else none) (by kernel_rfl) (by kernel_rfl) ⟨Ext.refl nil, fun _ _ h1 h2 => h2.trans h1, ?_⟩ ?_
          · intro i V hV v w1 w2 hr hv
            by_cases h2 : i = 6
            · simp only [h2, if_true, Option.some.injEq] at hV; subst hV; exact hv.grow hr
            · simp [h2] at hV
          (refine wpStab_quiet (by kernel_rfl) (by kernel_rfl) (by simp) ?_; intro K hK; go_big_quiet_op; go_big_quiet_on)
          (refine wpStab_quiet (by kernel_rfl) (by kernel_rfl) (by simp) ?_; intro K hK; go_big_quiet_op; go_big_quiet_on)
          (refine wpStab_quiet (by kernel_rfl) (by kernel_rfl) (by simp) ?_; intro K hK; go_big_quiet_op; go_big_quiet_on)
          (refine wpStab_quiet (by kernel_rfl) (by kernel_rfl) (by simp) ?_; intro K hK; go_big_quiet_op; go_big_quiet_on)
          (refine wpStab_quiet (by kernel_rfl) (by kernel_rfl) (by simp) ?_; intro K hK; go_big_quiet_op; go_big_quiet_on)
          (refine wpStab_quiet (by kernel_rfl) (by kernel_rfl) (by simp) ?_; intro K hK; go_big_quiet_op; go_big_quiet_on)
          refine wpStab_made' (fun v w' => MisR w3 w' (mis x.kids[k] m) v) ?_ ?_ ?_ ?_
          · go_simp
          · simp
          · intro y _
            refine stabAt_call (f := 60) (args := #[shapeV x.kids[k] na' nc' ba' bc' ka' kc', nodeV m na5 nc5 ka5 kc5]) ?_ ?_
            · unfold shapeV nodeV; go_simp
            · refine (Ih.out _ (List.getElem_mem hlk) m _ _ _ Hgk.out HG.out (Hkc.out.grow ((hg_w2.trans hg_w3).trans (later_grow _ _))) (Hr2.out.grow (hg_w3.trans (later_grow _ _)))).mono ?_
              rintro e w' ⟨r, rfl, hg, hr⟩
              exact ⟨r, rfl, hg, hr.base (later_grow _ _).size⟩
          rintro v ⟨y, a, c, fp, rfl, _, _, _⟩
          simp only [Hmis.out]
          go_frame
          (refine wpStab_quiet (by kernel_rfl) (by kernel_rfl) (by simp) ?_; intro K hK; go_big_quiet_op; go_big_quiet_on)
          (refine wpStab_quiet (by kernel_rfl) (by kernel_rfl) (by simp) ?_; intro K hK; go_big_quiet_op; go_big_quiet_on)
          (refine wpStab_quiet (by kernel_rfl) (by kernel_rfl) (by simp) ?_; intro K hK; go_big_quiet_op; go_big_quiet_on)
          (refine wpStab_quiet (by kernel_rfl) (by kernel_rfl) (by simp) ?_; intro K hK; go_big_quiet_op; go_big_quiet_on)
          (refine wpStab_quiet (by kernel_rfl) (by kernel_rfl) (by simp) ?_; intro K hK; go_big_quiet_op; go_big_quiet_on)
          refine wpStab_end' ?_
          intro w4 hg_w4 hE
          obtain ⟨a', c', fp, hv, h1, h2, h3⟩ := (hE 6).2 rfl
          clear hE
          simp only [Option.getD_some, Value.tuple.injEq] at hv
          obtain ⟨rfl, rfl⟩ : a = a' ∧ c = c' := by
            have := congrArg (fun l : Array Value => l[0]?) hv
            simpa using this
          have hgA : Grow w w4 := ((hg0.trans hg_w2).trans hg_w3).trans hg_w4
          clear hv
          simp only [Option.getD_some] at h1 h2 h3 ⊢
          have H1 := Lib.hid h1
          have H2 := Lib.hid h2
          clear h2
          obtain ⟨i0, hi, hz0, hz1, hz2⟩ := info_parts info_string
          by_cases hp : p = []
          · obtain ⟨rfl, rfl⟩ := h3 hp
            subst hp
            go_wp2_with (at_builtin; refine wpList_append_own_none rfl _ _ 23 rfl w.heap.size 9 i0 1 Try.underlying23 hi (.slice (some ⟨w4.heap.size, 0, Option.none⟩) 1 1) 1 [.string x.names[k]] rfl (row_new w4 w.heap.size _ [.string x.names[k]] _ rfl hgA.size (by simp)) rfl ?_)
            go_ret2
            refine ⟨_, rfl, hgA.alloc _, ?_⟩
            rw [Hff.out, Hs.out, Hst.out]
            exact MisR.row (x := x.names[k]) (p := []) (row_new w4 w.heap.size _ [.string x.names[k]] _ rfl hgA.size (by simp)) (by simpa using Hsz.out)
          · obtain ⟨hle, hlen, hbig, hcc⟩ := h1
            rcases hcc with ⟨hcc, _⟩ | ⟨pb, po, _, rfl, rfl, hcc⟩
            · exact absurd hcc hp
            clear h3 hp
            have hcc' : ∀ j u, (p.map Value.string)[j]? = some u → (w4.alloc (.cells #[.string x.names[k]] 9)).cell? ((⟨pb, po, Option.none⟩ : Addr).add j) = some u := by
              intro j u hu
              rw [List.getElem?_map] at hu
              rcases Nat.lt_or_ge j p.length with hj | hj
              · rw [List.getElem?_eq_getElem hj] at hu
                simp at hu
                subst hu
                rw [addr_add]
                exact Grow.some ((Ext.refl nil w4).alloc _) (hcc j hj)
              · rw [List.getElem?_eq_none hj] at hu; simp at hu
            have HC := Lib.hid hcc'
            clear hcc hcc'
            go_wp2_with (at_builtin; (refine wpList_append_own _ rfl _ _ 23 rfl w.heap.size 9 i0 (.string ⟨#[]⟩) 1 16 Try.underlying23 hi hz0 hz1 hz2 rfl (by decide) (.slice (some ⟨w4.heap.size, 0, Option.none⟩) 1 1) 1 [.string x.names[k]] rfl (row_new w4 w.heap.size _ [.string x.names[k]] _ rfl hgA.size (by simp)) ⟨pb, po, Option.none⟩ p.length c (p.map Value.string) rfl ?c1 HC.out ?c2 ?c3 ?c4 ?c5 ?_))
            case c1 => simp
            case c2 => simp [Value.oneCell']
            case c3 => unfold maxLen; omega
            case c4 => omega
            case c5 => have := hgA.size; simp; omega
            intro v' w5 hown5 hgrow5 _
            have hgF : Grow w w5 := grown_ext (hgA.alloc _) hgrow5 (by intro k hk; simp [Value.ownBlock] at hk; subst hk; exact hgA.size)
            go_wp2_with fail
            go_ret2
            refine ⟨_, rfl, hgF, ?_⟩
            rw [Hff.out, Hs.out, Hst.out]
            exact MisR.row (x := x.names[k]) (p := p) (by simpa using hown5) (by intro y hy; rcases List.mem_cons.1 hy with rfl | hy; exact Hsz.out; exact hbig y hy)
    · go_wp2_with fail
      go_ret2
      exact ⟨_, rfl, hg0, by rw [Hff.out, Hs.out, misL_end n hlt]; exact MisR.none _ _⟩
theorem misfit_ok : ∀ x, MisOk x := Shp.ind' MisOk misfit_of
end Go.Proofs.Ytgfnmhfdmmnaoaa
namespace Go.Proofs.Ytgfnmhfdmmnaoaa
open Go.RowKit
theorem GoodS.head' {x : Shp} {d : Nat} (h : shpB x d = true) : shpHead x = true := by
  rw [shpB_eq] at h
  simp only [Bool.and_eq_true] at h
  exact h.1.2
theorem misL_fit (n : Nd) : ∀ (ks : List Shp), (∀ k ∈ ks, ∀ m, (mis k m).isSome = !fitB k m) → ∀ (ns : List ByteArray) (bs : List Bool), (misL ns bs ks n).isSome = !fitL ns bs ks n
  | [], _, ns, bs => by cases ns <;> cases bs <;> simp [misL, fitL]
  | k :: ks, hk, [], bs => by simp [misL, fitL]
  | k :: ks, hk, nm :: ns, [] => by simp [misL, fitL]
  | k :: ks, hk, nm :: ns, nd :: bs => by
    have ih := misL_fit n ks (fun k' hk' => hk k' (by simp [hk'])) ns bs
    have h0 := hk k (by simp) (kidOf n nm)
    rw [misL, fitL]
    cases hm : mem n.names nm
    · cases nd
      · simpa using ih
      · simp
    · cases hx : mis k (kidOf n nm) with
      | none => rw [hx] at h0; simp at h0; simpa [h0] using ih
      | some p => rw [hx] at h0; simp at h0; simp [h0]
theorem mis_fit : ∀ (d : Nat) (x : Shp) (n : Nd), shpB x d = true → (mis x n).isSome = !fitB x n
  | 0, x, n, h => by rw [shpB_eq] at h; simp at h
  | d + 1, x, n, h => by
    have hh : shpHead x = true := GoodS.head' h
    rw [shpB_eq, shpL_all] at h
    simp only [Bool.and_eq_true, List.all_eq_true, Nat.add_sub_cancel] at h
    obtain ⟨p1, p2, p3, p4, p5, p6⟩ := shpHead_parts hh
    have hl := misL_fit n x.kids (fun k hk m => mis_fit d k m (h.2 k hk)) x.names x.needs
    rw [mis_eq, fitB_eq]
    by_cases h0 : x.kind = 0
    · have : x.names = [] := by
        rcases p6 with p6 | p6
        · exact List.length_eq_zero_iff.1 p6
        · omega
      rw [this]
      simp [h0, fitL]
    · rw [if_neg h0]
      by_cases h1 : x.kind ≠ n.kind
      · rw [if_pos h1]
        have : ¬ n.kind = x.kind := fun h => h1 h.symm
        simp [h0, this]
      · rw [if_neg h1]
        have : n.kind = x.kind := by omega
        simp [h0, this, hl]
theorem GoodS.mis {x : Shp} (h : GoodS x) (n : Nd) : (Go.Proofs.Ytgfnmhfdmmnaoaa.mis x n).isSome = !fitB x n := by
  obtain ⟨d, _, h⟩ := h
  exact mis_fit d x n h
theorem implValidShape_ok (x : Shp) (v : Value) (w : World) (hn : ShapeR w any x v) :
    Calls Try.prog 16 #[v] w fun e w' => e = .returned (.bool (shpB x 5)) ∧ Grow w w' := by
  have Hn := Lib.hid hn
  obtain ⟨na, nc, ba, bc, ka, kc, rfl, hc⟩ := hn
  clear hc
  unfold shapeV at *
  go_enter Try.func16, Try.ntmps16
  go_wp2_with fail
  refine (isShape_ok x 5 _ _ (by omega) (Hn.out.grow (by repeat (first | with_reducible exact Ext.refl _ _ | with_reducible refine Ext.trans ?_ (by assumption) | with_reducible refine Ext.drew ?_ | with_reducible refine Ext.drewN ?_ _ | with_reducible refine Ext.alloc ?_ _ | with_reducible refine Ext.setNew ?_ (by simp; done) _ | with_reducible refine Ext.setNew ?_ (by simp; omega) _)))).mono ?_
  rintro e w2 ⟨rfl, hg2⟩
  go_wp2_with fail
  go_ret
  exact ⟨by simp, (by repeat (first | with_reducible exact Ext.refl _ _ | with_reducible refine Ext.trans ?_ (by assumption) | with_reducible refine Ext.drew ?_ | with_reducible refine Ext.drewN ?_ _ | with_reducible refine Ext.alloc ?_ _ | with_reducible refine Ext.setNew ?_ (by simp; done) _ | with_reducible refine Ext.setNew ?_ (by simp; omega) _))⟩
end Go.Proofs.Ytgfnmhfdmmnaoaa
-- EV: rows skip
namespace Go.Proofs.Ytgfnmhfdmmnaoaa.Eng
open Go Go.RowKit
attribute [local simp] big size_mk ASt.pay Option.map_map Function.comp_def awant aop acall ado aev ofVal ofVal0 ASt.put ASt.add ASt.turn ASt.kill abox aalloc astore aload aloadD astoreD idOf ASt.at cellsTo afieldAddr afield aindexAddr aindex alen abin aint acmp astr aun apick aextract anil aslice abound abuild afill abuildSlice asCells aps avCells over upd aappend asrc amax amin aconv mkSt slots rowsOf_cons rowsOf_nil usedOf_cons usedOf_nil ZK.av List.replicate ASt.back ASt.addL ASt.killL nodeA nodeT nodeTL_eq nodeL_eq strsE_get strsE_len intsE_get intsE_len strsE_at intsE_at nodeN namesRow nodeO kidsRow tab2 tab3 tab4 tab5 tab6 tab7 tab8 tab9 tab10 tab11 tab12 tab13 tab14 tab15 tab16 tab17 tab18 tab19 tab21 tab22 tab23 tab24 tab25 tab26 tab27 tab28 tab29 tab30 tab39 tab40 tab41 tab42 tab43 tab47 tab48 tab55 tab56 tab57 tab60 tab61 tab62 tab73 tab74 tab75 tab85 tab92 tab115 tab116 tab143 tab144 tab145 tab154 tab155 tab170 tab175 tab182 tab197 tab198 tab203 tab204 tab205 tab207 tab208 tab209
def boolsE (xs : List Bool) : List (List AV) := xs.map fun b => [.bool b]
mutual
def shE : Go.Proofs.Ytgfnmhfdmmnaoaa.Shp → List AV
  | ⟨kind, names, needs, kids⟩ => [.int .i64 kind, .view .loose 1 (strsE names), .view .loose 1 (boolsE needs), .view .loose 4 (shsE kids)]
def shsE : List Go.Proofs.Ytgfnmhfdmmnaoaa.Shp → List (List AV)
  | [] => []
  | k :: ks => shE k :: shsE ks
end
def shA (x : Go.Proofs.Ytgfnmhfdmmnaoaa.Shp) : AV := .agg (shE x)
theorem shsE_map : ∀ (ks : List Go.Proofs.Ytgfnmhfdmmnaoaa.Shp), shsE ks = ks.map shE
  | [] => by unfold shsE; rfl
  | k :: ks => by unfold shsE; rw [shsE_map ks]; rfl
theorem shE_eq (n : Go.Proofs.Ytgfnmhfdmmnaoaa.Shp) : shE n = [.int .i64 n.kind, .view .loose 1 (strsE n.names), .view .loose 1 (boolsE n.needs), .view .loose 4 (n.kids.map shE)] := by
  cases n; unfold shE; rw [shsE_map]
theorem shE_len (n : Go.Proofs.Ytgfnmhfdmmnaoaa.Shp) : (shE n).length = 4 := by rw [shE_eq]; rfl
theorem boolsE_len (xs : List Bool) : (boolsE xs).length = xs.length := by unfold boolsE; rw [List.length_map]
theorem boolsE_get (xs : List Bool) (i : Nat) : (boolsE xs)[i]? = (xs[i]?).map fun s => [.bool s] := by unfold boolsE; rw [List.getElem?_map]
theorem boolsE_pur (xs : List Bool) : ∀ e ∈ boolsE xs, ∀ c ∈ e, Pur c := by
  intro e he c hc
  unfold boolsE at he
  rw [List.mem_map] at he
  obtain ⟨s, _, rfl⟩ := he
  simp at hc; subst hc; exact pur_bool
theorem boolsE_in {U : Nat → Bool} (xs : List Bool) : ∀ e ∈ boolsE xs, ∀ c ∈ e, AV.In U c := by
  intro e he c hc
  unfold boolsE at he
  rw [List.mem_map] at he
  obtain ⟨s, _, rfl⟩ := he
  simp at hc; subst hc; exact in_bool
theorem shE_pur : ∀ (n : Go.Proofs.Ytgfnmhfdmmnaoaa.Shp), ∀ c ∈ shE n, Pur c := Shp.ind' _ (fun n ih c hc => by
  rw [shE_eq] at hc
  simp only [List.mem_cons, List.not_mem_nil, or_false] at hc
  rcases hc with rfl | rfl | rfl | rfl
  · exact pur_int
  · exact pur_view (by decide) (strsE_pur _)
  · exact pur_view (by decide) (boolsE_pur _)
  · refine pur_view (by decide) (fun e he c hc => ?_)
    rw [List.mem_map] at he
    obtain ⟨k, hk, rfl⟩ := he
    exact ih k hk c hc)
theorem sh_pur (n : Go.Proofs.Ytgfnmhfdmmnaoaa.Shp) : Pur (shA n) := pur_agg (shE_pur n)
theorem sh_clo (n : Go.Proofs.Ytgfnmhfdmmnaoaa.Shp) : Clo (shA n) := (sh_pur n).clo
theorem shE_in {U : Nat → Bool} : ∀ (n : Go.Proofs.Ytgfnmhfdmmnaoaa.Shp), ∀ c ∈ shE n, AV.In U c := Shp.ind' _ (fun n ih c hc => by
  rw [shE_eq] at hc
  simp only [List.mem_cons, List.not_mem_nil, or_false] at hc
  rcases hc with rfl | rfl | rfl | rfl
  · exact in_int
  · exact in_view.2 (strsE_in _)
  · exact in_view.2 (boolsE_in _)
  · refine in_view.2 (fun e he c hc => ?_)
    rw [List.mem_map] at he
    obtain ⟨k, hk, rfl⟩ := he
    exact ih k hk c hc)
theorem sh_in {U : Nat → Bool} (n : Go.Proofs.Ytgfnmhfdmmnaoaa.Shp) : AV.In U (shA n) := in_agg.2 (shE_in n)
theorem shsE_in {U : Nat → Bool} (ks : List Go.Proofs.Ytgfnmhfdmmnaoaa.Shp) : ∀ e ∈ ks.map shE, ∀ c ∈ e, AV.In U c := fun e he c hc => by
  rw [List.mem_map] at he
  obtain ⟨k, hk, rfl⟩ := he
  exact shE_in k c hc
section
variable {w : World} {ρ : Cx}
theorem bools_of_rep {t : VC} {xs : List Bool} {v : Value} (h : Rep w ρ (.view t 1 (boolsE xs)) v) : ∃ a c, v = .slice a xs.length c ∧ BoolsR w any a c xs := by
  obtain ⟨a, c, rfl, _, h3, h4, h5, h6⟩ := rep_view.1 h
  rw [boolsE_len] at *
  refine ⟨a, c, rfl, h3, h4, ?_⟩
  rcases h6 with h6 | ⟨b, o, ha, _, he⟩
  · unfold boolsE at h6
    exact .inl (List.map_eq_nil_iff.1 h6)
  · refine .inr ⟨b, o, ha, trivial, fun i hi => ?_⟩
    obtain ⟨u, q1, _, q3⟩ := (he.get h5 (i := i) (e := [.bool xs[i]]) (by rw [boolsE_get, List.getElem?_eq_getElem hi]; rfl)).get (i := 0) rfl
    rw [rep_bool.1 q3] at q1
    simpa using q1
theorem shps_of_rep {t : VC} {ks : List Go.Proofs.Ytgfnmhfdmmnaoaa.Shp} (ih : ∀ k ∈ ks, ∀ (ρ : Cx) na nc ba bc ka kc, Rep w ρ (.view .loose 1 (strsE k.names)) (.slice na k.names.length nc) → Rep w ρ (.view .loose 1 (boolsE k.needs)) (.slice ba k.needs.length bc) → Rep w ρ (.view .loose 4 (k.kids.map shE)) (.slice ka k.kids.length kc) → ShapeC w any k na nc ba bc ka kc)
    {a : Option Addr} {c : Nat} (h : Rep w ρ (.view t 4 (ks.map shE)) (.slice a ks.length c)) : ks.length ≤ c ∧ ks.length ≤ big ∧ (ks = [] ∨ ∃ b o, a = some ⟨b, o, none⟩ ∧ any b ∧ ShpsR w any b o ks) := by
  obtain ⟨a', c', h1, h2, h3, h4, h5, h6⟩ := rep_view.1 h
  clear h2
  simp only [List.length_map] at *
  cases h1
  refine ⟨h3, h4, ?_⟩
  rcases h6 with h6 | ⟨b, o, ha, _, he⟩
  · exact .inl (List.map_eq_nil_iff.1 h6)
  · refine .inr ⟨b, o, ha, trivial, ?_⟩
    clear h h3 h4 h5 ha
    induction ks generalizing o with
    | nil => unfold ShpsR; trivial
    | cons k ks ih2 =>
      unfold ShpsR
      rw [List.map_cons] at he
      unfold RepE at he
      obtain ⟨e1, e2⟩ := he
      rw [shE_len] at e2
      refine ⟨?_, ih2 (fun k hk => ih k (by simp [hk])) _ e2⟩
      rw [shE_eq] at e1
      obtain ⟨v0, p0, _, q0⟩ := e1.get (i := 0) rfl
      obtain ⟨v1, p1, _, q1⟩ := e1.get (i := 1) rfl
      obtain ⟨v2, p2, _, q2⟩ := e1.get (i := 2) rfl
      obtain ⟨v3, p3, _, q3⟩ := e1.get (i := 3) rfl
      rw [rep_int] at q0
      obtain ⟨na, nc, r1, _⟩ := rep_view.1 q1
      obtain ⟨ba, bc, r2, _⟩ := rep_view.1 q2
      obtain ⟨ka, kc, r3, _⟩ := rep_view.1 q3
      rw [strsE_len] at r1
      rw [boolsE_len] at r2
      rw [List.length_map] at r3
      subst q0 r1 r2 r3
      exact ⟨na, nc, ba, bc, ka, kc, p0, p1, p2, p3, ih k (by simp) ρ _ _ _ _ _ _ q1 q2 q3⟩
theorem shapeC_of_rep : ∀ (n : Go.Proofs.Ytgfnmhfdmmnaoaa.Shp) (ρ : Cx) na nc ba bc ka kc, Rep w ρ (.view .loose 1 (strsE n.names)) (.slice na n.names.length nc) → Rep w ρ (.view .loose 1 (boolsE n.needs)) (.slice ba n.needs.length bc) → Rep w ρ (.view .loose 4 (n.kids.map shE)) (.slice ka n.kids.length kc) → ShapeC w any n na nc ba bc ka kc :=
  Shp.ind' _ (fun n ih ρ na nc ba bc ka kc h1 h2 h3 => by
    obtain ⟨a, c, h1', h1''⟩ := strs_of_rep h1
    cases h1'
    obtain ⟨a, c, h2', h2''⟩ := bools_of_rep h2
    cases h2'
    have := shps_of_rep (w := w) (ρ := ρ) ih h3
    cases n
    unfold ShapeC
    exact ⟨h1'', h2'', this.1, this.2⟩)
theorem shape_of_rep {n : Go.Proofs.Ytgfnmhfdmmnaoaa.Shp} {v : Value} (h : Rep w ρ (shA n) v) : ShapeR w any n v := by
  unfold shA at h
  rw [shE_eq] at h
  obtain ⟨vs, rfl, _, h2⟩ := rep_agg.1 h
  obtain ⟨v0, p0, q0⟩ := h2.get (i := 0) rfl
  obtain ⟨v1, p1, q1⟩ := h2.get (i := 1) rfl
  obtain ⟨v2, p2, q2⟩ := h2.get (i := 2) rfl
  obtain ⟨v3, p3, q3⟩ := h2.get (i := 3) rfl
  rw [rep_int] at q0
  obtain ⟨na, nc, r1, _⟩ := rep_view.1 q1
  obtain ⟨ba, bc, r2, _⟩ := rep_view.1 q2
  obtain ⟨ka, kc, r3, _⟩ := rep_view.1 q3
  rw [strsE_len] at r1
  rw [boolsE_len] at r2
  rw [List.length_map] at r3
  subst q0 r1 r2 r3
  have hl := h2.length
  simp only [List.length_cons, List.length_nil] at hl
  refine ⟨na, nc, ba, bc, ka, kc, ?_, shapeC_of_rep n ρ _ _ _ _ _ _ q1 q2 q3⟩
  unfold shapeV
  congr 1
  apply Array.ext'
  apply List.ext_getElem?
  intro i
  rcases i with _ | _ | _ | _ | i
  · exact p0
  · exact p1
  · exact p2
  · exact p3
  · rw [List.getElem?_eq_none (by simp; omega), List.getElem?_eq_none (by simp)]
end
theorem ValidShape_AC (x : Go.Proofs.Ytgfnmhfdmmnaoaa.Shp) : AC Try.prog 16 [shA x] 0 (fun r => r = .bool (shpB x 5)) := by
  refine AC.ofGrow (enters_of Try.func16 (by kernel_rfl) (by kernel_rfl)) (fun w L S rb vs h => ?_)
  obtain ⟨v, rfl, h1⟩ := repL1_inv h
  refine (implValidShape_ok x v w (shape_of_rep h1)).mono ?_
  rintro e w' ⟨rfl, hg⟩
  exact ⟨_, _, rfl, hg, rep_bool.2 rfl, rfl⟩
theorem misfit_AC (x : Go.Proofs.Ytgfnmhfdmmnaoaa.Shp) (n : Nd) (hx : GoodS x) (hn : Good n) : AC Try.prog 60 [shA x, nodeA n] 0 (fun r => r = .tup [.view .loose 1 (strsE ((mis x n).getD [])), .bool (mis x n).isSome]) := by
  refine AC.ofNew (enters_of Try.func60 (by kernel_rfl) (by kernel_rfl)) (fun w L S rb vs h => ?_)
  obtain ⟨v, u, rfl, h1, h2⟩ := repL2_inv h
  refine (misfit_ok x n v u w hx hn (shape_of_rep h1) (nodeA_of_rep h2)).mono ?_
  rintro e w' ⟨r, rfl, hg, ⟨a, c, fp, rfl, hF, hfr, _⟩⟩
  exact ⟨_, _, rfl, hg, tup2_rep (strs_to_rep (hF.toR (free_fresh hfr))) (rep_bool.2 rfl), rfl⟩
def fmV (x : Go.Proofs.Ytgfnmhfdmmnaoaa.Shp) (n : Nd) : Option (List ByteArray) := if shpB x 5 && validB n then mis x n else none
theorem FirstMisfit_AC (x : Go.Proofs.Ytgfnmhfdmmnaoaa.Shp) (n : Nd) : AC Try.prog 18 [shA x, nodeA n] 0 (fun r => r = .tup [.view .loose 1 (strsE ((fmV x n).getD [])), .bool (fmV x n).isSome]) := by
  refine AC.weak ?_
  have p1 := ValidShape_AC x
  have p2 := ValidNode_AC n .loose
  have hc := sh_clo x
  have hn := node_clo n
  unfold shA nodeA at *
  rw [nodeL_eq n] at *
  rw [shE_eq x] at *
  cases h1 : shpB x 5
  · rw [h1] at p1
    have e : fmV x n = none := by unfold fmV; rw [h1]; rfl
    refine AC.of tab_ok mixed_ok Try.func18 (by rfl) (by kernel_rfl) ?_; rintro ⟨P, T, hT, hm, w0, S0, rd0, k0⟩ hP hTT; dsimp only at hP hTT; subst hP hTT; unfold initSt; rw [Try.ntmps18]
    (repeat (first | with_reducible refine AW.seq ?_ | ((first | refine arun_kn 4 rfl (fun C hC => ?_) | refine arunD_kn 4 rfl (fun C hC => ?_)); (repeat ((conv => whnf); simp)); refine hC _ ?_; clear hC C; simp only [List.drop, Nat.reduceAdd]) | ((first | refine arun_kn 1 rfl (fun C hC => ?_) | refine arunD_kn 1 rfl (fun C hC => ?_)); (repeat ((conv => whnf); simp)); refine hC _ ?_; clear hC C; simp only [List.drop, Nat.reduceAdd]) | (refine arun_skip ?_ ?_; (focus (simp [awant]; done))) | (refine arun_c0 (p1) ?_; rintro _ rfl) | (refine arunD_skip ?_ ?_; (focus (simp [awant]; done))) | (refine AW.regionK [] (fun K hK => ?_)) | (refine AW.regionDK [] (pcs [] []) (by kernel_rfl) (by kernel_rfl) (fun K hK => ?_)) | (refine AW.condT ?_ ?_; (focus (simp [aev]; done))) | (refine AW.condF ?_ ?_; (focus (simp [aev]; done))) | with_reducible refine AW.block ?_ | ((first | ((first | refine arun_nil ?_ | refine arunD_nil ?_); refine hK _ ?_; clear hK K) | refine AW.skip ?_ | refine AW.exit ?_ | refine AW.ret ?_); simp only [thenA_exit, inBlockA_exit, if_true, if_false, Nat.reduceEqDiff, thenA_normal, inBlockA_normal, reduceIte, thenA_ret, inBlockA_ret, endQ_ret, endR_ret, endG_ret, endQ_normal, endR_normal, endG_normal])))
    exact ⟨.tup [.view .tight 0 [], .bool false], by simp [ares, aresL], tup2_pur (pur_view (by decide) (fun e he => by cases he)) pur_bool, .tup [.view .loose 1 [], .bool false], Wk.tup (.cons (Wk.nil (fun h => by cases h)) (.cons (Wk.refl _) .nil)), by rw [e]; rfl⟩
  rw [h1] at p1
  cases h2 : validB n
  · rw [h2] at p2
    have e : fmV x n = none := by unfold fmV; rw [h1, h2]; rfl
    refine AC.of tab_ok mixed_ok Try.func18 (by rfl) (by kernel_rfl) ?_; rintro ⟨P, T, hT, hm, w0, S0, rd0, k0⟩ hP hTT; dsimp only at hP hTT; subst hP hTT; unfold initSt; rw [Try.ntmps18]
    (repeat (first | with_reducible refine AW.seq ?_ | ((first | refine arun_kn 4 rfl (fun C hC => ?_) | refine arunD_kn 4 rfl (fun C hC => ?_)); (repeat ((conv => whnf); simp)); refine hC _ ?_; clear hC C; simp only [List.drop, Nat.reduceAdd]) | ((first | refine arun_kn 1 rfl (fun C hC => ?_) | refine arunD_kn 1 rfl (fun C hC => ?_)); (repeat ((conv => whnf); simp)); refine hC _ ?_; clear hC C; simp only [List.drop, Nat.reduceAdd]) | (refine arun_skip ?_ ?_; (focus (simp [awant]; done))) | (refine arun_c0 (p1) ?_; rintro _ rfl) | (refine arun_c0 (p2) ?_; rintro _ rfl) | (refine arunD_skip ?_ ?_; (focus (simp [awant]; done))) | (refine AW.regionK [] (fun K hK => ?_)) | (refine AW.regionDK [] (pcs [] []) (by kernel_rfl) (by kernel_rfl) (fun K hK => ?_)) | (refine AW.condT ?_ ?_; (focus (simp [aev]; done))) | (refine AW.condF ?_ ?_; (focus (simp [aev]; done))) | with_reducible refine AW.block ?_ | ((first | ((first | refine arun_nil ?_ | refine arunD_nil ?_); refine hK _ ?_; clear hK K) | refine AW.skip ?_ | refine AW.exit ?_ | refine AW.ret ?_); simp only [thenA_exit, inBlockA_exit, if_true, if_false, Nat.reduceEqDiff, thenA_normal, inBlockA_normal, reduceIte, thenA_ret, inBlockA_ret, endQ_ret, endR_ret, endG_ret, endQ_normal, endR_normal, endG_normal])))
    exact ⟨.tup [.view .tight 0 [], .bool false], by simp [ares, aresL], tup2_pur (pur_view (by decide) (fun e he => by cases he)) pur_bool, .tup [.view .loose 1 [], .bool false], Wk.tup (.cons (Wk.nil (fun h => by cases h)) (.cons (Wk.refl _) .nil)), by rw [e]; rfl⟩
  rw [h2] at p2
  have e : fmV x n = mis x n := by unfold fmV; rw [h1, h2]; rfl
  have p3 := misfit_AC x n ⟨5, by omega, h1⟩ (validB_good h2)
  unfold shA nodeA at p3
  rw [nodeL_eq n, shE_eq x] at p3
  refine AC.of tab_ok mixed_ok Try.func18 (by rfl) (by kernel_rfl) ?_; rintro ⟨P, T, hT, hm, w0, S0, rd0, k0⟩ hP hTT; dsimp only at hP hTT; subst hP hTT; unfold initSt; rw [Try.ntmps18]
  (repeat (first | with_reducible refine AW.seq ?_ | ((first | refine arun_kn 4 rfl (fun C hC => ?_) | refine arunD_kn 4 rfl (fun C hC => ?_)); (repeat ((conv => whnf); simp)); refine hC _ ?_; clear hC C; simp only [List.drop, Nat.reduceAdd]) | ((first | refine arun_kn 1 rfl (fun C hC => ?_) | refine arunD_kn 1 rfl (fun C hC => ?_)); (repeat ((conv => whnf); simp)); refine hC _ ?_; clear hC C; simp only [List.drop, Nat.reduceAdd]) | (refine arun_skip ?_ ?_; (focus (simp [awant]; done))) | (refine arun_c0 (p1) ?_; rintro _ rfl) | (refine arun_c0 (p2) ?_; rintro _ rfl) | (refine arun_c0 (p3) ?_; rintro _ rfl) | (refine arunD_skip ?_ ?_; (focus (simp [awant]; done))) | (refine AW.regionK [] (fun K hK => ?_)) | (refine AW.regionDK [] (pcs [] []) (by kernel_rfl) (by kernel_rfl) (fun K hK => ?_)) | (refine AW.condT ?_ ?_; (focus (simp [aev]; done))) | (refine AW.condF ?_ ?_; (focus (simp [aev]; done))) | with_reducible refine AW.block ?_ | ((first | ((first | refine arun_nil ?_ | refine arunD_nil ?_); refine hK _ ?_; clear hK K) | refine AW.skip ?_ | refine AW.exit ?_ | refine AW.ret ?_); simp only [thenA_exit, inBlockA_exit, if_true, if_false, Nat.reduceEqDiff, thenA_normal, inBlockA_normal, reduceIte, thenA_ret, inBlockA_ret, endQ_ret, endR_ret, endG_ret, endQ_normal, endR_normal, endG_normal])))
  exact ⟨.tup [.view .loose 1 (strsE ((mis x n).getD [])), .bool (mis x n).isSome], by simp [ares, aresL], tup2_pur (strs_pur _ (by decide)) pur_bool, _, Wk.refl _, by rw [e]⟩
end Go.Proofs.Ytgfnmhfdmmnaoaa.Eng
-- EV: rows skip
namespace Go.Proofs.Ytgfnmhfdmmnaoaa.Eng
open Go Go.RowKit
attribute [local simp] big size_mk ASt.pay Option.map_map Function.comp_def awant aop acall ado aev ofVal ofVal0 ASt.put ASt.add ASt.turn ASt.kill abox aalloc astore aload aloadD astoreD idOf ASt.at cellsTo afieldAddr afield aindexAddr aindex alen abin aint acmp astr aun apick aextract anil aslice abound abuild afill abuildSlice asCells aps avCells over upd aappend asrc amax amin aconv mkSt slots rowsOf_cons rowsOf_nil usedOf_cons usedOf_nil ZK.av List.replicate ASt.back ASt.addL ASt.killL nodeA nodeT nodeTL_eq nodeL_eq strsE_get strsE_len intsE_get intsE_len strsE_at intsE_at nodeN namesRow nodeO kidsRow tab2 tab3 tab4 tab5 tab6 tab7 tab8 tab9 tab10 tab11 tab12 tab13 tab14 tab15 tab16 tab17 tab18 tab19 tab21 tab22 tab23 tab24 tab25 tab26 tab27 tab28 tab29 tab30 tab39 tab40 tab41 tab42 tab43 tab47 tab48 tab55 tab56 tab57 tab60 tab61 tab62 tab73 tab74 tab75 tab85 tab92 tab115 tab116 tab143 tab144 tab145 tab154 tab155 tab170 tab175 tab182 tab197 tab198 tab203 tab204 tab205 tab207 tab208 tab209
theorem specFits_AC (x : Go.Proofs.Ytgfnmhfdmmnaoaa.Shp) (n : Nd) (hx : GoodS x) (hn : Good n) : AC Try.prog 63 [shA x, nodeA n] 0 (fun r => r = .bool (fitB x n)) := by
  refine AC.ofGrow (enters_of Try.func63 (by kernel_rfl) (by kernel_rfl)) (fun w L S rb vs h => ?_)
  obtain ⟨v, u, rfl, h1, h2⟩ := repL2_inv h
  refine (fits_ok x n v u w hx hn (shape_of_rep h1) (nodeA_of_rep h2)).mono ?_
  rintro e w' ⟨rfl, hg⟩
  exact ⟨_, _, rfl, hg, rep_bool.2 rfl, rfl⟩
theorem specPlaceO_AC (n : Nd) (s : ByteArray) (hn : Good n) : AC Try.prog 135 [nodeA n, .str s] 0 (fun r => r = .int .i64 (placeOf n s)) := by
  refine AC.ofGrow (enters_of Try.func135 (by kernel_rfl) (by kernel_rfl)) (fun w L S rb vs h => ?_)
  obtain ⟨v, u, rfl, h1, h2⟩ := repL2_inv h
  obtain ⟨rfl, _⟩ := rep_str.1 h2
  refine (Go.Proofs.Ytgfnmhfdmmnaoaa.place_ok n s v w (fun h4 => by have := (hn.map h4).2; omega) (by have := hn.kids6; omega) (nodeA_of_rep h1)).mono ?_
  rintro e w' ⟨rfl, hg⟩
  exact ⟨_, _, rfl, hg, rep_int.2 rfl, rfl⟩
def misP (x : Go.Proofs.Ytgfnmhfdmmnaoaa.Shp) (n : Nd) : List ByteArray := (mis x n).getD []
theorem goodS_noN {x : Go.Proofs.Ytgfnmhfdmmnaoaa.Shp} (h : GoodS x) (hk : x.kind ≠ 4) : x.names = [] := by
  obtain ⟨_, _, _, _, _, h6⟩ := shpHead_parts h.head
  have := h6
  rcases Nat.eq_zero_or_pos x.names.length with h | h
  · exact List.length_eq_zero_iff.1 h
  · first | exact absurd (h6 h) hk | (exfalso; omega) | simp_all
theorem misP_eq {x : Go.Proofs.Ytgfnmhfdmmnaoaa.Shp} {n : Nd} (h : GoodS x) (hk : x.kind = 0 ∨ n.kind = x.kind) : misP x n = (misL x.names x.needs x.kids n).getD [] := by
  unfold misP
  rw [mis_eq]
  by_cases h0 : x.kind = 0
  · rw [if_pos h0, goodS_noN h (by omega)]; simp [misL]
  · rw [if_neg h0, if_neg (by rcases hk with hk | hk; exact absurd hk h0; simp [hk])]
theorem misP_ne {x : Go.Proofs.Ytgfnmhfdmmnaoaa.Shp} {n : Nd} (h0 : x.kind ≠ 0) (h : n.kind ≠ x.kind) : misP x n = [] := by
  unfold misP
  rw [mis_eq, if_neg h0, if_pos (fun e => h e.symm)]; rfl
theorem in_bools {U : Nat → Bool} {t : VC} (xs : List Bool) : AV.In U (.view t 1 (boolsE xs)) := in_view.2 (boolsE_in _)
theorem in_shps {U : Nat → Bool} {t : VC} (ks : List Go.Proofs.Ytgfnmhfdmmnaoaa.Shp) : AV.In U (.view t 4 (ks.map shE)) := in_view.2 (shsE_in _)
theorem boolsE_at (xs : List Bool) (i : Nat) (h : i < (boolsE xs).length) : (boolsE xs)[i] = [.bool (xs[i]'(by rw [boolsE_len] at h; exact h))] := Option.some.inj (by rw [← List.getElem?_eq_getElem h, boolsE_get, List.getElem?_eq_getElem (by rw [boolsE_len] at h; exact h)]; rfl)
def misRow (p : List ByteArray) : Row := ⟨false, 9, 1, strsE p⟩
theorem specMisfit_step (x : Go.Proofs.Ytgfnmhfdmmnaoaa.Shp) (n : Nd) (hx : GoodS x) (hn : Good n) (ih : ∀ k ∈ x.kids, ∀ m, Good m → AC Try.prog 102 [shA k, nodeA m] 0 (fun r => r = .view .loose 1 (strsE (misP k m)))) : ACR Try.prog 102 [shA x, nodeA n] 0 (fun r => r = .view .loose 1 (strsE (misP x n))) (fun f R => f = (fun id => .own id (misP x n).length) ∧ R = misRow (misP x n)) := by
  refine ACR.weak ?_
  obtain ⟨p1, p2, p3, p4, p5, p6⟩ := shpHead_parts hx.head
  have hl1 : x.names.length ≤ 6 := by
    simp only [areNamesB, Bool.and_eq_true, decide_eq_true_eq] at p3
    exact p3.1
  have hl2 : n.kids.length ≤ 6 := hn.kids6
  by_cases hk : x.kind = 0 ∨ n.kind = x.kind
  rotate_left
  · obtain ⟨h0, h1⟩ : x.kind ≠ 0 ∧ n.kind ≠ x.kind := ⟨fun h => hk (.inl h), fun h => hk (.inr h)⟩
    have hmp := misP_ne h0 h1
    have e0 : (x.kind != 0) = true := by simpa using h0
    have e1 : (n.kind != x.kind) = true := by simpa using h1
    unfold shA nodeA
    rw [nodeL_eq, shE_eq]
    refine ACR.of tab_ok mixed_ok Try.func102 (by rfl) (by kernel_rfl) ?_; rintro ⟨P, T, hT, hm, w0, S0, rd0, k0⟩ hP hTT; dsimp only at hP hTT; subst hP hTT; unfold initSt; rw [Try.ntmps102]
    (repeat (first | with_reducible refine AW.seq ?_ | ((first | refine arun_kn 4 rfl (fun C hC => ?_) | refine arunD_kn 4 rfl (fun C hC => ?_)); (repeat ((conv => whnf); simp [e0, e1])); refine hC _ ?_; clear hC C; simp only [List.drop, Nat.reduceAdd]) | ((first | refine arun_kn 1 rfl (fun C hC => ?_) | refine arunD_kn 1 rfl (fun C hC => ?_)); (repeat ((conv => whnf); simp [e0, e1])); refine hC _ ?_; clear hC C; simp only [List.drop, Nat.reduceAdd]) | (refine arun_skip ?_ ?_; (focus (simp [awant, e0, e1]; done))) | (refine arunD_skip ?_ ?_; (focus (simp [awant, e0, e1]; done))) | (refine AW.regionK [] (fun K hK => ?_)) | (refine AW.regionDK [] (pcs [] []) (by kernel_rfl) (by kernel_rfl) (fun K hK => ?_)) | (refine AW.condT ?_ ?_; (focus (simp [aev, e0, e1]; done))) | (refine AW.condF ?_ ?_; (focus (simp [aev, e0, e1]; done))) | with_reducible refine AW.block ?_ | ((first | ((first | refine arun_nil ?_ | refine arunD_nil ?_); refine hK _ ?_; clear hK K) | refine AW.skip ?_ | refine AW.exit ?_ | refine AW.ret ?_); simp only [thenA_exit, inBlockA_exit, if_true, if_false, Nat.reduceEqDiff, thenA_normal, inBlockA_normal, reduceIte, thenA_ret, inBlockA_ret, endQ_ret, endR_ret, endG_ret, endQ_normal, endR_normal, endG_normal])))
    exact ⟨.view .tight 1 [], by simp [ares, aresL], .inl ⟨pur_view (by decide) (fun e he => by cases he), .view .loose 1 [], Wk.nil (fun h => by cases h), by rw [hmp]; rfl⟩⟩
  have hmp0 := misP_eq hx hk
  unfold shA nodeA
  rw [nodeL_eq, shE_eq]
  by_cases h0 : x.kind = 0
  · have e0 : (x.kind != 0) = false := by simp [h0]
    have hnn := goodS_noN hx (by omega)
    rw [hnn] at hmp0
    have hmp : misP x n = [] := by rw [hmp0]; simp [misL]
    refine ACR.of tab_ok mixed_ok Try.func102 (by rfl) (by kernel_rfl) ?_; rintro ⟨P, T, hT, hm, w0, S0, rd0, k0⟩ hP hTT; dsimp only at hP hTT; subst hP hTT; unfold initSt; rw [Try.ntmps102]
    (repeat (first | with_reducible refine AW.seq ?_ | ((first | refine arun_kn 4 rfl (fun C hC => ?_) | refine arunD_kn 4 rfl (fun C hC => ?_)); (repeat ((conv => whnf); simp [e0])); refine hC _ ?_; clear hC C; simp only [List.drop, Nat.reduceAdd]) | ((first | refine arun_kn 1 rfl (fun C hC => ?_) | refine arunD_kn 1 rfl (fun C hC => ?_)); (repeat ((conv => whnf); simp [e0])); refine hC _ ?_; clear hC C; simp only [List.drop, Nat.reduceAdd]) | (refine arun_skip ?_ ?_; (focus (simp [awant, e0]; done))) | (refine arunD_skip ?_ ?_; (focus (simp [awant, e0]; done))) | (refine AW.regionK [] (fun K hK => ?_)) | (refine AW.condT ?_ ?_; (focus (simp [aev, e0]; done))) | (refine AW.condF ?_ ?_; (focus (simp [aev, e0]; done))) | with_reducible refine AW.block ?_ | ((first | ((first | refine arun_nil ?_ | refine arunD_nil ?_); refine hK _ ?_; clear hK K) | refine AW.skip ?_ | refine AW.exit ?_ | refine AW.ret ?_); simp only [thenA_exit, inBlockA_exit, if_true, if_false, Nat.reduceEqDiff, thenA_normal, inBlockA_normal, reduceIte, thenA_ret, inBlockA_ret, endQ_ret, endR_ret, endG_ret, endQ_normal, endR_normal, endG_normal])))
    refine AW.loopS (fun (i : Nat) => mkSt (slots 0 82 [(2, .ptr true 4 1 2 0 0), (3, .ptr true 5 1 3 0 0), (5, .int .i64 i)]) [(2, ⟨true, 27, 4, [shE x]⟩), (3, ⟨true, 30, 5, [nodeL n]⟩)] [2, 3] (rd0.map fun _ => 0)) (fun i => 0) (fun i => i = 0) 0 ?_ rfl ?_
    · rw [nodeL_eq, shE_eq]
      exact (less_of (by simp [lessL, mkSt, slots, in_bools, in_shps, nodeN, namesRow, nodeO, kidsRow]) (by simp [upd, mkSt, rowsOf_cons, in_bools, in_shps, nodeN, namesRow, nodeO, kidsRow]) (by simp [upd, mkSt, usedOf_cons, in_bools, in_shps, nodeN, namesRow, nodeO, kidsRow]) (by first | exact rd_less (by omega) | simp [mkSt, in_bools, in_shps, nodeN, namesRow, nodeO, kidsRow]) (by simp [slots, in_any, in_int, in_bool, in_str, in_ptr, in_own, in_agg, in_vnil, in_rdr, usedOf_cons, usedOf_nil, strs_in, ints_in, nodes_in, in_tup, in_bools, in_shps, nodeN, namesRow, nodeO, kidsRow]) (by simp only [List.forall_mem_cons, List.not_mem_nil, false_implies, implies_true, and_true, true_and, in_bools, in_shps, nodeN, namesRow, nodeO, kidsRow]; (repeat (first | with_reducible exact trivial | with_reducible refine And.intro ?_ ?_ | with_reducible exact in_int | with_reducible exact in_str | with_reducible exact in_bool | with_reducible exact strs_in _ | with_reducible exact nodes_in _ | with_reducible exact items_in _ | with_reducible exact in_vnil | with_reducible exact in_any | exact hin _ | with_reducible refine take_in ?_ | with_reducible exact strsE_in _ | with_reducible exact nodesE_in _ | with_reducible exact nodeL_in _ | with_reducible exact itemsE_in _ | with_reducible exact itemL_in _ | with_reducible refine app_in ?_ ?_ | with_reducible refine sing_in ?_ | (focus (simp [in_any, in_int, in_bool, in_str, in_ptr, in_own, in_agg, in_vnil, in_rdr, usedOf_cons, usedOf_nil, strs_in, ints_in, nodes_in, in_bools, in_shps, nodeN, namesRow, nodeO, kidsRow]; done)))); done))
    rintro _ rfl
    rw [nodeL_eq, shE_eq, hnn]
    have hs0 : strsE [] = [] := rfl
    (repeat (first | with_reducible refine AW.seq ?_ | ((first | refine arun_kn 4 rfl (fun C hC => ?_) | refine arunD_kn 4 rfl (fun C hC => ?_)); (repeat ((conv => whnf); simp [hs0])); refine hC _ ?_; clear hC C; simp only [List.drop, Nat.reduceAdd]) | ((first | refine arun_kn 1 rfl (fun C hC => ?_) | refine arunD_kn 1 rfl (fun C hC => ?_)); (repeat ((conv => whnf); simp [hs0])); refine hC _ ?_; clear hC C; simp only [List.drop, Nat.reduceAdd]) | (refine arun_skip ?_ ?_; (focus (simp [awant, hs0]; done))) | (refine arunD_skip ?_ ?_; (focus (simp [awant, hs0]; done))) | (refine AW.regionK [] (fun K hK => ?_)) | (refine AW.condT ?_ ?_; (focus (simp [aev, hs0]; done))) | (refine AW.condF ?_ ?_; (focus (simp [aev, hs0]; done))) | with_reducible refine AW.block ?_ | ((first | ((first | refine arun_nil ?_ | refine arunD_nil ?_); refine hK _ ?_; clear hK K) | refine AW.skip ?_ | refine AW.exit ?_ | refine AW.ret ?_); simp only [thenA_exit, inBlockA_exit, if_true, if_false, Nat.reduceEqDiff, thenA_normal, inBlockA_normal, reduceIte, thenA_ret, inBlockA_ret, endQ_ret, endR_ret, endG_ret, endQ_normal, endR_normal, endG_normal])))
    exact ⟨.view .tight 1 [], by simp [ares, aresL], .inl ⟨pur_view (by decide) (fun e he => by cases he), .view .loose 1 [], Wk.nil (fun h => by cases h), by rw [hmp]; rfl⟩⟩
  have e0 : (x.kind != 0) = true := by simpa using h0
  have h1 : n.kind = x.kind := hk.resolve_left h0
  have e1 : (n.kind != x.kind) = false := by simp [h1]
  refine ACR.of tab_ok mixed_ok Try.func102 (by rfl) (by kernel_rfl) ?_; rintro ⟨P, T, hT, hm, w0, S0, rd0, k0⟩ hP hTT; dsimp only at hP hTT; subst hP hTT; unfold initSt; rw [Try.ntmps102]
  (repeat (first | with_reducible refine AW.seq ?_ | ((first | refine arun_kn 4 rfl (fun C hC => ?_) | refine arunD_kn 4 rfl (fun C hC => ?_)); (repeat ((conv => whnf); simp [e0, e1])); refine hC _ ?_; clear hC C; simp only [List.drop, Nat.reduceAdd]) | ((first | refine arun_kn 1 rfl (fun C hC => ?_) | refine arunD_kn 1 rfl (fun C hC => ?_)); (repeat ((conv => whnf); simp [e0, e1])); refine hC _ ?_; clear hC C; simp only [List.drop, Nat.reduceAdd]) | (refine arun_skip ?_ ?_; (focus (simp [awant, e0, e1]; done))) | (refine arunD_skip ?_ ?_; (focus (simp [awant, e0, e1]; done))) | (refine AW.regionK [] (fun K hK => ?_)) | (refine AW.condT ?_ ?_; (focus (simp [aev, e0, e1]; done))) | (refine AW.condF ?_ ?_; (focus (simp [aev, e0, e1]; done))) | with_reducible refine AW.block ?_ | ((first | ((first | refine arun_nil ?_ | refine arunD_nil ?_); refine hK _ ?_; clear hK K) | refine AW.skip ?_ | refine AW.exit ?_ | refine AW.ret ?_); simp only [thenA_exit, inBlockA_exit, if_true, if_false, Nat.reduceEqDiff, thenA_normal, inBlockA_normal, reduceIte, thenA_ret, inBlockA_ret, endQ_ret, endR_ret, endG_ret, endQ_normal, endR_normal, endG_normal])))
  refine AW.loopS (fun (i : Nat) => mkSt (slots 0 82 [(2, .ptr true 4 1 2 0 0), (3, .ptr true 5 1 3 0 0), (5, .int .i64 i)]) [(2, ⟨true, 27, 4, [shE x]⟩), (3, ⟨true, 30, 5, [nodeL n]⟩)] [2, 3] (rd0.map fun _ => 0)) (fun i => x.names.length - i) (fun i => i ≤ x.names.length ∧ misL (x.names.drop i) (x.needs.drop i) (x.kids.drop i) n = misL x.names x.needs x.kids n) 0 ?_ ⟨Nat.zero_le _, rfl⟩ ?_
  · rw [nodeL_eq, shE_eq]
    exact (less_of (by simp [lessL, mkSt, slots, in_bools, in_shps, nodeN, namesRow, nodeO, kidsRow]) (by simp [upd, mkSt, rowsOf_cons, in_bools, in_shps, nodeN, namesRow, nodeO, kidsRow]) (by simp [upd, mkSt, usedOf_cons, in_bools, in_shps, nodeN, namesRow, nodeO, kidsRow]) (by first | exact rd_less (by omega) | simp [mkSt, in_bools, in_shps, nodeN, namesRow, nodeO, kidsRow]) (by simp [slots, in_any, in_int, in_bool, in_str, in_ptr, in_own, in_agg, in_vnil, in_rdr, usedOf_cons, usedOf_nil, strs_in, ints_in, nodes_in, in_tup, in_bools, in_shps, nodeN, namesRow, nodeO, kidsRow]) (by simp only [List.forall_mem_cons, List.not_mem_nil, false_implies, implies_true, and_true, true_and, in_bools, in_shps, nodeN, namesRow, nodeO, kidsRow]; (repeat (first | with_reducible exact trivial | with_reducible refine And.intro ?_ ?_ | with_reducible exact in_int | with_reducible exact in_str | with_reducible exact in_bool | with_reducible exact strs_in _ | with_reducible exact nodes_in _ | with_reducible exact items_in _ | with_reducible exact in_vnil | with_reducible exact in_any | exact hin _ | with_reducible refine take_in ?_ | with_reducible exact strsE_in _ | with_reducible exact nodesE_in _ | with_reducible exact nodeL_in _ | with_reducible exact itemsE_in _ | with_reducible exact itemL_in _ | with_reducible refine app_in ?_ ?_ | with_reducible refine sing_in ?_ | (focus (simp [in_any, in_int, in_bool, in_str, in_ptr, in_own, in_agg, in_vnil, in_rdr, usedOf_cons, usedOf_nil, strs_in, ints_in, nodes_in, in_bools, in_shps, nodeN, namesRow, nodeO, kidsRow]; done)))); done))
  rintro i ⟨hi, hmL⟩
  rw [nodeL_eq, shE_eq]
  by_cases hlt : i < x.names.length
  rotate_left
  · rw [misL_end n hlt] at hmL
    have hmp : misP x n = [] := by rw [hmp0, ← hmL]; rfl
    (repeat (first | with_reducible refine AW.seq ?_ | ((first | refine arun_kn 4 rfl (fun C hC => ?_) | refine arunD_kn 4 rfl (fun C hC => ?_)); (repeat ((conv => whnf); simp [hlt, strsE_len])); refine hC _ ?_; clear hC C; simp only [List.drop, Nat.reduceAdd]) | ((first | refine arun_kn 1 rfl (fun C hC => ?_) | refine arunD_kn 1 rfl (fun C hC => ?_)); (repeat ((conv => whnf); simp [hlt, strsE_len])); refine hC _ ?_; clear hC C; simp only [List.drop, Nat.reduceAdd]) | (refine arun_skip ?_ ?_; (focus (simp [awant, hlt, strsE_len]; done))) | (refine arunD_skip ?_ ?_; (focus (simp [awant, hlt, strsE_len]; done))) | (refine AW.regionK [] (fun K hK => ?_)) | (refine AW.condT ?_ ?_; (focus (simp [aev, hlt, strsE_len]; done))) | (refine AW.condF ?_ ?_; (focus (simp [aev, hlt, strsE_len]; done))) | with_reducible refine AW.block ?_ | ((first | ((first | refine arun_nil ?_ | refine arunD_nil ?_); refine hK _ ?_; clear hK K) | refine AW.skip ?_ | refine AW.exit ?_ | refine AW.ret ?_); simp only [thenA_exit, inBlockA_exit, if_true, if_false, Nat.reduceEqDiff, thenA_normal, inBlockA_normal, reduceIte, thenA_ret, inBlockA_ret, endQ_ret, endR_ret, endG_ret, endQ_normal, endR_normal, endG_normal])))
    exact ⟨.view .tight 1 [], by simp [ares, aresL], .inl ⟨pur_view (by decide) (fun e he => by cases he), .view .loose 1 [], Wk.nil (fun h => by cases h), by rw [hmp]; rfl⟩⟩
  have hbt : i < x.needs.length := by omega
  have hkt : i < x.kids.length := by omega
  have hkt' : (i : Int) < (x.kids.length : Int) := by omega
  have hx4 : x.kind = 4 := by
    by_cases h4 : x.kind = 4
    · exact h4
    · rw [goodS_noN hx h4] at hlt; simp at hlt
  have hn4 : n.kind = 4 := by omega
  have hw : IntKind.i64.wrap ((i : Int) + 1) = (i : Int) + 1 := i64_nat (by omega) (by omega)
  rw [misL_step n hlt hbt hkt] at hmL
  have pl := specPlaceO_AC n x.names[i] hn
  rw [Go.Proofs.Ytgfnmhfdmmnaoaa.place_map hn hn4] at pl
  have y2 : (x.kids.map shE)[i]? = some [.int .i64 x.kids[i].kind, .view .loose 1 (strsE x.kids[i].names), .view .loose 1 (boolsE x.kids[i].needs), .view .loose 4 (x.kids[i].kids.map shE)] := by rw [List.getElem?_map, List.getElem?_eq_getElem hkt, ← shE_eq]; rfl
  have hc0 := node_clo n
  unfold nodeA at pl hc0
  rw [nodeL_eq n] at pl hc0
  cases hm : mem n.names x.names[i]
  · rw [hm] at hmL pl
    simp only [if_false, Bool.false_eq_true, reduceIte] at hmL pl
    cases hnd : x.needs[i]
    · rw [hnd] at hmL
      have hnd' := hnd
      simp only [if_false, Bool.false_eq_true, reduceIte] at hmL
      (repeat (first | with_reducible refine AW.seq ?_ | ((first | refine arun_kn 4 rfl (fun C hC => ?_) | refine arunD_kn 4 rfl (fun C hC => ?_)); (repeat ((conv => whnf); simp [hlt, strsE_len, boolsE_len])); refine hC _ ?_; clear hC C; simp only [List.drop, Nat.reduceAdd]) | ((first | refine arun_kn 1 rfl (fun C hC => ?_) | refine arunD_kn 1 rfl (fun C hC => ?_)); (repeat ((conv => whnf); simp [hlt, strsE_len, boolsE_len])); refine hC _ ?_; clear hC C; simp only [List.drop, Nat.reduceAdd]) | (refine arun_skip ?_ ?_; (focus (simp [awant, hlt, strsE_len, boolsE_len]; done))) | (refine arunD_skip ?_ ?_; (focus (simp [awant, hlt, strsE_len, boolsE_len]; done))) | (refine AW.regionK [] (fun K hK => ?_)) | (refine AW.condT ?_ ?_; (focus (simp [aev, hlt, strsE_len, boolsE_len]; done))) | (refine AW.condF ?_ ?_; (focus (simp [aev, hlt, strsE_len, boolsE_len]; done))) | with_reducible refine AW.block ?_ | ((first | ((first | refine arun_nil ?_ | refine arunD_nil ?_); refine hK _ ?_; clear hK K) | refine AW.skip ?_ | refine AW.exit ?_ | refine AW.ret ?_); simp only [thenA_exit, inBlockA_exit, if_true, if_false, Nat.reduceEqDiff, thenA_normal, inBlockA_normal, reduceIte, thenA_ret, inBlockA_ret, endQ_ret, endR_ret, endG_ret, endQ_normal, endR_normal, endG_normal])))
      refine AW.regionDK [] (pcs [(6, 0, fun r => r = .int .i64 (-1))] []) (by kernel_rfl) (by kernel_rfl) (fun K hK => ?_)
      (repeat (first | with_reducible refine AW.seq ?_ | ((first | refine arun_kn 4 rfl (fun C hC => ?_) | refine arunD_kn 4 rfl (fun C hC => ?_)); (repeat ((conv => whnf); simp [hlt, hnd', boolsE_at, strsE_len, boolsE_len, hbt])); refine hC _ ?_; clear hC C; simp only [List.drop, Nat.reduceAdd]) | ((first | refine arun_kn 1 rfl (fun C hC => ?_) | refine arunD_kn 1 rfl (fun C hC => ?_)); (repeat ((conv => whnf); simp [hlt, hnd', boolsE_at, strsE_len, boolsE_len, hbt])); refine hC _ ?_; clear hC C; simp only [List.drop, Nat.reduceAdd]) | (refine arun_skip ?_ ?_; (focus (simp [awant, hlt, hnd', boolsE_at, strsE_len, boolsE_len, hbt]; done))) | (refine arun_c0 (pl) ?_; rintro _ rfl) | (refine arunD_skip ?_ ?_; (focus (simp [awant, hlt, hnd', boolsE_at, strsE_len, boolsE_len, hbt]; done))) | (refine arunD_cE (0) (pl) (by exact ⟨_, rfl, in_int⟩) ?_; rintro _ rfl; intro _) | (refine AW.regionK [] (fun K hK => ?_)) | (refine AW.condT ?_ ?_; (focus (simp [aev, hlt, hnd', boolsE_at, strsE_len, boolsE_len, hbt]; done))) | (refine AW.condF ?_ ?_; (focus (simp [aev, hlt, hnd', boolsE_at, strsE_len, boolsE_len, hbt]; done))) | with_reducible refine AW.block ?_ | ((first | ((first | refine arun_nil ?_ | refine arunD_nil ?_); refine hK _ ?_; clear hK K) | refine AW.skip ?_ | refine AW.exit ?_ | refine AW.ret ?_); simp only [thenA_exit, inBlockA_exit, if_true, if_false, Nat.reduceEqDiff, thenA_normal, inBlockA_normal, reduceIte, thenA_ret, inBlockA_ret, endQ_ret, endR_ret, endG_ret, endQ_normal, endR_normal, endG_normal])))
      refine AW.regionDK [] (pcs [] []) (by kernel_rfl) (by kernel_rfl) (fun K hK => ?_)
      (repeat (first | with_reducible refine AW.seq ?_ | ((first | refine arun_kn 4 rfl (fun C hC => ?_) | refine arunD_kn 4 rfl (fun C hC => ?_)); (repeat ((conv => whnf); simp [hlt, hw])); refine hC _ ?_; clear hC C; simp only [List.drop, Nat.reduceAdd]) | ((first | refine arun_kn 1 rfl (fun C hC => ?_) | refine arunD_kn 1 rfl (fun C hC => ?_)); (repeat ((conv => whnf); simp [hlt, hw])); refine hC _ ?_; clear hC C; simp only [List.drop, Nat.reduceAdd]) | (refine arun_skip ?_ ?_; (focus (simp [awant, hlt, hw]; done))) | (refine arunD_skip ?_ ?_; (focus (simp [awant, hlt, hw]; done))) | (refine AW.regionK [] (fun K hK => ?_)) | (refine AW.condT ?_ ?_; (focus (simp [aev, hlt, hw]; done))) | (refine AW.condF ?_ ?_; (focus (simp [aev, hlt, hw]; done))) | with_reducible refine AW.block ?_ | ((first | ((first | refine arun_nil ?_ | refine arunD_nil ?_); refine hK _ ?_; clear hK K) | refine AW.skip ?_ | refine AW.exit ?_ | refine AW.ret ?_); simp only [thenA_exit, inBlockA_exit, if_true, if_false, Nat.reduceEqDiff, thenA_normal, inBlockA_normal, reduceIte, thenA_ret, inBlockA_ret, endQ_ret, endR_ret, endG_ret, endQ_normal, endR_normal, endG_normal])))
      refine ⟨i + 1, by omega, ⟨by omega, hmL⟩, ?_⟩
      exact (less_of (by simp [lessL, mkSt, slots, in_bools, in_shps, nodeN, namesRow, nodeO, kidsRow]) (by simp [upd, mkSt, rowsOf_cons, in_bools, in_shps, nodeN, namesRow, nodeO, kidsRow]) (by simp [upd, mkSt, usedOf_cons, in_bools, in_shps, nodeN, namesRow, nodeO, kidsRow]) (by first | exact rd_less (by omega) | simp [mkSt, in_bools, in_shps, nodeN, namesRow, nodeO, kidsRow]) (by simp [slots, in_any, in_int, in_bool, in_str, in_ptr, in_own, in_agg, in_vnil, in_rdr, usedOf_cons, usedOf_nil, strs_in, ints_in, nodes_in, in_tup, in_bools, in_shps, nodeN, namesRow, nodeO, kidsRow]) (by simp only [List.forall_mem_cons, List.not_mem_nil, false_implies, implies_true, and_true, true_and, in_bools, in_shps, nodeN, namesRow, nodeO, kidsRow]; (repeat (first | with_reducible exact trivial | with_reducible refine And.intro ?_ ?_ | with_reducible exact in_int | with_reducible exact in_str | with_reducible exact in_bool | with_reducible exact strs_in _ | with_reducible exact nodes_in _ | with_reducible exact items_in _ | with_reducible exact in_vnil | with_reducible exact in_any | exact hin _ | with_reducible refine take_in ?_ | with_reducible exact strsE_in _ | with_reducible exact nodesE_in _ | with_reducible exact nodeL_in _ | with_reducible exact itemsE_in _ | with_reducible exact itemL_in _ | with_reducible refine app_in ?_ ?_ | with_reducible refine sing_in ?_ | (focus (simp [in_any, in_int, in_bool, in_str, in_ptr, in_own, in_agg, in_vnil, in_rdr, usedOf_cons, usedOf_nil, strs_in, ints_in, nodes_in, in_bools, in_shps, nodeN, namesRow, nodeO, kidsRow]; done)))); done))
    · rw [hnd] at hmL
      have hnd' := hnd
      simp only [if_true, reduceIte] at hmL
      have hmp : misP x n = [x.names[i]] := by rw [hmp0, ← hmL]; rfl
      (repeat (first | with_reducible refine AW.seq ?_ | ((first | refine arun_kn 4 rfl (fun C hC => ?_) | refine arunD_kn 4 rfl (fun C hC => ?_)); (repeat ((conv => whnf); simp [hlt, strsE_len, boolsE_len])); refine hC _ ?_; clear hC C; simp only [List.drop, Nat.reduceAdd]) | ((first | refine arun_kn 1 rfl (fun C hC => ?_) | refine arunD_kn 1 rfl (fun C hC => ?_)); (repeat ((conv => whnf); simp [hlt, strsE_len, boolsE_len])); refine hC _ ?_; clear hC C; simp only [List.drop, Nat.reduceAdd]) | (refine arun_skip ?_ ?_; (focus (simp [awant, hlt, strsE_len, boolsE_len]; done))) | (refine arunD_skip ?_ ?_; (focus (simp [awant, hlt, strsE_len, boolsE_len]; done))) | (refine AW.regionK [] (fun K hK => ?_)) | (refine AW.condT ?_ ?_; (focus (simp [aev, hlt, strsE_len, boolsE_len]; done))) | (refine AW.condF ?_ ?_; (focus (simp [aev, hlt, strsE_len, boolsE_len]; done))) | with_reducible refine AW.block ?_ | ((first | ((first | refine arun_nil ?_ | refine arunD_nil ?_); refine hK _ ?_; clear hK K) | refine AW.skip ?_ | refine AW.exit ?_ | refine AW.ret ?_); simp only [thenA_exit, inBlockA_exit, if_true, if_false, Nat.reduceEqDiff, thenA_normal, inBlockA_normal, reduceIte, thenA_ret, inBlockA_ret, endQ_ret, endR_ret, endG_ret, endQ_normal, endR_normal, endG_normal])))
      refine AW.regionDK [] (pcs [(6, 0, fun r => r = .int .i64 (-1))] []) (by kernel_rfl) (by kernel_rfl) (fun K hK => ?_)
      (repeat (first | with_reducible refine AW.seq ?_ | ((first | refine arun_kn 4 rfl (fun C hC => ?_) | refine arunD_kn 4 rfl (fun C hC => ?_)); (repeat ((conv => whnf); simp [hlt, hnd', boolsE_at, strsE_len, boolsE_len, hbt])); refine hC _ ?_; clear hC C; simp only [List.drop, Nat.reduceAdd]) | ((first | refine arun_kn 1 rfl (fun C hC => ?_) | refine arunD_kn 1 rfl (fun C hC => ?_)); (repeat ((conv => whnf); simp [hlt, hnd', boolsE_at, strsE_len, boolsE_len, hbt])); refine hC _ ?_; clear hC C; simp only [List.drop, Nat.reduceAdd]) | (refine arun_skip ?_ ?_; (focus (simp [awant, hlt, hnd', boolsE_at, strsE_len, boolsE_len, hbt]; done))) | (refine arun_c0 (pl) ?_; rintro _ rfl) | (refine arunD_skip ?_ ?_; (focus (simp [awant, hlt, hnd', boolsE_at, strsE_len, boolsE_len, hbt]; done))) | (refine arunD_cE (0) (pl) (by exact ⟨_, rfl, in_int⟩) ?_; rintro _ rfl; intro _) | (refine AW.regionK [] (fun K hK => ?_)) | (refine AW.condT ?_ ?_; (focus (simp [aev, hlt, hnd', boolsE_at, strsE_len, boolsE_len, hbt]; done))) | (refine AW.condF ?_ ?_; (focus (simp [aev, hlt, hnd', boolsE_at, strsE_len, boolsE_len, hbt]; done))) | with_reducible refine AW.block ?_ | ((first | ((first | refine arun_nil ?_ | refine arunD_nil ?_); refine hK _ ?_; clear hK K) | refine AW.skip ?_ | refine AW.exit ?_ | refine AW.ret ?_); simp only [thenA_exit, inBlockA_exit, if_true, if_false, Nat.reduceEqDiff, thenA_normal, inBlockA_normal, reduceIte, thenA_ret, inBlockA_ret, endQ_ret, endR_ret, endG_ret, endQ_normal, endR_normal, endG_normal])))
      rw [hmp]
      exact ⟨.view .tight 1 (strsE [x.names[i]]), by simp [ares, aresL, strsE], .inl ⟨strs_pur _ (by decide), _, Wk.loose (by decide), rfl⟩⟩
  rw [hm] at hmL pl
  simp only [if_true, reduceIte] at hmL pl
  obtain ⟨m, hml⟩ : ∃ m, m = lbound n.names x.names[i] := ⟨_, rfl⟩
  have hmn : m < n.names.length := by rw [hml]; exact (Go.Proofs.Ytgfnmhfdmmnaoaa.lb_lt hn.asc hm).1
  have hkl := (hn.map hn4).2
  have hmk : m < n.kids.length := by omega
  have hmk' : (m : Int) < (n.kids.length : Int) := by omega
  have hko : kidOf n x.names[i] = n.kids[m] := by simp only [hml]; exact kidOf_yes hm (by omega)
  have g0 : ((m : Int) < 0) = False := by simp
  have g1 : (0 ≤ (m : Int)) = True := by simp
  rw [hko] at hmL
  rw [← hml] at pl
  have hgk := hx.kid (List.getElem_mem hkt)
  have hgn := hn.kid (List.getElem_mem hmk)
  have hmf := hgk.mis n.kids[m]
  have pf := specFits_AC x.kids[i] n.kids[m] hgk hgn
  have x1 : (n.kids.map nodeL)[m]? = some [.int .i64 n.kids[m].kind, .int .i64 n.kids[m].num, .str n.kids[m].text, .view .loose 1 (strsE n.kids[m].names), .view .loose 5 (n.kids[m].kids.map nodeL)] := by rw [List.getElem?_map, List.getElem?_eq_getElem hmk, ← nodeL_eq]; rfl
  have pm := ih x.kids[i] (List.getElem_mem hkt) n.kids[m] hgn
  have tk : List.take 4 (shE x.kids[i]) = shE x.kids[i] := List.take_of_length_le (by rw [shE_len]; omega)
  have hc1 := node_clo n.kids[m]
  have hc2 := sh_clo x.kids[i]
  unfold shA at pf pm hc2
  unfold nodeA at pf pm hc1
  rw [nodeL_eq n.kids[m]] at pf pm
  rw [nodeL_eq n.kids[m]] at hc1
  cases hf : fitB x.kids[i] n.kids[m]
  · rw [hf] at hmf pf
    obtain ⟨p, hp⟩ := Option.isSome_iff_exists.1 (show (mis x.kids[i] n.kids[m]).isSome = true by rw [hmf]; rfl)
    have hpl := hgk.len hp
    rw [hp] at hmL
    have hmp : misP x n = x.names[i] :: p := by rw [hmp0, ← hmL]; rfl
    have hpp : misP x.kids[i] n.kids[m] = p := by unfold misP; rw [hp]; rfl
    rw [hpp] at pm
    have b3 : (1 + p.length) * 16 ≤ 140737488355328 := by omega
    have b4 : 1 + p.length ≤ 140737488355328 := by omega
    (repeat (first | with_reducible refine AW.seq ?_ | ((first | refine arun_kn 4 rfl (fun C hC => ?_) | refine arunD_kn 4 rfl (fun C hC => ?_)); (repeat ((conv => whnf); simp [hlt, strsE_len, boolsE_len])); refine hC _ ?_; clear hC C; simp only [List.drop, Nat.reduceAdd]) | ((first | refine arun_kn 1 rfl (fun C hC => ?_) | refine arunD_kn 1 rfl (fun C hC => ?_)); (repeat ((conv => whnf); simp [hlt, strsE_len, boolsE_len])); refine hC _ ?_; clear hC C; simp only [List.drop, Nat.reduceAdd]) | (refine arun_skip ?_ ?_; (focus (simp [awant, hlt, strsE_len, boolsE_len]; done))) | (refine arunD_skip ?_ ?_; (focus (simp [awant, hlt, strsE_len, boolsE_len]; done))) | (refine AW.regionK [] (fun K hK => ?_)) | (refine AW.condT ?_ ?_; (focus (simp [aev, hlt, strsE_len, boolsE_len]; done))) | (refine AW.condF ?_ ?_; (focus (simp [aev, hlt, strsE_len, boolsE_len]; done))) | with_reducible refine AW.block ?_ | ((first | ((first | refine arun_nil ?_ | refine arunD_nil ?_); refine hK _ ?_; clear hK K) | refine AW.skip ?_ | refine AW.exit ?_ | refine AW.ret ?_); simp only [thenA_exit, inBlockA_exit, if_true, if_false, Nat.reduceEqDiff, thenA_normal, inBlockA_normal, reduceIte, thenA_ret, inBlockA_ret, endQ_ret, endR_ret, endG_ret, endQ_normal, endR_normal, endG_normal])))
    refine AW.regionDK [] (pcs [(6, 0, fun r => r = .int .i64 (m : Int))] []) (by kernel_rfl) (by kernel_rfl) (fun K hK => ?_)
    (repeat (first | with_reducible refine AW.seq ?_ | ((first | refine arun_kn 4 rfl (fun C hC => ?_) | refine arunD_kn 4 rfl (fun C hC => ?_)); (repeat ((conv => whnf); simp [hlt, g0, strsE_len, boolsE_len, hbt])); refine hC _ ?_; clear hC C; simp only [List.drop, Nat.reduceAdd]) | ((first | refine arun_kn 1 rfl (fun C hC => ?_) | refine arunD_kn 1 rfl (fun C hC => ?_)); (repeat ((conv => whnf); simp [hlt, g0, strsE_len, boolsE_len, hbt])); refine hC _ ?_; clear hC C; simp only [List.drop, Nat.reduceAdd]) | (refine arun_skip ?_ ?_; (focus (simp [awant, hlt, g0, strsE_len, boolsE_len, hbt]; done))) | (refine arun_c0 (pl) ?_; rintro _ rfl) | (refine arunD_skip ?_ ?_; (focus (simp [awant, hlt, g0, strsE_len, boolsE_len, hbt]; done))) | (refine arunD_cE (0) (pl) (by exact ⟨_, rfl, in_int⟩) ?_; rintro _ rfl; intro _) | (refine AW.regionK [] (fun K hK => ?_)) | (refine AW.condT ?_ ?_; (focus (simp [aev, hlt, g0, strsE_len, boolsE_len, hbt]; done))) | (refine AW.condF ?_ ?_; (focus (simp [aev, hlt, g0, strsE_len, boolsE_len, hbt]; done))) | with_reducible refine AW.block ?_ | ((first | ((first | refine arun_nil ?_ | refine arunD_nil ?_); refine hK _ ?_; clear hK K) | refine AW.skip ?_ | refine AW.exit ?_ | refine AW.ret ?_); simp only [thenA_exit, inBlockA_exit, if_true, if_false, Nat.reduceEqDiff, thenA_normal, inBlockA_normal, reduceIte, thenA_ret, inBlockA_ret, endQ_ret, endR_ret, endG_ret, endQ_normal, endR_normal, endG_normal])))
    refine AW.regionDK [] (pcs [(13, 0, fun r => r = .bool false)] []) (by kernel_rfl) (by kernel_rfl) (fun K hK => ?_)
    (repeat (first | with_reducible refine AW.seq ?_ | ((first | refine arun_kn 4 rfl (fun C hC => ?_) | refine arunD_kn 4 rfl (fun C hC => ?_)); (repeat ((conv => whnf); simp [hlt, x1, shE_len, tk, g1, hkt, hmk, hkt', hmk', strsE_len, boolsE_len, hbt])); refine hC _ ?_; clear hC C; simp only [List.drop, Nat.reduceAdd]) | ((first | refine arun_kn 1 rfl (fun C hC => ?_) | refine arunD_kn 1 rfl (fun C hC => ?_)); (repeat ((conv => whnf); simp [hlt, x1, shE_len, tk, g1, hkt, hmk, hkt', hmk', strsE_len, boolsE_len, hbt])); refine hC _ ?_; clear hC C; simp only [List.drop, Nat.reduceAdd]) | (refine arun_skip ?_ ?_; (focus (simp [awant, hlt, x1, shE_len, tk, g1, hkt, hmk, hkt', hmk', strsE_len, boolsE_len, hbt]; done))) | (refine arun_c0 (pf) ?_; rintro _ rfl) | (refine arunD_skip ?_ ?_; (focus (simp [awant, hlt, x1, shE_len, tk, g1, hkt, hmk, hkt', hmk', strsE_len, boolsE_len, hbt]; done))) | (refine arunD_cE (0) (pf) (by exact ⟨_, rfl, in_bool⟩) ?_; rintro _ rfl; intro _) | (refine AW.regionK [] (fun K hK => ?_)) | (refine AW.condT ?_ ?_; (focus (simp [aev, hlt, x1, shE_len, tk, g1, hkt, hmk, hkt', hmk', strsE_len, boolsE_len, hbt]; done))) | (refine AW.condF ?_ ?_; (focus (simp [aev, hlt, x1, shE_len, tk, g1, hkt, hmk, hkt', hmk', strsE_len, boolsE_len, hbt]; done))) | with_reducible refine AW.block ?_ | ((first | ((first | refine arun_nil ?_ | refine arunD_nil ?_); refine hK _ ?_; clear hK K) | refine AW.skip ?_ | refine AW.exit ?_ | refine AW.ret ?_); simp only [thenA_exit, inBlockA_exit, if_true, if_false, Nat.reduceEqDiff, thenA_normal, inBlockA_normal, reduceIte, thenA_ret, inBlockA_ret, endQ_ret, endR_ret, endG_ret, endQ_normal, endR_normal, endG_normal])))
    refine AW.regionDK [2068] (pcs [(16, 0, fun r => r = .view .loose 1 (strsE p))] []) (by kernel_rfl) (by kernel_rfl) (fun K hK => ?_)
    (repeat (first | with_reducible refine AW.seq ?_ | ((first | refine arun_kn 4 rfl (fun C hC => ?_) | refine arunD_kn 4 rfl (fun C hC => ?_)); (repeat ((conv => whnf); simp [hlt, x1, shE_len, tk, g1, hkt, hmk, hkt', hmk', strsE_len, boolsE_len, b3, b4])); refine hC _ ?_; clear hC C; simp only [List.drop, Nat.reduceAdd]) | ((first | refine arun_kn 1 rfl (fun C hC => ?_) | refine arunD_kn 1 rfl (fun C hC => ?_)); (repeat ((conv => whnf); simp [hlt, x1, shE_len, tk, g1, hkt, hmk, hkt', hmk', strsE_len, boolsE_len, b3, b4])); refine hC _ ?_; clear hC C; simp only [List.drop, Nat.reduceAdd]) | (refine arun_skip ?_ ?_; (focus (simp [awant, hlt, x1, shE_len, tk, g1, hkt, hmk, hkt', hmk', strsE_len, boolsE_len, b3, b4]; done))) | (refine arun_c0 (pm) ?_; rintro _ rfl) | (refine arunD_skip ?_ ?_; (focus (simp [awant, hlt, x1, shE_len, tk, g1, hkt, hmk, hkt', hmk', strsE_len, boolsE_len, b3, b4]; done))) | (refine arunD_cE (0) (pm) (by exact ⟨_, rfl, strs_in _⟩) ?_; rintro _ rfl; intro _) | (refine AW.regionK [] (fun K hK => ?_)) | (refine AW.condT ?_ ?_; (focus (simp [aev, hlt, x1, shE_len, tk, g1, hkt, hmk, hkt', hmk', strsE_len, boolsE_len, b3, b4]; done))) | (refine AW.condF ?_ ?_; (focus (simp [aev, hlt, x1, shE_len, tk, g1, hkt, hmk, hkt', hmk', strsE_len, boolsE_len, b3, b4]; done))) | with_reducible refine AW.block ?_ | ((first | ((first | refine arun_nil ?_ | refine arunD_nil ?_); refine hK _ ?_; clear hK K) | refine AW.skip ?_ | refine AW.exit ?_ | refine AW.ret ?_); simp only [thenA_exit, inBlockA_exit, if_true, if_false, Nat.reduceEqDiff, thenA_normal, inBlockA_normal, reduceIte, thenA_ret, inBlockA_ret, endQ_ret, endR_ret, endG_ret, endQ_normal, endR_normal, endG_normal])))
    rw [hmp]
    exact ⟨.own 68 (x.names[i] :: p).length, by simp [ares, aresL], .inr ⟨fun id => .own id (x.names[i] :: p).length, 68, misRow (x.names[i] :: p), rfl, (by simp [upd, rowsOf_cons, misRow]; rfl), Res1.own _ _, strsE_pur _, rfl, rfl⟩⟩
  · rw [hf] at hmf pf
    have hp : mis x.kids[i] n.kids[m] = none := by
      cases h : mis x.kids[i] n.kids[m]
      · rfl
      · rw [h] at hmf; cases hmf
    rw [hp] at hmL
    (repeat (first | with_reducible refine AW.seq ?_ | ((first | refine arun_kn 4 rfl (fun C hC => ?_) | refine arunD_kn 4 rfl (fun C hC => ?_)); (repeat ((conv => whnf); simp [hlt, strsE_len, boolsE_len])); refine hC _ ?_; clear hC C; simp only [List.drop, Nat.reduceAdd]) | ((first | refine arun_kn 1 rfl (fun C hC => ?_) | refine arunD_kn 1 rfl (fun C hC => ?_)); (repeat ((conv => whnf); simp [hlt, strsE_len, boolsE_len])); refine hC _ ?_; clear hC C; simp only [List.drop, Nat.reduceAdd]) | (refine arun_skip ?_ ?_; (focus (simp [awant, hlt, strsE_len, boolsE_len]; done))) | (refine arunD_skip ?_ ?_; (focus (simp [awant, hlt, strsE_len, boolsE_len]; done))) | (refine AW.regionK [] (fun K hK => ?_)) | (refine AW.condT ?_ ?_; (focus (simp [aev, hlt, strsE_len, boolsE_len]; done))) | (refine AW.condF ?_ ?_; (focus (simp [aev, hlt, strsE_len, boolsE_len]; done))) | with_reducible refine AW.block ?_ | ((first | ((first | refine arun_nil ?_ | refine arunD_nil ?_); refine hK _ ?_; clear hK K) | refine AW.skip ?_ | refine AW.exit ?_ | refine AW.ret ?_); simp only [thenA_exit, inBlockA_exit, if_true, if_false, Nat.reduceEqDiff, thenA_normal, inBlockA_normal, reduceIte, thenA_ret, inBlockA_ret, endQ_ret, endR_ret, endG_ret, endQ_normal, endR_normal, endG_normal])))
    refine AW.regionDK [] (pcs [(6, 0, fun r => r = .int .i64 (m : Int))] []) (by kernel_rfl) (by kernel_rfl) (fun K hK => ?_)
    (repeat (first | with_reducible refine AW.seq ?_ | ((first | refine arun_kn 4 rfl (fun C hC => ?_) | refine arunD_kn 4 rfl (fun C hC => ?_)); (repeat ((conv => whnf); simp [hlt, g0, strsE_len, boolsE_len, hbt])); refine hC _ ?_; clear hC C; simp only [List.drop, Nat.reduceAdd]) | ((first | refine arun_kn 1 rfl (fun C hC => ?_) | refine arunD_kn 1 rfl (fun C hC => ?_)); (repeat ((conv => whnf); simp [hlt, g0, strsE_len, boolsE_len, hbt])); refine hC _ ?_; clear hC C; simp only [List.drop, Nat.reduceAdd]) | (refine arun_skip ?_ ?_; (focus (simp [awant, hlt, g0, strsE_len, boolsE_len, hbt]; done))) | (refine arun_c0 (pl) ?_; rintro _ rfl) | (refine arunD_skip ?_ ?_; (focus (simp [awant, hlt, g0, strsE_len, boolsE_len, hbt]; done))) | (refine arunD_cE (0) (pl) (by exact ⟨_, rfl, in_int⟩) ?_; rintro _ rfl; intro _) | (refine AW.regionK [] (fun K hK => ?_)) | (refine AW.condT ?_ ?_; (focus (simp [aev, hlt, g0, strsE_len, boolsE_len, hbt]; done))) | (refine AW.condF ?_ ?_; (focus (simp [aev, hlt, g0, strsE_len, boolsE_len, hbt]; done))) | with_reducible refine AW.block ?_ | ((first | ((first | refine arun_nil ?_ | refine arunD_nil ?_); refine hK _ ?_; clear hK K) | refine AW.skip ?_ | refine AW.exit ?_ | refine AW.ret ?_); simp only [thenA_exit, inBlockA_exit, if_true, if_false, Nat.reduceEqDiff, thenA_normal, inBlockA_normal, reduceIte, thenA_ret, inBlockA_ret, endQ_ret, endR_ret, endG_ret, endQ_normal, endR_normal, endG_normal])))
    refine AW.regionDK [] (pcs [(13, 0, fun r => r = .bool true)] []) (by kernel_rfl) (by kernel_rfl) (fun K hK => ?_)
    (repeat (first | with_reducible refine AW.seq ?_ | ((first | refine arun_kn 4 rfl (fun C hC => ?_) | refine arunD_kn 4 rfl (fun C hC => ?_)); (repeat ((conv => whnf); simp [hlt, hw, x1, shE_len, tk, g1, hkt, hmk, hkt', hmk', strsE_len, boolsE_len, hbt])); refine hC _ ?_; clear hC C; simp only [List.drop, Nat.reduceAdd]) | ((first | refine arun_kn 1 rfl (fun C hC => ?_) | refine arunD_kn 1 rfl (fun C hC => ?_)); (repeat ((conv => whnf); simp [hlt, hw, x1, shE_len, tk, g1, hkt, hmk, hkt', hmk', strsE_len, boolsE_len, hbt])); refine hC _ ?_; clear hC C; simp only [List.drop, Nat.reduceAdd]) | (refine arun_skip ?_ ?_; (focus (simp [awant, hlt, hw, x1, shE_len, tk, g1, hkt, hmk, hkt', hmk', strsE_len, boolsE_len, hbt]; done))) | (refine arun_c0 (pf) ?_; rintro _ rfl) | (refine arunD_skip ?_ ?_; (focus (simp [awant, hlt, hw, x1, shE_len, tk, g1, hkt, hmk, hkt', hmk', strsE_len, boolsE_len, hbt]; done))) | (refine arunD_cE (0) (pf) (by exact ⟨_, rfl, in_bool⟩) ?_; rintro _ rfl; intro _) | (refine AW.regionK [] (fun K hK => ?_)) | (refine AW.condT ?_ ?_; (focus (simp [aev, hlt, hw, x1, shE_len, tk, g1, hkt, hmk, hkt', hmk', strsE_len, boolsE_len, hbt]; done))) | (refine AW.condF ?_ ?_; (focus (simp [aev, hlt, hw, x1, shE_len, tk, g1, hkt, hmk, hkt', hmk', strsE_len, boolsE_len, hbt]; done))) | with_reducible refine AW.block ?_ | ((first | ((first | refine arun_nil ?_ | refine arunD_nil ?_); refine hK _ ?_; clear hK K) | refine AW.skip ?_ | refine AW.exit ?_ | refine AW.ret ?_); simp only [thenA_exit, inBlockA_exit, if_true, if_false, Nat.reduceEqDiff, thenA_normal, inBlockA_normal, reduceIte, thenA_ret, inBlockA_ret, endQ_ret, endR_ret, endG_ret, endQ_normal, endR_normal, endG_normal])))
    refine ⟨i + 1, by omega, ⟨by omega, hmL⟩, ?_⟩
    exact (less_of (by simp [lessL, mkSt, slots, in_bools, in_shps, nodeN, namesRow, nodeO, kidsRow]) (by simp [upd, mkSt, rowsOf_cons, in_bools, in_shps, nodeN, namesRow, nodeO, kidsRow]) (by simp [upd, mkSt, usedOf_cons, in_bools, in_shps, nodeN, namesRow, nodeO, kidsRow]) (by first | exact rd_less (by omega) | simp [mkSt, in_bools, in_shps, nodeN, namesRow, nodeO, kidsRow]) (by simp [slots, in_any, in_int, in_bool, in_str, in_ptr, in_own, in_agg, in_vnil, in_rdr, usedOf_cons, usedOf_nil, strs_in, ints_in, nodes_in, in_tup, in_bools, in_shps, nodeN, namesRow, nodeO, kidsRow]) (by simp only [List.forall_mem_cons, List.not_mem_nil, false_implies, implies_true, and_true, true_and, in_bools, in_shps, nodeN, namesRow, nodeO, kidsRow]; (repeat (first | with_reducible exact trivial | with_reducible refine And.intro ?_ ?_ | with_reducible exact in_int | with_reducible exact in_str | with_reducible exact in_bool | with_reducible exact strs_in _ | with_reducible exact nodes_in _ | with_reducible exact items_in _ | with_reducible exact in_vnil | with_reducible exact in_any | exact hin _ | with_reducible refine take_in ?_ | with_reducible exact strsE_in _ | with_reducible exact nodesE_in _ | with_reducible exact nodeL_in _ | with_reducible exact itemsE_in _ | with_reducible exact itemL_in _ | with_reducible refine app_in ?_ ?_ | with_reducible refine sing_in ?_ | (focus (simp [in_any, in_int, in_bool, in_str, in_ptr, in_own, in_agg, in_vnil, in_rdr, usedOf_cons, usedOf_nil, strs_in, ints_in, nodes_in, in_bools, in_shps, nodeN, namesRow, nodeO, kidsRow]; done)))); done))
theorem misRow_sub (p : List ByteArray) : AV.sub 0 (misRow p).es.length (.view .loose (misRow p).sz (misRow p).es) (.own 0 p.length) = .view .loose 1 (strsE p) := by
  simp [AV.sub, misRow, strsE_len]
theorem specMisfit_AC : ∀ (x : Go.Proofs.Ytgfnmhfdmmnaoaa.Shp), GoodS x → ∀ n, Good n → AC Try.prog 102 [shA x, nodeA n] 0 (fun r => r = .view .loose 1 (strsE (misP x n))) :=
  Shp.ind' _ (fun x ih hx n hn => by
    refine (AC.ofR (specMisfit_step x n hx hn (fun k hk m hm => ih k hk (hx.kid hk) m hm)) ?_).mono ?_
    · rintro r R ⟨rfl, rfl⟩
      rw [misRow_sub]; exact strs_in _
    · rintro r (h | ⟨f, R, ⟨rfl, rfl⟩, rfl⟩)
      · exact h
      · exact misRow_sub _)
theorem validShape_AC5 (x : Go.Proofs.Ytgfnmhfdmmnaoaa.Shp) : AC Try.prog 61 [shA x, .int .i64 5] 0 (fun r => r = .bool (shpB x 5)) := by
  refine AC.ofGrow (enters_of Try.func61 (by kernel_rfl) (by kernel_rfl)) (fun w L S rb vs h => ?_)
  obtain ⟨v, u, rfl, h1, h2⟩ := repL2_inv h
  rw [rep_int] at h2
  subst h2
  refine (validShape_ok x 5 v w (by omega) (shape_of_rep h1)).mono ?_
  rintro e w' ⟨rfl, hg⟩
  exact ⟨_, _, rfl, hg, rep_bool.2 rfl, rfl⟩
theorem specFirstMisfit_AC (x : Go.Proofs.Ytgfnmhfdmmnaoaa.Shp) (n : Nd) : AC Try.prog 41 [shA x, nodeA n] 0 (fun r => r = .tup [.view .loose 1 (strsE ((fmV x n).getD [])), .bool (fmV x n).isSome]) := by
  refine AC.weak ?_
  have p1 := validShape_AC5 x
  have p2 := validNode_AC n .loose
  have hc := sh_clo x
  have hn := node_clo n
  cases h1 : shpB x 5
  · rw [h1] at p1
    have e : fmV x n = none := by unfold fmV; rw [h1]; rfl
    unfold shA nodeA at *
    rw [nodeL_eq n] at *
    rw [shE_eq x] at *
    refine AC.of tab_ok mixed_ok Try.func41 (by rfl) (by kernel_rfl) ?_; rintro ⟨P, T, hT, hm, w0, S0, rd0, k0⟩ hP hTT; dsimp only at hP hTT; subst hP hTT; unfold initSt; rw [Try.ntmps41]
    (repeat (first | with_reducible refine AW.seq ?_ | ((first | refine arun_kn 4 rfl (fun C hC => ?_) | refine arunD_kn 4 rfl (fun C hC => ?_)); (repeat ((conv => whnf); simp)); refine hC _ ?_; clear hC C; simp only [List.drop, Nat.reduceAdd]) | ((first | refine arun_kn 1 rfl (fun C hC => ?_) | refine arunD_kn 1 rfl (fun C hC => ?_)); (repeat ((conv => whnf); simp)); refine hC _ ?_; clear hC C; simp only [List.drop, Nat.reduceAdd]) | (refine arun_skip ?_ ?_; (focus (simp [awant]; done))) | (refine arun_c0 (p1) ?_; rintro _ rfl) | (refine arunD_skip ?_ ?_; (focus (simp [awant]; done))) | (refine AW.regionK [] (fun K hK => ?_)) | (refine AW.regionDK [] (pcs [] []) (by kernel_rfl) (by kernel_rfl) (fun K hK => ?_)) | (refine AW.condT ?_ ?_; (focus (simp [aev]; done))) | (refine AW.condF ?_ ?_; (focus (simp [aev]; done))) | with_reducible refine AW.block ?_ | ((first | ((first | refine arun_nil ?_ | refine arunD_nil ?_); refine hK _ ?_; clear hK K) | refine AW.skip ?_ | refine AW.exit ?_ | refine AW.ret ?_); simp only [thenA_exit, inBlockA_exit, if_true, if_false, Nat.reduceEqDiff, thenA_normal, inBlockA_normal, reduceIte, thenA_ret, inBlockA_ret, endQ_ret, endR_ret, endG_ret, endQ_normal, endR_normal, endG_normal])))
    exact ⟨.tup [.view .tight 0 [], .bool false], by simp [ares, aresL], tup2_pur (pur_view (by decide) (fun e he => by cases he)) pur_bool, .tup [.view .loose 1 [], .bool false], Wk.tup (.cons (Wk.nil (fun h => by cases h)) (.cons (Wk.refl _) .nil)), by rw [e]; rfl⟩
  rw [h1] at p1
  cases h2 : validB n
  · rw [h2] at p2
    have e : fmV x n = none := by unfold fmV; rw [h1, h2]; rfl
    unfold shA nodeA at *
    rw [nodeL_eq n] at *
    rw [shE_eq x] at *
    refine AC.of tab_ok mixed_ok Try.func41 (by rfl) (by kernel_rfl) ?_; rintro ⟨P, T, hT, hm, w0, S0, rd0, k0⟩ hP hTT; dsimp only at hP hTT; subst hP hTT; unfold initSt; rw [Try.ntmps41]
    (repeat (first | with_reducible refine AW.seq ?_ | ((first | refine arun_kn 4 rfl (fun C hC => ?_) | refine arunD_kn 4 rfl (fun C hC => ?_)); (repeat ((conv => whnf); simp)); refine hC _ ?_; clear hC C; simp only [List.drop, Nat.reduceAdd]) | ((first | refine arun_kn 1 rfl (fun C hC => ?_) | refine arunD_kn 1 rfl (fun C hC => ?_)); (repeat ((conv => whnf); simp)); refine hC _ ?_; clear hC C; simp only [List.drop, Nat.reduceAdd]) | (refine arun_skip ?_ ?_; (focus (simp [awant]; done))) | (refine arun_c0 (p1) ?_; rintro _ rfl) | (refine arun_c0 (p2) ?_; rintro _ rfl) | (refine arunD_skip ?_ ?_; (focus (simp [awant]; done))) | (refine AW.regionK [] (fun K hK => ?_)) | (refine AW.regionDK [] (pcs [] []) (by kernel_rfl) (by kernel_rfl) (fun K hK => ?_)) | (refine AW.condT ?_ ?_; (focus (simp [aev]; done))) | (refine AW.condF ?_ ?_; (focus (simp [aev]; done))) | with_reducible refine AW.block ?_ | ((first | ((first | refine arun_nil ?_ | refine arunD_nil ?_); refine hK _ ?_; clear hK K) | refine AW.skip ?_ | refine AW.exit ?_ | refine AW.ret ?_); simp only [thenA_exit, inBlockA_exit, if_true, if_false, Nat.reduceEqDiff, thenA_normal, inBlockA_normal, reduceIte, thenA_ret, inBlockA_ret, endQ_ret, endR_ret, endG_ret, endQ_normal, endR_normal, endG_normal])))
    exact ⟨.tup [.view .tight 0 [], .bool false], by simp [ares, aresL], tup2_pur (pur_view (by decide) (fun e he => by cases he)) pur_bool, .tup [.view .loose 1 [], .bool false], Wk.tup (.cons (Wk.nil (fun h => by cases h)) (.cons (Wk.refl _) .nil)), by rw [e]; rfl⟩
  rw [h2] at p2
  have hgs : GoodS x := ⟨5, by omega, h1⟩
  have hgn := validB_good h2
  have e : fmV x n = mis x n := by unfold fmV; rw [h1, h2]; rfl
  have hf := hgs.mis n
  have p3 := specFits_AC x n hgs hgn
  have p4 := specMisfit_AC x hgs n hgn
  unfold shA nodeA at *
  rw [nodeL_eq n] at *
  rw [shE_eq x] at *
  cases h3 : fitB x n
  · rw [h3] at p3 hf
    refine AC.of tab_ok mixed_ok Try.func41 (by rfl) (by kernel_rfl) ?_; rintro ⟨P, T, hT, hm, w0, S0, rd0, k0⟩ hP hTT; dsimp only at hP hTT; subst hP hTT; unfold initSt; rw [Try.ntmps41]
    (repeat (first | with_reducible refine AW.seq ?_ | ((first | refine arun_kn 4 rfl (fun C hC => ?_) | refine arunD_kn 4 rfl (fun C hC => ?_)); (repeat ((conv => whnf); simp)); refine hC _ ?_; clear hC C; simp only [List.drop, Nat.reduceAdd]) | ((first | refine arun_kn 1 rfl (fun C hC => ?_) | refine arunD_kn 1 rfl (fun C hC => ?_)); (repeat ((conv => whnf); simp)); refine hC _ ?_; clear hC C; simp only [List.drop, Nat.reduceAdd]) | (refine arun_skip ?_ ?_; (focus (simp [awant]; done))) | (refine arun_c0 (p1) ?_; rintro _ rfl) | (refine arun_c0 (p2) ?_; rintro _ rfl) | (refine arun_c0 (p3) ?_; rintro _ rfl) | (refine arun_c0 (p4) ?_; rintro _ rfl) | (refine arunD_skip ?_ ?_; (focus (simp [awant]; done))) | (refine AW.regionK [] (fun K hK => ?_)) | (refine AW.regionDK [] (pcs [] []) (by kernel_rfl) (by kernel_rfl) (fun K hK => ?_)) | (refine AW.condT ?_ ?_; (focus (simp [aev]; done))) | (refine AW.condF ?_ ?_; (focus (simp [aev]; done))) | with_reducible refine AW.block ?_ | ((first | ((first | refine arun_nil ?_ | refine arunD_nil ?_); refine hK _ ?_; clear hK K) | refine AW.skip ?_ | refine AW.exit ?_ | refine AW.ret ?_); simp only [thenA_exit, inBlockA_exit, if_true, if_false, Nat.reduceEqDiff, thenA_normal, inBlockA_normal, reduceIte, thenA_ret, inBlockA_ret, endQ_ret, endR_ret, endG_ret, endQ_normal, endR_normal, endG_normal])))
    exact ⟨.tup [.view .loose 1 (strsE (misP x n)), .bool true], by simp [ares, aresL], tup2_pur (strs_pur _ (by decide)) pur_bool, _, Wk.refl _, by rw [e, hf]; rfl⟩
  · rw [h3] at p3 hf
    have e : fmV x n = none := by rw [e]; exact Option.not_isSome_iff_eq_none.1 (by rw [hf]; simp)
    refine AC.of tab_ok mixed_ok Try.func41 (by rfl) (by kernel_rfl) ?_; rintro ⟨P, T, hT, hm, w0, S0, rd0, k0⟩ hP hTT; dsimp only at hP hTT; subst hP hTT; unfold initSt; rw [Try.ntmps41]
    (repeat (first | with_reducible refine AW.seq ?_ | ((first | refine arun_kn 4 rfl (fun C hC => ?_) | refine arunD_kn 4 rfl (fun C hC => ?_)); (repeat ((conv => whnf); simp)); refine hC _ ?_; clear hC C; simp only [List.drop, Nat.reduceAdd]) | ((first | refine arun_kn 1 rfl (fun C hC => ?_) | refine arunD_kn 1 rfl (fun C hC => ?_)); (repeat ((conv => whnf); simp)); refine hC _ ?_; clear hC C; simp only [List.drop, Nat.reduceAdd]) | (refine arun_skip ?_ ?_; (focus (simp [awant]; done))) | (refine arun_c0 (p1) ?_; rintro _ rfl) | (refine arun_c0 (p2) ?_; rintro _ rfl) | (refine arun_c0 (p3) ?_; rintro _ rfl) | (refine arunD_skip ?_ ?_; (focus (simp [awant]; done))) | (refine AW.regionK [] (fun K hK => ?_)) | (refine AW.regionDK [] (pcs [] []) (by kernel_rfl) (by kernel_rfl) (fun K hK => ?_)) | (refine AW.condT ?_ ?_; (focus (simp [aev]; done))) | (refine AW.condF ?_ ?_; (focus (simp [aev]; done))) | with_reducible refine AW.block ?_ | ((first | ((first | refine arun_nil ?_ | refine arunD_nil ?_); refine hK _ ?_; clear hK K) | refine AW.skip ?_ | refine AW.exit ?_ | refine AW.ret ?_); simp only [thenA_exit, inBlockA_exit, if_true, if_false, Nat.reduceEqDiff, thenA_normal, inBlockA_normal, reduceIte, thenA_ret, inBlockA_ret, endQ_ret, endR_ret, endG_ret, endQ_normal, endR_normal, endG_normal])))
    exact ⟨.tup [.view .tight 0 [], .bool false], by simp [ares, aresL], tup2_pur (pur_view (by decide) (fun e he => by cases he)) pur_bool, .tup [.view .loose 1 [], .bool false], Wk.tup (.cons (Wk.nil (fun h => by cases h)) (.cons (Wk.refl _) .nil)), by rw [e]; rfl⟩
end Go.Proofs.Ytgfnmhfdmmnaoaa.Eng
namespace Go.Proofs.Ytgfnmhfdmmnaoaa
open Go Go.RowKit
def BoolsF (w : World) (a : Option Addr) (c : Nat) (xs : List Bool) (fp : List Nat) : Prop :=
  xs.length ≤ c ∧ xs.length ≤ big ∧ ((xs = [] ∧ fp = []) ∨ ∃ b o, xs ≠ [] ∧ a = some ⟨b, o, none⟩ ∧ fp = [b] ∧ ∀ i (h : i < xs.length), w.cell? ⟨b, o + i, none⟩ = some (.bool xs[i]))
theorem BoolsF.keep {w w' : World} {a : Option Addr} {c : Nat} {xs : List Bool} {fp : List Nat} (hs : BoolsF w a c xs fp)
    (h : ∀ b ∈ fp, ∀ o, w'.cell? ⟨b, o, none⟩ = w.cell? ⟨b, o, none⟩) : BoolsF w' a c xs fp := by
  obtain ⟨h1, h2, h4⟩ := hs
  refine ⟨h1, h2, h4.imp id ?_⟩
  rintro ⟨b, o, hne, rfl, rfl, hc⟩
  exact ⟨b, o, hne, rfl, rfl, fun i hi => by rw [h b (by simp)]; exact hc i hi⟩
theorem BoolsF.toR {w : World} {a : Option Addr} {c : Nat} {xs : List Bool} {fp : List Nat} (hs : BoolsF w a c xs fp) {S : Nat → Prop} (hS : ∀ b ∈ fp, S b) : BoolsR w S a c xs := by
  obtain ⟨h1, h2, h4⟩ := hs
  refine ⟨h1, h2, h4.imp (fun h => h.1) ?_⟩
  rintro ⟨b, o, _, rfl, rfl, hc⟩
  exact ⟨b, o, rfl, hS b (by simp), hc⟩
mutual
def ShapeF (w : World) : Shp → Option Addr → Nat → Option Addr → Nat → Option Addr → Nat → List Nat → Prop
  | ⟨_, names, needs, kids⟩, na, nc, ba, bc, ka, kc, fp => ∃ f1 f2 f3, fp = f1 ++ f2 ++ f3 ∧ StrsF w na nc names f1 ∧ BoolsF w ba bc needs f2 ∧ kids.length ≤ kc ∧ kids.length ≤ big ∧
      ((kids = [] ∧ f3 = []) ∨ ∃ b o f4, kids ≠ [] ∧ ka = some ⟨b, o, none⟩ ∧ f3 = b :: f4 ∧ ShpsF w b o kids f4)
def ShpsF (w : World) (b : Nat) : Nat → List Shp → List Nat → Prop
  | _, [], fp => fp = []
  | o, k :: ks, fp => ∃ f1 f2, fp = f1 ++ f2 ∧ (∃ na nc ba bc ka kc, w.cell? ⟨b, o, none⟩ = some (.int .i64 k.kind) ∧ w.cell? ⟨b, o + 1, none⟩ = some (.slice na k.names.length nc) ∧ w.cell? ⟨b, o + 2, none⟩ = some (.slice ba k.needs.length bc) ∧
      w.cell? ⟨b, o + 3, none⟩ = some (.slice ka k.kids.length kc) ∧ ShapeF w k na nc ba bc ka kc f1) ∧ ShpsF w b (o + 4) ks f2
end
def ShpLF (w : World) (a : Option Addr) (c : Nat) (l : List Shp) (fp : List Nat) : Prop :=
  l.length ≤ c ∧ l.length ≤ big ∧ ((l = [] ∧ fp = []) ∨ ∃ b o f, l ≠ [] ∧ a = some ⟨b, o, none⟩ ∧ fp = b :: f ∧ ShpsF w b o l f)
theorem ShapeF.mk {w : World} {n : Shp} {na : Option Addr} {nc : Nat} {ba : Option Addr} {bc : Nat} {ka : Option Addr} {kc : Nat} {f1 f2 f3 : List Nat}
    (h2 : StrsF w na nc n.names f1) (h3 : BoolsF w ba bc n.needs f2) (h4 : ShpLF w ka kc n.kids f3) : ShapeF w n na nc ba bc ka kc (f1 ++ f2 ++ f3) := by
  cases n; unfold ShapeF
  exact ⟨f1, f2, f3, rfl, h2, h3, h4⟩
def ShapeO (w : World) (n : Shp) (v : Value) (fp : List Nat) : Prop := ∃ na nc ba bc ka kc, v = shapeV n na nc ba bc ka kc ∧ ShapeF w n na nc ba bc ka kc fp
mutual
theorem ShapeF.keep {w w' : World} : ∀ {n : Shp} {na : Option Addr} {nc : Nat} {ba : Option Addr} {bc : Nat} {ka : Option Addr} {kc : Nat} {fp : List Nat}, ShapeF w n na nc ba bc ka kc fp →
    (∀ b ∈ fp, ∀ o, w'.cell? ⟨b, o, none⟩ = w.cell? ⟨b, o, none⟩) → ShapeF w' n na nc ba bc ka kc fp
  | ⟨_, _, _, kids⟩, na, nc, ba, bc, ka, kc, fp, hn, h => by
    unfold ShapeF at hn ⊢
    obtain ⟨f1, f2, f3, rfl, h1, h2, h3, h4, h5⟩ := hn
    refine ⟨f1, f2, f3, rfl, h1.keep (fun b hb => h b (by simp [hb])), h2.keep (fun b hb => h b (by simp [hb])), h3, h4, h5.imp id ?_⟩
    rintro ⟨b, o, f4, hne, rfl, rfl, hc⟩
    exact ⟨b, o, f4, hne, rfl, rfl, ShpsF.keep hc (fun x hx => h x (by simp [hx])) (fun o' _ _ => h b (by simp) o')⟩
theorem ShpsF.keep {w w' : World} {b : Nat} : ∀ {l : List Shp} {o : Nat} {fp : List Nat}, ShpsF w b o l fp → (∀ x ∈ fp, ∀ o', w'.cell? ⟨x, o', none⟩ = w.cell? ⟨x, o', none⟩) →
    (∀ o', o ≤ o' → o' < o + 4 * l.length → w'.cell? ⟨b, o', none⟩ = w.cell? ⟨b, o', none⟩) → ShpsF w' b o l fp
  | [], _, _, hk, _, _ => by unfold ShpsF at hk ⊢; exact hk
  | k :: ks, o, fp, hk, h, hb => by
    unfold ShpsF at hk ⊢
    obtain ⟨f1, f2, rfl, ⟨na, nc, ba, bc, ka, kc, c0, c1, c2, c3, hn⟩, hr⟩ := hk
    simp only [List.length_cons] at hb
    refine ⟨f1, f2, rfl, ⟨na, nc, ba, bc, ka, kc, ?_, ?_, ?_, ?_, ShapeF.keep hn (fun x hx => h x (by simp [hx]))⟩, ShpsF.keep hr (fun x hx => h x (by simp [hx])) (fun o' h1 h2 => hb o' (by omega) (by omega))⟩
    · rw [hb _ (by omega) (by omega)]; exact c0
    · rw [hb _ (by omega) (by omega)]; exact c1
    · rw [hb _ (by omega) (by omega)]; exact c2
    · rw [hb _ (by omega) (by omega)]; exact c3
end
mutual
theorem ShapeF.toC {w : World} {S : Nat → Prop} : ∀ {n : Shp} {na : Option Addr} {nc : Nat} {ba : Option Addr} {bc : Nat} {ka : Option Addr} {kc : Nat} {fp : List Nat}, ShapeF w n na nc ba bc ka kc fp → (∀ b ∈ fp, S b) → ShapeC w S n na nc ba bc ka kc
  | ⟨_, _, _, kids⟩, na, nc, ba, bc, ka, kc, fp, hn, h => by
    unfold ShapeF at hn; unfold ShapeC
    obtain ⟨f1, f2, f3, rfl, h1, h2, h3, h4, h5⟩ := hn
    refine ⟨h1.toR (fun b hb => h b (by simp [hb])), h2.toR (fun b hb => h b (by simp [hb])), h3, h4, h5.imp (fun h => h.1) ?_⟩
    rintro ⟨b, o, f4, _, rfl, rfl, hc⟩
    exact ⟨b, o, rfl, h b (by simp), ShpsF.toR hc (fun x hx => h x (by simp [hx]))⟩
theorem ShpsF.toR {w : World} {S : Nat → Prop} {b : Nat} : ∀ {l : List Shp} {o : Nat} {fp : List Nat}, ShpsF w b o l fp → (∀ x ∈ fp, S x) → ShpsR w S b o l
  | [], _, _, _, _ => by unfold ShpsR; trivial
  | k :: ks, o, fp, hk, h => by
    unfold ShpsF at hk; unfold ShpsR
    obtain ⟨f1, f2, rfl, ⟨na, nc, ba, bc, ka, kc, c0, c1, c2, c3, hn⟩, hr⟩ := hk
    exact ⟨⟨na, nc, ba, bc, ka, kc, c0, c1, c2, c3, ShapeF.toC hn (fun x hx => h x (by simp [hx]))⟩, ShpsF.toR hr (fun x hx => h x (by simp [hx]))⟩
end
theorem ShapeO.toR {w : World} {n : Shp} {v : Value} {fp : List Nat} (h : ShapeO w n v fp) {S : Nat → Prop} (hS : ∀ b ∈ fp, S b) : ShapeR w S n v := by
  obtain ⟨na, nc, ba, bc, ka, kc, hv, hc⟩ := h
  exact ⟨na, nc, ba, bc, ka, kc, hv, hc.toC hS⟩
theorem ShpsF.snoc {w : World} {b : Nat} {k : Shp} {f' : List Nat} {na : Option Addr} {nc : Nat} {ba : Option Addr} {bc : Nat} {ka : Option Addr} {kc : Nat} : ∀ {l : List Shp} {o : Nat} {fp : List Nat}, ShpsF w b o l fp →
    w.cell? ⟨b, o + 4 * l.length, none⟩ = some (.int .i64 k.kind) → w.cell? ⟨b, o + 4 * l.length + 1, none⟩ = some (.slice na k.names.length nc) → w.cell? ⟨b, o + 4 * l.length + 2, none⟩ = some (.slice ba k.needs.length bc) →
    w.cell? ⟨b, o + 4 * l.length + 3, none⟩ = some (.slice ka k.kids.length kc) → ShapeF w k na nc ba bc ka kc f' →
    ShpsF w b o (l ++ [k]) (fp ++ f')
  | [], o, fp, hk, c0, c1, c2, c3, hn => by
    unfold ShpsF at hk; subst hk
    simp only [List.length_nil, Nat.mul_zero, Nat.add_zero] at c0 c1 c2 c3
    simp only [List.nil_append]
    unfold ShpsF
    exact ⟨f', [], by simp, ⟨na, nc, ba, bc, ka, kc, c0, c1, c2, c3, hn⟩, by unfold ShpsF; rfl⟩
  | x :: l, o, fp, hk, c0, c1, c2, c3, hn => by
    unfold ShpsF at hk
    obtain ⟨f1, f2, rfl, hx, hr⟩ := hk
    have e : o + 4 * (x :: l).length = o + 4 + 4 * l.length := by simp; omega
    rw [e] at c0 c1 c2 c3
    simp only [List.cons_append]
    unfold ShpsF
    exact ⟨f1, f2 ++ f', by simp, hx, ShpsF.snoc hr c0 c1 c2 c3 hn⟩
theorem ShpsF.lay {w : World} {b n : Nat} {l : List Shp} {k : Shp} {fp f' : List Nat} {na : Option Addr} {nc : Nat} {ba : Option Addr} {bc : Nat} {ka : Option Addr} {kc : Nat} (hr : RowIn w b n) (hk : ShpsF w b 0 l fp)
    (hn : ShapeF w k na nc ba bc ka kc f') (hlen : (l.length + 1) * 4 ≤ n) (h1 : b ∉ fp) (h2 : b ∉ f') :
    ShpsF (storeL w b (l.length * 4) (shapeL' k na nc ba bc ka kc)) b 0 (l ++ [k]) (fp ++ f') := by
  have hl : l.length * 4 + (shapeL' k na nc ba bc ka kc).length ≤ n := by show l.length * 4 + 4 ≤ n; omega
  have at' := fun i v h => storeL_at (vs := shapeL' k na nc ba bc ka kc) hr hl i v h
  have other := fun x hx o => storeL_elsewhere b (shapeL' k na nc ba bc ka kc) w (l.length * 4) x o hx
  have e0 : 0 + 4 * l.length = l.length * 4 := by omega
  refine ShpsF.snoc (hk.keep (fun x hx o => other x (fun e => h1 (e ▸ hx)) o) (fun o' _ ho => storeL_below hr hl o' (by omega))) ?_ ?_ ?_ ?_ (hn.keep (fun x hx o => other x (fun e => h2 (e ▸ hx)) o))
  · rw [e0]; exact at' 0 _ rfl
  · rw [e0]; exact at' 1 _ rfl
  · rw [e0]; exact at' 2 _ rfl
  · rw [e0]; exact at' 3 _ rfl
end Go.Proofs.Ytgfnmhfdmmnaoaa
namespace Go.Proofs.Ytgfnmhfdmmnaoaa
open Go Go.RowKit
structure Rep (α : Type) where
  n : Nat
  R : World → (Nat → Prop) → α → List Value → Prop
  F : World → α → List Value → List Nat → Prop
  rlen : ∀ {w S x cs}, R w S x cs → cs.length = n
  flen : ∀ {w x cs fp}, F w x cs fp → cs.length = n
  ext : ∀ {X S : Nat → Prop} {w w' x cs}, Ext X w w' → (∀ k, S k → ¬ X k) → R w S x cs → R w' S x cs
  mono : ∀ {S T : Nat → Prop} {w x cs}, (∀ k, S k → T k) → R w S x cs → R w T x cs
  lt : ∀ {S : Nat → Prop} {w x cs}, R w S x cs → R w (fun k => S k ∧ k < w.heap.size) x cs
  keep : ∀ {w w' x cs fp}, F w x cs fp → (∀ b ∈ fp, ∀ o, w'.cell? ⟨b, o, none⟩ = w.cell? ⟨b, o, none⟩) → F w' x cs fp
  toR : ∀ {S : Nat → Prop} {w x cs fp}, F w x cs fp → (∀ b ∈ fp, S b) → R w S x cs
theorem Rep.grow {α : Type} (E : Rep α) {S : Nat → Prop} {w w' : World} {x : α} {cs : List Value} (h : E.R w S x cs) (hg : Grow w w') : E.R w' S x cs := E.ext hg (fun _ _ h => h) h
section slices
variable {α : Type} (E : Rep α)
variable {E}
end slices
end Go.Proofs.Ytgfnmhfdmmnaoaa
namespace Go.Proofs.Ytgfnmhfdmmnaoaa
open Go.RowKit
def mdig : Nat → List UInt8
  | 0 => []
  | k + 1 => mdig ((k + 1) / 10) ++ dig1 ((k + 1) % 10)
decreasing_by omega
theorem mdig_pos {k : Nat} (h : 0 < k) : mdig k = mdig (k / 10) ++ dig1 (k % 10) := by
  cases k with
  | zero => omega
  | succ k => rw [mdig]
def mtxt (k : Nat) : ByteArray := txt (109 :: mdig k)
theorem txt_append (l m : List UInt8) : txt l ++ txt m = txt (l ++ m) := by
  apply ByteArray.ext
  show ((ByteArray.mk l.toArray) ++ (ByteArray.mk m.toArray)).data = (l ++ m).toArray
  simp
def mkS : Nat → Nat → List ByteArray
  | _, 0 => []
  | k, n + 1 => mtxt k :: mkS (k + 1) n
theorem mkS_len (k n : Nat) : (mkS k n).length = n := by
  induction n generalizing k with
  | zero => rfl
  | succ n ih => simp [mkS, ih]
theorem mkS_get (k n i : Nat) (h : i < (mkS k n).length) : (mkS k n)[i] = mtxt (k + i) := by
  induction n generalizing k i with
  | zero => simp [mkS] at h
  | succ n ih =>
    cases i with
    | zero => simp [mkS]
    | succ i => simp only [mkS, List.getElem_cons_succ]; rw [ih]; congr 1; omega
theorem dig1_size (k : Nat) : (dig1 k).length = 1 := rfl
theorem mdig_len (k : Nat) : (mdig k).length ≤ k := by
  induction k using Nat.strongRecOn with
  | ind k ih =>
    cases k with
    | zero => simp [mdig]
    | succ k =>
      rw [mdig, List.length_append, dig1_size]
      have := ih ((k + 1) / 10) (by omega)
      omega
theorem txt_size (l : List UInt8) : (txt l).size = l.length := by show (txt l).data.size = _; simp [txt]
theorem mtxt_size (k : Nat) (h : k ≤ 1000000000) : (mtxt k).size ≤ big := by
  have h1 : (mtxt k).size = 1 + (mdig k).length := by
    show (txt (109 :: mdig k)).data.size = _
    simp [txt]; omega
  have := mdig_len k
  unfold big; omega
def MtRel (w : World) (k : Nat) (t0 t3 : Value) (wr : World) : Prop := Grow w wr ∧ ∃ (j : Nat) (s : ByteArray) (l : List UInt8), j ≤ k ∧ t0 = .int .i64 (j : Int) ∧ t3 = .string s ∧ s = txt l ∧ mdig k = mdig j ++ l
theorem markText_ok (k : Nat) (w : World) (h1 : 0 < k) (h2 : k ≤ 1000000000) :
    Calls Try.prog 109 #[.int .i64 (k : Int)] w fun e w' => e = .returned (.string (mtxt k)) ∧ Grow w w' := by
  go_enter Try.func109, Try.ntmps109
  go_wp2_with fail
  go_loopw [0, 3] (fun t0 t3 wr => MtRel w k t0 t3 wr) (fun t0 _ _ => (intOf t0).toNat)
  case atStart => exact ⟨Ext.refl _ _, k, _, [], Nat.le_refl _, rfl, rfl, rfl, by simp⟩
  case round =>
    obtain ⟨hg, j, s, l, hj, rfl, rfl, hs, hd⟩ := hrel
    have Hd := Lib.hid hd
    have Hs := Lib.hid hs
    have hsz : s.size ≤ 1000000000 := by
      have e1 := congrArg List.length hd
      rw [List.length_append] at e1
      have e2 := mdig_len k
      rw [hs, txt_size]; omega
    have hz1 : (txt (dig1 (j % 10))).size ≤ 1 := by rw [txt_size]; exact Nat.le_refl _
    clear hd hs
    by_cases h0 : 0 < j
    · have hcv := conv1 (j % 10) (by omega) wr
      rw [show (((j % 10 : Nat)) : Int) = (j : Int) % 10 by omega] at hcv
      go_wp2_with fail
      go_roundw
      case rel => exact ⟨hg.alloc _, j / 10, _, dig1 (j % 10) ++ l, by omega, by go_num, rfl, by rw [← txt_append, Hs.out], by rw [Hd.out, mdig_pos h0]; simp⟩
      case measure => simp [intOf]; omega
    · go_wp2_with fail
      go_ret
      exact ⟨by
        have h2 := Hd.out
        rw [show j = 0 by omega] at h2
        simp only [mdig, List.nil_append] at h2
        rw [mtxt, h2, Hs.out]
        exact congrArg (fun x => Ending.returned (Value.string x)) (txt_append [109] l), hg⟩
end Go.Proofs.Ytgfnmhfdmmnaoaa
namespace Go.Proofs.Ytgfnmhfdmmnaoaa
open Go.RowKit
def inl (fp : List Nat) (k : Nat) : Prop := k ∈ fp
theorem Free.sub {B : Nat} {w w' : World} {fp fx : List Nat} (h : Free B w fp) (he : Ext (inl fx) w w') (hx : ∀ b ∈ fx, ∀ o, w'.frozen? ⟨b, o, none⟩ = false) : Free B w' fp := by
  refine ⟨h.1, fun b hb => ⟨(h.2 b hb).1, Nat.lt_of_lt_of_le (h.2 b hb).2.1 he.size, fun o => ?_⟩⟩
  by_cases hbx : b ∈ fx
  · exact hx b hbx o
  · rw [he.frozen (p := ⟨b, o, none⟩) (h.2 b hb).2.1 hbx]; exact (h.2 b hb).2.2 o
theorem Grow.toX {X : Nat → Prop} {w w' : World} (h : Grow w w') : Ext X w w' := h.mono (fun _ h => False.elim h)
def RowAt (w : World) (b o n : Nat) : Prop := b < w.heap.size ∧ (∀ j, j < n → ∃ u, w.cell? ⟨b, o + j, none⟩ = some u) ∧ ∀ j, w.frozen? ⟨b, j, none⟩ = false
theorem RowAt.ext {X : Nat → Prop} {w w' : World} {b o n : Nat} (h : Ext X w w') (hx : ¬ X b) (hr : RowAt w b o n) : RowAt w' b o n := by
  obtain ⟨h1, h2, h3⟩ := hr
  refine ⟨Nat.lt_of_lt_of_le h1 h.size, fun j hj => ?_, fun j => ?_⟩
  · rw [h.cell (p := ⟨b, o + j, none⟩) h1 hx]; exact h2 j hj
  · rw [h.frozen (p := ⟨b, j, none⟩) h1 hx]; exact h3 j
theorem RowAt.setCell {w : World} {b o n : Nat} (hr : RowAt w b o n) (p : Addr) (v : Value) : RowAt (w.setCell p v) b o n := by
  obtain ⟨h1, h2, h3⟩ := hr
  refine ⟨by rw [size_setCell]; exact h1, fun j hj => cell?_setCell_some (h2 j hj).choose_spec, fun j => ?_⟩
  rw [World.frozen?_setCell]; exact h3 j
theorem markStringS_ok (a : Option Addr) (c : Nat) (xs : List ByteArray) (fp : List Nat) (B k : Nat) (w : World) (hF : StrsF w a c xs fp) (hfr : Free B w fp) (h1 : 0 < k) (h2 : k + xs.length ≤ 1000000000) :
    Calls Try.prog 46 #[.slice a xs.length c, .int .i64 (k : Int)] w fun e w' => e = .returned (.int .i64 ((k + xs.length : Nat) : Int)) ∧ Ext (inl fp) w w' ∧ Free B w' fp ∧ StrsF w' a c (mkS k xs.length) fp := by
  obtain ⟨hle, hlen, hbig, hcc⟩ := hF
  rcases hcc with ⟨rfl, rfl⟩ | ⟨b, o, hne, rfl, rfl, hcc⟩
  · go_enter Try.func46, Try.ntmps46
    go_wp2_with fail
    go_loopw [1, 5] (fun t1 i wr => t1 = .int .i64 k ∧ i = .int .i64 0 ∧ wr = w) (fun _ _ _ => 0)
    case atStart => exact ⟨rfl, rfl, rfl⟩
    case round =>
      obtain ⟨rfl, rfl, rfl⟩ := hrel
      go_wp2_with fail
      go_ret
      exact ⟨by simp, Ext.refl _ _, hfr, ⟨hle, hlen, by simp [mkS], .inl ⟨rfl, rfl⟩⟩⟩
  · have hl : xs.length ≤ 1000000000 := by omega
    have hrow : RowAt w b o xs.length := ⟨(hfr.2 b (by simp)).2.1, fun j hj => ⟨_, hcc j hj⟩, (hfr.2 b (by simp)).2.2⟩
    have Hle := Lib.hid hle
    have Hlen := Lib.hid hlen
    have Hne := Lib.hid hne
    have Hfr := Lib.hid hfr
    clear hle hlen hbig hne hfr hcc
    go_enter Try.func46, Try.ntmps46
    go_wp2_with fail
    go_loopw [1, 5] (fun t1 i wr => ∃ j : Nat, j ≤ xs.length ∧ i = .int .i64 j ∧ t1 = .int .i64 ((k + j : Nat) : Int) ∧ Ext (inl [b]) w wr ∧ RowAt wr b o xs.length ∧ Hid (∀ t, t < j → wr.cell? ⟨b, o + t, none⟩ = some (.string (mtxt (k + t))))) (fun _ i _ => xs.length - (intOf i).toNat)
    case atStart => exact ⟨0, Nat.zero_le _, rfl, rfl, Ext.refl _ _, hrow, Lib.hid (fun t ht => absurd ht (by omega))⟩
    case round =>
      obtain ⟨j, hj, rfl, rfl, hg, hr, Hm⟩ := hrel
      have Hg := Lib.hid hg
      have Hr := Lib.hid hr
      clear hg hr
      by_cases hlt : j < xs.length
      · go_wp2_with fail
        refine (markText_ok (k + j) _ (by omega) (by omega)).mono ?_
        rintro e w2 ⟨rfl, hg2⟩
        have hr2 := Hr.out.ext hg2 (fun h => h)
        have hfz := hr2.2.2
        obtain ⟨u, hu⟩ := hr2.2.1 j hlt
        have Hr2 := Lib.hid hr2
        have Hu := Lib.hid hu
        clear hr2
        go_wp2_with fail
        go_roundw
        case rel =>
          refine ⟨j + 1, by omega, by go_num, by go_num, (Hg.out.trans hg2.toX).setIn (p := ⟨b, o + j, none⟩) (by simp [inl]) _, Hr2.out.setCell _ _, Lib.hid (fun t ht => ?_)⟩
          rw [cell_set Hu.out]
          by_cases e : t = j
          · subst e; rw [if_pos rfl]
          · have hne : ¬ (⟨b, o + t, none⟩ : Addr) = ⟨b, o + j, none⟩ := by intro h'; have := congrArg Addr.off h'; simp at this; exact e this
            rw [if_neg hne]
            exact hg2.some (Hm.out t (by omega))
        case measure => simp [intOf]; omega
      · go_wp2_with fail
        go_ret
        have hx := Hr.out
        refine ⟨by rw [show j = xs.length by omega]; rfl, Hg.out, Hfr.out.sub Hg.out (fun b' hb' o' => by simp at hb'; subst hb'; exact hx.2.2 o'), ?_⟩
        refine ⟨by rw [mkS_len]; exact Hle.out, by rw [mkS_len]; exact Hlen.out, ?_, .inr ⟨b, o, ?_, rfl, rfl, fun i hi => ?_⟩⟩
        · intro x hx
          obtain ⟨i, hi, rfl⟩ := List.getElem_of_mem hx
          rw [mkS_get]; exact mtxt_size _ (by rw [mkS_len] at hi; omega)
        · intro h
          have := congrArg List.length h
          rw [mkS_len] at this
          exact Hne.out (List.length_eq_zero_iff.1 this)
        · rw [mkS_get]; rw [mkS_len] at hi; exact Hm.out i (by omega)
theorem heldStringS_ok (a : Option Addr) (c n k : Nat) (w : World) (ha : StrsR w any a c (mkS k n)) (h1 : 0 < k) (h2 : k + n ≤ 1000000000) :
    Calls Try.prog 47 #[.slice a n c, .int .i64 (k : Int)] w fun e w' => e = .returned (.int .i64 ((k + n : Nat) : Int)) ∧ Grow w w' := by
  have Ha := Lib.hid ha
  clear ha
  go_enter Try.func47, Try.ntmps47
  go_wp2_with fail
  go_loopw [1, 4, 5] (fun t1 t4 i wr => t4 = .int .i64 0 ∧ Grow w wr ∧ ∃ j : Nat, j ≤ n ∧ i = .int .i64 j ∧ t1 = .int .i64 ((k + j : Nat) : Int)) (fun _ _ i _ => n - (intOf i).toNat)
  case atStart => exact ⟨rfl, Ext.refl _ _, 0, Nat.zero_le _, rfl, rfl⟩
  case round =>
    obtain ⟨rfl, hg, j, hj, rfl, rfl⟩ := hrel
    by_cases hlt : j < n
    · obtain ⟨_, _, _, ha4⟩ := (Ha.out).grow hg
      rcases ha4 with hh | ⟨b, o, rfl, _, hca⟩
      · have := congrArg List.length hh; rw [mkS_len] at this; simp at this; omega
      have hx := hca j (by rw [mkS_len]; exact hlt)
      rw [mkS_get] at hx
      clear hca Ha
      go_wp2_with fail
      (refine wp_region_later (by kernel_rfl) (by kernel_rfl) ?_; (repeat (first | go_big_quiet_step ((go_at_call 109; exact later_call (v := .string (mtxt (k + j))) (markText_ok (k + j) _ (by omega) (by omega)))) | quiet_step ((go_at_call 109; exact later_call (v := .string (mtxt (k + j))) (markText_ok (k + j) _ (by omega) (by omega)))))); refine wpQuiet_nil ?_; rintro _ ⟨x_w2, rfl⟩; have hg_w2 := later_grow wr x_w2; generalize later wr x_w2 = w2 at hg_w2 ⊢)
      go_wp2_with fail
      go_roundw
      case rel => exact ⟨rfl, hg.trans hg_w2, j + 1, by omega, by go_num, by go_num⟩
      case measure => simp [intOf]; omega
    · go_wp2_with fail
      go_ret
      exact ⟨by rw [show j = n by omega]; rfl, hg⟩
theorem markText_i (k : Nat) (i : Int) (w : World) (hi : i = (k : Int)) (h1 : 0 < k) (h2 : k ≤ 1000000000) :
    Calls Try.prog 109 #[.int .i64 i] w fun e w' => e = .returned (.string (mtxt k)) ∧ Grow w w' := by
  subst hi; exact markText_ok k w h1 h2
theorem markStringS_i (a : Option Addr) (c : Nat) (xs : List ByteArray) (fp : List Nat) (B k : Nat) (i : Int) (w : World) (hi : i = (k : Int)) (hF : StrsF w a c xs fp) (hfr : Free B w fp) (h1 : 0 < k) (h2 : k + xs.length ≤ 1000000000) :
    Calls Try.prog 46 #[.slice a xs.length c, .int .i64 i] w fun e w' => e = .returned (.int .i64 ((k + xs.length : Nat) : Int)) ∧ Ext (inl fp) w w' ∧ Free B w' fp ∧ StrsF w' a c (mkS k xs.length) fp := by
  subst hi; exact markStringS_ok a c xs fp B k w hF hfr h1 h2
theorem heldStringS_i (a : Option Addr) (c n k : Nat) (i : Int) (w : World) (hi : i = (k : Int)) (ha : StrsR w any a c (mkS k n)) (h1 : 0 < k) (h2 : k + n ≤ 1000000000) :
    Calls Try.prog 47 #[.slice a n c, .int .i64 i] w fun e w' => e = .returned (.int .i64 ((k + n : Nat) : Int)) ∧ Grow w w' := by
  subst hi; exact heldStringS_ok a c n k w ha h1 h2
end Go.Proofs.Ytgfnmhfdmmnaoaa
namespace Go.Proofs.Ytgfnmhfdmmnaoaa
open Go.RowKit
mutual
def cntK : Nd → Nat
  | ⟨_, _, _, names, kids⟩ => 3 + names.length + cntL kids
def cntL : List Nd → Nat
  | [] => 0
  | x :: xs => cntK x + cntL xs
end
mutual
def mkK : Nat → Nd → Nd
  | k, ⟨_, _, _, names, kids⟩ => ⟨k, (k + 1 : Nat), mtxt (k + 2), mkS (k + 3) names.length, mkL (k + 3 + names.length) kids⟩
def mkL : Nat → List Nd → List Nd
  | _, [] => []
  | k, x :: xs => mkK k x :: mkL (k + cntK x) xs
end
theorem cntK_eq (n : Nd) : cntK n = 3 + n.names.length + cntL n.kids := by cases n; simp [cntK]
theorem mkK_eq (k : Nat) (n : Nd) : mkK k n = ⟨k, (k + 1 : Nat), mtxt (k + 2), mkS (k + 3) n.names.length, mkL (k + 3 + n.names.length) n.kids⟩ := by cases n; simp [mkK]
theorem mkL_len (k : Nat) (l : List Nd) : (mkL k l).length = l.length := by
  induction l generalizing k with
  | nil => rfl
  | cons x l ih => simp [mkL, ih]
theorem mkL_snoc (k : Nat) (l : List Nd) (x : Nd) : mkL k (l ++ [x]) = mkL k l ++ [mkK (k + cntL l) x] := by
  induction l generalizing k with
  | nil => simp [mkL, cntL]
  | cons a l ih => simp only [List.cons_append, mkL, ih, cntL]; rw [Nat.add_assoc]
theorem cntL_len (l : List Nd) : l.length ≤ cntL l := by
  induction l with
  | nil => simp
  | cons a l ih => simp only [cntL, List.length_cons, cntK_eq]; omega
theorem cntL_snoc (l : List Nd) (x : Nd) : cntL (l ++ [x]) = cntL l + cntK x := by
  induction l with
  | nil => simp [cntL]
  | cons a l ih => simp only [List.cons_append, cntL, ih]; omega
theorem cntL_take_le (l : List Nd) (j : Nat) : cntL (l.take j) ≤ cntL l := by
  induction l generalizing j with
  | nil => simp
  | cons a l ih => cases j with
    | zero => simp [cntL]
    | succ j => simp only [List.take_succ_cons, cntL]; have := ih j; omega
theorem KidsF.append {w : World} {b : Nat} : ∀ {l m : List Nd} {o : Nat} {f g : List Nat}, KidsF w b o l f → KidsF w b (o + l.length * 5) m g → KidsF w b o (l ++ m) (f ++ g)
  | [], m, o, f, g, h1, h2 => by
    unfold KidsF at h1; subst h1; simpa using h2
  | x :: l, m, o, f, g, h1, h2 => by
    unfold KidsF at h1
    obtain ⟨f1, f2, rfl, hx, hr⟩ := h1
    rw [List.cons_append]; unfold KidsF
    refine ⟨f1, f2 ++ g, by simp, hx, KidsF.append hr ?_⟩
    rw [show o + 5 + l.length * 5 = o + (x :: l).length * 5 by simp; omega]
    exact h2
theorem KidsF.split {w : World} {b : Nat} : ∀ {l m : List Nd} {o : Nat} {fp : List Nat}, KidsF w b o (l ++ m) fp → ∃ f g, fp = f ++ g ∧ KidsF w b o l f ∧ KidsF w b (o + l.length * 5) m g
  | [], m, o, fp, h => ⟨[], fp, rfl, by unfold KidsF; rfl, by simpa using h⟩
  | x :: l, m, o, fp, h => by
    rw [List.cons_append] at h; unfold KidsF at h
    obtain ⟨f1, f2, rfl, hx, hr⟩ := h
    obtain ⟨f, g, rfl, h1, h2⟩ := KidsF.split hr
    rw [show o + 5 + l.length * 5 = o + (x :: l).length * 5 by simp; omega] at h2
    exact ⟨f1 ++ f, g, by simp, by unfold KidsF; exact ⟨f1, f, rfl, hx, h1⟩, h2⟩
theorem set_ne (w : World) (b p b' q : Nat) (v : Value) (h : b' ≠ b ∨ q ≠ p) : (w.setCell ⟨b, p, none⟩ v).cell? ⟨b', q, none⟩ = w.cell? ⟨b', q, none⟩ :=
  World.cell?_setCell_other _ _ _ _ (by intro e; cases e; rcases h with h | h <;> exact h rfl)
def MkOk (n : Nd) : Prop := ∀ (a : Option Addr) (c : Nat) (fp : List Nat) (B k : Nat) (w : World), NodesF w a c n.kids fp → Free B w fp → 0 < k → k + cntL n.kids ≤ 1000000000 →
    Calls Try.prog 77 #[.slice a n.kids.length c, .int .i64 (k : Int)] w fun e w' => e = .returned (.int .i64 ((k + cntL n.kids : Nat) : Int)) ∧ Ext (inl fp) w w' ∧ Free B w' fp ∧ NodesF w' a c (mkL k n.kids) fp
theorem markNodeS_of (l : List Nd) (ih : ∀ x ∈ l, MkOk x) (a : Option Addr) (c : Nat) (fp : List Nat) (B k : Nat) (w : World) (hF : NodesF w a c l fp) (hfr : Free B w fp) (h1 : 0 < k) (h2 : k + cntL l ≤ 1000000000) (hl : l.length ≤ 1000000000) :
    Calls Try.prog 77 #[.slice a l.length c, .int .i64 (k : Int)] w fun e w' => e = .returned (.int .i64 ((k + cntL l : Nat) : Int)) ∧ Ext (inl fp) w w' ∧ Free B w' fp ∧ NodesF w' a c (mkL k l) fp := by
  obtain ⟨hle, hlen, hcc⟩ := hF
  rcases hcc with ⟨rfl, rfl⟩ | ⟨b, o, f, hne, rfl, rfl, hcc⟩
  · go_enter Try.func77, Try.ntmps77
    go_wp2_with fail
    go_loopw [1, 5] (fun t1 i wr => t1 = .int .i64 k ∧ i = .int .i64 0 ∧ wr = w) (fun _ _ _ => 0)
    case atStart => exact ⟨rfl, rfl, rfl⟩
    case round =>
      obtain ⟨rfl, rfl, rfl⟩ := hrel
      go_wp2_with fail
      go_ret
      exact ⟨by simp [cntL], Ext.refl _ _, hfr, ⟨by simp [mkL], by simp [mkL], .inl ⟨rfl, rfl⟩⟩⟩
  · have Hle := Lib.hid hle
    have Hlen := Lib.hid hlen
    have Hne := Lib.hid hne
    have Ih := Lib.hid ih
    have hK0 : KidsF w b o (mkL k (l.take 0) ++ l.drop 0) f := by simpa [mkL] using hcc
    clear hle hlen hne hcc ih
    go_enter Try.func77, Try.ntmps77
    go_wp2_with fail
    go_loopw [1, 5] (fun t1 i wr => ∃ j : Nat, j ≤ l.length ∧ i = .int .i64 j ∧ t1 = .int .i64 ((k + cntL (l.take j) : Nat) : Int) ∧ Ext (inl (b :: f)) w wr ∧ Free B wr (b :: f) ∧ KidsF wr b o (mkL k (l.take j) ++ l.drop j) f) (fun _ i _ => l.length - (intOf i).toNat)
    case atStart => exact ⟨0, Nat.zero_le _, rfl, rfl, Ext.refl _ _, hfr, hK0⟩
    case round =>
      obtain ⟨j, hj, rfl, rfl, hg, hfr', hK⟩ := hrel
      have hct := cntL_take_le l j
      have Hg := Lib.hid hg
      have Hfr := Lib.hid hfr'
      have HK := Lib.hid hK
      clear hg hfr' hK hfr hK0
      by_cases hlt : j < l.length
      · obtain ⟨x, hx⟩ : ∃ x, x = l[j] := ⟨_, rfl⟩
        have hxm : x ∈ l := by rw [hx]; exact List.getElem_mem hlt
        have htk : l.take (j + 1) = l.take j ++ [x] := by rw [take_snoc' _ _ hlt, hx]
        have hct2 := cntL_take_le l (j + 1)
        rw [htk, cntL_snoc, cntK_eq] at hct2
        have hdr : l.drop j = x :: l.drop (j + 1) := by rw [drop_cons _ _ hlt, hx]
        have hK := HK.out
        rw [hdr] at hK
        obtain ⟨f1, f', hf, hK1, hK2⟩ := hK.split
        have hjl : (mkL k (l.take j)).length = j := by rw [mkL_len]; simp; omega
        rw [hjl] at hK2
        unfold KidsF at hK2
        obtain ⟨fx, f2, hf', ⟨na, nc, ka, kc, c0, c1, c2, c3, c4, hx5⟩, hK3⟩ := hK2
        obtain ⟨g1, g2, hfx, htx, hnm, hkd⟩ := hx5.parts
        obtain ⟨k', hk'⟩ : ∃ k', k' = k + cntL (l.take j) := ⟨_, rfl⟩
        have hb9 : k' + (3 + x.names.length + cntL x.kids) ≤ 1000000000 := by omega
        rw [← hk']
        clear hct2 hct
        have hfz := (Hfr.out.2 b (by simp)).2.2
        have hnd := Hfr.out.1
        rw [hf, hf', hfx] at hnd
        replace hnd := (List.nodup_cons.1 hnd).2
        have hnl : x.names.length ≤ 1000000000 := by omega
        have Hf := Lib.hid hf
        have Hf' := Lib.hid hf'
        have Hfx := Lib.hid hfx
        have HK1 := Lib.hid hK1
        have HK3 := Lib.hid hK3
        have Hnm := Lib.hid hnm
        have Hkd := Lib.hid hkd
        have Htk := Lib.hid htk
        have Hk' := Lib.hid hk'
        have Hnd := Lib.hid hnd
        have C0 := Lib.hid c0
        have C1 := Lib.hid c1
        have C2 := Lib.hid c2
        have C3 := Lib.hid c3
        have C4 := Lib.hid c4
        clear hx hdr hK hf hK1 hf' hK3 hfx htx hnm hkd hx5 htk hk' hnd HK hjl
        have hbw : b < wr.heap.size := lt_of_cell c0
        have hbf : b ∉ f := (List.nodup_cons.1 Hfr.out.1).1
        have hg1f : ∀ y ∈ g1, y ∈ f := fun y hy => by rw [Hf.out, Hf'.out, Hfx.out]; simp [hy]
        have hg2f : ∀ y ∈ g2, y ∈ f := fun y hy => by rw [Hf.out, Hf'.out, Hfx.out]; simp [hy]
        have hf1f : ∀ y ∈ f1, y ∈ f := fun y hy => by rw [Hf.out]; simp [hy]
        have hf2f : ∀ y ∈ f2, y ∈ f := fun y hy => by rw [Hf.out, Hf'.out]; simp [hy]
        have hnd1 : ∀ y, y ∈ f1 → y ∉ g1 ∧ y ∉ g2 := fun y hy => by
          have := (List.nodup_append.1 Hnd.out).2.2 y hy
          exact ⟨fun h => this y (by simp [h]) rfl, fun h => this y (by simp [h]) rfl⟩
        have hnd2 : ∀ y, y ∈ f2 → y ∉ g1 ∧ y ∉ g2 := fun y hy => by
          have h3 := (List.nodup_append.1 (List.nodup_append.1 Hnd.out).2.1).2.2
          exact ⟨fun h => h3 y (by simp [h]) y hy rfl, fun h => h3 y (by simp [h]) y hy rfl⟩
        have hndg : ∀ y, y ∈ g2 → y ∉ g1 := fun y hy h => (List.nodup_append.1 (List.nodup_append.1 (List.nodup_append.1 Hnd.out).2.1).1).2.2 y h y hy rfl
        have hg1n : g1.Nodup := (List.nodup_append.1 (List.nodup_append.1 (List.nodup_append.1 Hnd.out).2.1).1).1
        have hg2n : g2.Nodup := (List.nodup_append.1 (List.nodup_append.1 (List.nodup_append.1 Hnd.out).2.1).1).2.1
        have Hbf := Lib.hid hbf
        have Hg1f := Lib.hid hg1f
        have Hg2f := Lib.hid hg2f
        have Hf1f := Lib.hid hf1f
        have Hf2f := Lib.hid hf2f
        have Hnd1 := Lib.hid hnd1
        have Hnd2 := Lib.hid hnd2
        have Hndg := Lib.hid hndg
        have Hg1n := Lib.hid hg1n
        have Hg2n := Lib.hid hg2n
        have Hhxm := Lib.hid hxm
        clear hbf hg1f hg2f hf1f hf2f hnd1 hnd2 hndg hg1n hg2n hxm
        go_wp2_with fail
        refine (markText_i (k' + 2) _ _ (by omega) (by omega) (by omega)).mono ?_
        rintro e w2 ⟨rfl, hg2⟩
        obtain ⟨wa, hwa⟩ : ∃ wa, wa = (wr.setCell ⟨b, o + j * 5, none⟩ (.int .i64 k')).setCell ⟨b, o + j * 5 + 1, none⟩ (.int .i64 ((k' : Int) + 1)) := ⟨_, rfl⟩
        rw [← hwa] at hg2
        have hra : Ext (inl [b]) wr wa := by
          rw [hwa]
          exact (Ext.setIn (X := inl [b]) (Ext.refl _ wr) (p := ⟨b, o + j * 5, none⟩) (by simp [inl]) _).setIn (p := ⟨b, o + j * 5 + 1, none⟩) (by simp [inl]) _
        have a0 : wa.cell? ⟨b, o + j * 5, none⟩ = some (.int .i64 k') := by
          rw [hwa, set_ne _ _ _ _ _ _ (.inr (by omega)), cell_set C0.out, if_pos rfl]
        have a1 : wa.cell? ⟨b, o + j * 5 + 1, none⟩ = some (.int .i64 ((k' : Int) + 1)) := by
          rw [hwa]
          have : (wr.setCell ⟨b, o + j * 5, none⟩ (.int .i64 k')).cell? ⟨b, o + j * 5 + 1, none⟩ = some (.int .i64 x.num) := by rw [set_ne _ _ _ _ _ _ (.inr (by omega))]; exact C1.out
          rw [cell_set this, if_pos rfl]
        have lba : b < wa.heap.size := lt_of_cell a0
        have aq : ∀ q, q ≠ o + j * 5 → q ≠ o + j * 5 + 1 → wa.cell? ⟨b, q, none⟩ = wr.cell? ⟨b, q, none⟩ := fun q q0 q1 => by
          rw [hwa, set_ne _ _ _ _ _ _ (.inr q1), set_ne _ _ _ _ _ _ (.inr q0)]
        have az : ∀ q, wa.frozen? ⟨b, q, none⟩ = false := fun q => by
          rw [hwa, World.frozen?_setCell, World.frozen?_setCell]; exact hfz q
        have h2a := hg2.some a0
        have h2b := hg2.some a1
        have d2 : w2.cell? ⟨b, o + j * 5 + 2, none⟩ = some (.string x.text) := hg2.some (by rw [aq _ (by omega) (by omega)]; exact C2.out)
        have d3 : w2.cell? ⟨b, o + j * 5 + 3, none⟩ = some (.slice na x.names.length nc) := hg2.some (by rw [aq _ (by omega) (by omega)]; exact C3.out)
        have d4 : w2.cell? ⟨b, o + j * 5 + 4, none⟩ = some (.slice ka x.kids.length kc) := hg2.some (by rw [aq _ (by omega) (by omega)]; exact C4.out)
        have dz : ∀ q, w2.frozen? ⟨b, q, none⟩ = false := fun q => by rw [hg2.frozen (p := ⟨b, q, none⟩) lba (fun h => h)]; exact az q
        have hr2 : Ext (inl [b]) wr w2 := hra.trans hg2.toX
        have hq2 : ∀ q, q ≠ o + j * 5 → q ≠ o + j * 5 + 1 → w2.cell? ⟨b, q, none⟩ = wr.cell? ⟨b, q, none⟩ := fun q q0 q1 => by
          rw [hg2.cell (p := ⟨b, q, none⟩) lba (fun h => h)]; exact aq q q0 q1
        have H2a := Lib.hid h2a
        have H2b := Lib.hid h2b
        have D2 := Lib.hid d2
        have D3 := Lib.hid d3
        have D4 := Lib.hid d4
        have Hr2 := Lib.hid hr2
        have Hq2 := Lib.hid hq2
        have Dz := Lib.hid dz
        clear lba hwa hra a0 a1 aq az h2a h2b hg2 hr2 hq2 hfz d4 c0 c1 c2 c3 c4
        go_wp2_with fail
        obtain ⟨wb, hwb⟩ : ∃ wb, wb = w2.setCell ⟨b, o + j * 5 + 2, none⟩ (.string (mtxt (k' + 2))) := ⟨_, rfl⟩
        rw [← hwb]
        have hrb : Ext (inl [b]) wr wb := by rw [hwb]; exact Hr2.out.setIn (p := ⟨b, o + j * 5 + 2, none⟩) (by simp [inl]) _
        have Hrb := Lib.hid hrb
        have fr1 : Free B wr g1 := ⟨Hg1n.out, fun y hy => Hfr.out.2 y (by simp [Hg1f.out y hy])⟩
        have fr2 : Free B wr g2 := ⟨Hg2n.out, fun y hy => Hfr.out.2 y (by simp [Hg2f.out y hy])⟩
        have n1 : ∀ y ∈ g1, ¬ inl [b] y := fun y hy h => by simp [inl] at h; subst h; exact Hbf.out (Hg1f.out _ hy)
        have n2 : ∀ y ∈ g2, ¬ inl [b] y := fun y hy h => by simp [inl] at h; subst h; exact Hbf.out (Hg2f.out _ hy)
        refine (markStringS_i na nc x.names g1 B (k' + 3) _ wb (by omega) (Hnm.out.keep (hrb.keeps fr1 n1)) (fr1.ext hrb n1) (by omega) (by omega)).mono ?_
        rintro e w3 ⟨rfl, hg3, hfr3, hs3⟩
        have b4 : wb.cell? ⟨b, o + j * 5 + 4, none⟩ = some (.slice ka x.kids.length kc) := by rw [hwb, set_ne _ _ _ _ _ _ (.inr (by omega))]; exact D4.out
        have hb1 : ¬ inl g1 b := fun h => Hbf.out (Hg1f.out _ h)
        have e4 := hg3.some b4 hb1
        have Hg3 := Lib.hid hg3
        have Hfr3 := Lib.hid hfr3
        have Hs3 := Lib.hid hs3
        have Hwb := Lib.hid hwb
        have Hb4 := Lib.hid b4
        have Hb1 := Lib.hid hb1
        have Fr1 := Lib.hid fr1
        have Fr2 := Lib.hid fr2
        have N1 := Lib.hid n1
        have N2 := Lib.hid n2
        clear hrb fr1 fr2 n1 n2 hg3 hfr3 hs3 hwb b4 hb1 d2 d3 dz
        go_wp2_with fail
        have hr3 : Ext (inl (b :: g1)) wr w3 := (Hrb.out.mono (fun y hy => by simp [inl] at hy ⊢; exact .inl hy)).trans (Hg3.out.mono (fun y hy => by simp [inl] at hy ⊢; exact .inr hy))
        have m2 : ∀ y ∈ g2, ¬ inl (b :: g1) y := fun y hy h => by
          simp [inl] at h
          rcases h with h | h
          · subst h; exact Hbf.out (Hg2f.out _ hy)
          · exact Hndg.out y hy h
        refine (Ih.out x Hhxm.out ka kc g2 B (k' + 3 + x.names.length) w3 ?_ (Fr2.out.ext hr3 m2) (by omega) (by omega)).mono ?_
        · obtain ⟨t1, t2, t3⟩ := Hkd.out
          refine ⟨t1, t2, t3.imp id ?_⟩
          rintro ⟨bb, oo, ff, u1, u2, u3, u4⟩
          have kk := hr3.keeps Fr2.out m2
          exact ⟨bb, oo, ff, u1, u2, u3, u4.keep (fun y hy => kk y (by rw [u3]; simp [hy])) (fun o' _ _ => kk bb (by rw [u3]; simp) o')⟩
        rintro e w4 ⟨rfl, hg4, hfr4, hs4⟩
        have Hr3 := Lib.hid hr3
        have M2 := Lib.hid m2
        have Hg4 := Lib.hid hg4
        have Hfr4 := Lib.hid hfr4
        have Hs4 := Lib.hid hs4
        clear hr3 m2 hg4 hfr4 hs4 e4
        go_wp2_with fail
        go_roundw
        case rel =>
          have hb2 : ¬ inl g2 b := fun h => Hbf.out (Hg2f.out _ h)
          have hr4 : Ext (inl (b :: (g1 ++ g2))) wr w4 := (Hr3.out.mono (fun y hy => by simp [inl] at hy ⊢; rcases hy with h | h; exact .inl h; exact .inr (.inl h))).trans (Hg4.out.mono (fun y hy => by simp [inl] at hy ⊢; exact .inr (.inr hy)))
          have q4 : ∀ q, w4.cell? ⟨b, q, none⟩ = wb.cell? ⟨b, q, none⟩ := fun q => by
            have l1 : b < wb.heap.size := lt_of_cell Hb4.out
            rw [Hg4.out.cell (p := ⟨b, q, none⟩) (Nat.lt_of_lt_of_le l1 Hg3.out.size) hb2, Hg3.out.cell (p := ⟨b, q, none⟩) l1 Hb1.out]
          have qb : ∀ q, q ≠ o + j * 5 + 2 → wb.cell? ⟨b, q, none⟩ = w2.cell? ⟨b, q, none⟩ := fun q h => by rw [Hwb.out, set_ne _ _ _ _ _ _ (.inr h)]
          have z4 : ∀ q, w4.frozen? ⟨b, q, none⟩ = false := fun q => by
            have l1 : b < wb.heap.size := lt_of_cell Hb4.out
            rw [Hg4.out.frozen (p := ⟨b, q, none⟩) (Nat.lt_of_lt_of_le l1 Hg3.out.size) hb2, Hg3.out.frozen (p := ⟨b, q, none⟩) l1 Hb1.out, Hwb.out, World.frozen?_setCell]
            exact Dz.out q
          have hE : Ext (inl (b :: f)) w w4 := Hg.out.trans (hr4.mono (fun y hy => by
            simp [inl] at hy ⊢
            rcases hy with h | h | h
            · exact .inl h
            · exact .inr (Hg1f.out _ h)
            · exact .inr (Hg2f.out _ h)))
          have hFree : Free B w4 (b :: f) := by
            refine Hfr.out.sub hr4 (fun y hy q => ?_)
            rcases List.mem_cons.1 hy with rfl | hy
            · exact z4 q
            · rcases List.mem_append.1 hy with h | h
              · have := (Hfr3.out.2 y h).2
                rw [Hg4.out.frozen (p := ⟨y, q, none⟩) this.1 (fun h' => Hndg.out y h' h)]
                exact this.2 q
              · exact (Hfr4.out.2 y h).2.2 q
          refine ⟨j + 1, by omega, by go_num, ?_, hE, hFree, ?_⟩
          · rw [Htk.out, cntL_snoc, cntK_eq, Hk'.out]
            congr 1
            have := Hk'.out
            omega
          · rw [Htk.out, mkL_snoc, ← Hk'.out, Hf.out, Hf'.out, List.append_assoc]
            have keepF : ∀ y, y ∉ g1 → y ∉ g2 → y ∈ f → ∀ q, w4.cell? ⟨y, q, none⟩ = wr.cell? ⟨y, q, none⟩ := fun y y1 y2 yf q => by
              refine hr4.cell (p := ⟨y, q, none⟩) (Hfr.out.2 y (by simp [yf])).2.1 (fun h => ?_)
              simp [inl] at h
              rcases h with h | h | h
              · subst h; exact Hbf.out yf
              · exact y1 h
              · exact y2 h
            have hjl : (mkL k (l.take j)).length = j := by rw [mkL_len]; simp; omega
            refine KidsF.append (HK1.out.keep (fun y hy q => keepF y (Hnd1.out y hy).1 (Hnd1.out y hy).2 (Hf1f.out y hy) q) (fun q _ hq => ?_)) ?_
            · rw [hjl] at hq
              rw [q4, qb _ (by omega)]
              exact Hq2.out q (by omega) (by omega)
            · rw [hjl]
              show KidsF w4 b (o + j * 5) (mkK k' x :: l.drop (j + 1)) (fx ++ f2)
              unfold KidsF
              refine ⟨fx, f2, rfl, ⟨na, nc, ka, kc, ?_, ?_, ?_, ?_, ?_, ?_⟩, HK3.out.keep (fun y hy q => keepF y (Hnd2.out y hy).1 (Hnd2.out y hy).2 (Hf2f.out y hy) q) (fun q hq _ => ?_)⟩
              · rw [q4, qb _ (by omega), H2a.out, mkK_eq]
              · rw [q4, qb _ (by omega), H2b.out, mkK_eq]; rfl
              · rw [q4, Hwb.out, cell_set D2.out, if_pos rfl, mkK_eq]
              · rw [q4, qb _ (by omega), D3.out, mkK_eq, mkS_len]
              · rw [q4, Hb4.out, mkK_eq, mkL_len]
              · rw [Hfx.out, mkK_eq]
                refine NodeF.mk (mtxt_size _ (by omega)) (Hs3.out.keep (fun y hy q => ?_)) Hs4.out
                exact Hg4.out.cell (p := ⟨y, q, none⟩) (Hfr3.out.2 y hy).2.1 (fun h => Hndg.out y h hy)
              · rw [q4, qb _ (by omega)]
                exact Hq2.out q (by omega) (by omega)
        case measure => simp [intOf]; omega
      · have hje : j = l.length := by omega
        subst hje
        have hK := HK.out
        rw [List.take_length, List.drop_length, List.append_nil] at hK
        have HK2 := Lib.hid hK
        clear hK
        simp only [List.take_length]
        go_wp2_with fail
        go_ret
        refine ⟨by simp, Hg.out, Hfr.out, ⟨by rw [mkL_len]; exact Hle.out, by rw [mkL_len]; exact Hlen.out, .inr ⟨b, o, f, ?_, rfl, rfl, HK2.out⟩⟩⟩
        intro h
        have := congrArg List.length h
        rw [mkL_len] at this
        exact Hne.out (List.length_eq_zero_iff.1 this)
theorem markNodeS_all : ∀ n, MkOk n := by
  refine Nd.ind' MkOk ?_
  intro n ih a c fp B k w hF hfr h1 h2
  exact markNodeS_of n.kids ih a c fp B k w hF hfr h1 h2 (by have := cntL_len n.kids; omega)
theorem markNodeS_ok (l : List Nd) (a : Option Addr) (c : Nat) (fp : List Nat) (B k : Nat) (i : Int) (w : World) (hi : i = (k : Int)) (hF : NodesF w a c l fp) (hfr : Free B w fp) (h1 : 0 < k) (h2 : k + cntL l ≤ 1000000000) :
    Calls Try.prog 77 #[.slice a l.length c, .int .i64 i] w fun e w' => e = .returned (.int .i64 ((k + cntL l : Nat) : Int)) ∧ Ext (inl fp) w w' ∧ Free B w' fp ∧ NodesF w' a c (mkL k l) fp := by
  subst hi
  exact markNodeS_of l (fun x _ => markNodeS_all x) a c fp B k w hF hfr h1 h2 (by have := cntL_len l; omega)
end Go.Proofs.Ytgfnmhfdmmnaoaa
namespace Go.Proofs.Ytgfnmhfdmmnaoaa
open Go.RowKit
def cntT (n : Nd) : Nat := n.names.length + cntL n.kids
def mkT (k : Nat) (n : Nd) : Nd := ⟨n.kind, n.num, n.text, mkS k n.names.length, mkL (k + n.names.length) n.kids⟩
end Go.Proofs.Ytgfnmhfdmmnaoaa
namespace Go.Proofs.Ytgfnmhfdmmnaoaa
open Go Go.RowKit
def NCells (w : World) (S : Nat → Prop) : List Nd → List Value → Prop
  | [], cs => cs = []
  | n :: l, cs => ∃ na nc ka kc cs', cs = nodeL n na nc ka kc ++ cs' ∧ NodeC w S n na nc ka kc ∧ NCells w S l cs'
theorem NCells.len {w : World} {S : Nat → Prop} : ∀ {l : List Nd} {cs : List Value}, NCells w S l cs → cs.length = l.length * 5
  | [], cs, h => by cases h; rfl
  | n :: l, cs, h => by
    obtain ⟨na, nc, ka, kc, cs', rfl, _, h⟩ := h
    rw [List.length_append, NCells.len h]; simp [nodeL, Nat.succ_mul]; omega
theorem NCells.append {w : World} {S : Nat → Prop} : ∀ {l m : List Nd} {cs ds : List Value}, NCells w S l cs → NCells w S m ds → NCells w S (l ++ m) (cs ++ ds)
  | [], m, cs, ds, h, k => by cases h; exact k
  | n :: l, m, cs, ds, h, k => by
    obtain ⟨na, nc, ka, kc, cs', rfl, hn, h⟩ := h
    exact ⟨na, nc, ka, kc, cs' ++ ds, by simp, hn, NCells.append h k⟩
theorem NCells.ext {X S : Nat → Prop} {w w' : World} (he : Ext X w w') (hS : ∀ k, S k → ¬ X k) : ∀ {l : List Nd} {cs : List Value}, NCells w S l cs → NCells w' S l cs
  | [], cs, h => h
  | n :: l, cs, h => by
    obtain ⟨na, nc, ka, kc, cs', rfl, hn, h⟩ := h
    exact ⟨na, nc, ka, kc, cs', rfl, hn.ext he hS, NCells.ext he hS h⟩
theorem NCells.mono {S T : Nat → Prop} {w : World} (hS : ∀ k, S k → T k) : ∀ {l : List Nd} {cs : List Value}, NCells w S l cs → NCells w T l cs
  | [], cs, h => h
  | n :: l, cs, h => by
    obtain ⟨na, nc, ka, kc, cs', rfl, hn, h⟩ := h
    exact ⟨na, nc, ka, kc, cs', rfl, hn.mono hS, NCells.mono hS h⟩
theorem NCells.one {w : World} {S : Nat → Prop} {n : Nd} {na : Option Addr} {nc : Nat} {ka : Option Addr} {kc : Nat} (h : NodeC w S n na nc ka kc) : NCells w S [n] (nodeL n na nc ka kc) :=
  ⟨na, nc, ka, kc, [], by simp, h, rfl⟩
theorem NCells.kids {w : World} {S : Nat → Prop} {b : Nat} : ∀ {l : List Nd} {cs : List Value} {o : Nat}, NCells w S l cs → (∀ i v, cs[i]? = some v → w.cell? ⟨b, o + i, none⟩ = some v) → KidsR w S b o l
  | [], _, _, _, _ => by unfold KidsR; trivial
  | n :: l, cs, o, h, hc => by
    obtain ⟨na, nc, ka, kc, cs', rfl, hn, h⟩ := h
    unfold KidsR
    refine ⟨⟨na, nc, ka, kc, hc 0 _ rfl, hc 1 _ rfl, hc 2 _ rfl, hc 3 _ rfl, hc 4 _ rfl, hn⟩, NCells.kids h (fun i v hi => ?_)⟩
    have := hc (5 + i) v (by rw [List.getElem?_append_right (by simp [nodeL])]; simpa [nodeL] using hi)
    rw [show o + (5 + i) = o + 5 + i by omega] at this
    exact this
theorem KidsR.cells {w : World} {S : Nat → Prop} {b : Nat} : ∀ {l : List Nd} {o : Nat}, KidsR w S b o l → ∃ cs, NCells w S l cs ∧ ∀ i v, cs[i]? = some v → w.cell? ⟨b, o + i, none⟩ = some v
  | [], _, _ => ⟨[], rfl, fun i v h => by simp at h⟩
  | n :: l, o, h => by
    unfold KidsR at h
    obtain ⟨⟨na, nc, ka, kc, c0, c1, c2, c3, c4, hn⟩, hr⟩ := h
    obtain ⟨cs, h1, h2⟩ := hr.cells
    refine ⟨nodeL n na nc ka kc ++ cs, ⟨na, nc, ka, kc, cs, rfl, hn, h1⟩, fun i v hi => ?_⟩
    match i, hi with
    | 0, hi => simp [nodeL] at hi; subst hi; exact c0
    | 1, hi => simp [nodeL] at hi; subst hi; exact c1
    | 2, hi => simp [nodeL] at hi; subst hi; exact c2
    | 3, hi => simp [nodeL] at hi; subst hi; exact c3
    | 4, hi => simp [nodeL] at hi; subst hi; exact c4
    | i + 5, hi =>
      have := h2 i v (by simpa [nodeL] using hi)
      rw [show o + (i + 5) = o + 5 + i by omega]
      exact this
end Go.Proofs.Ytgfnmhfdmmnaoaa
namespace Go.Proofs.Ytgfnmhfdmmnaoaa
open Go Go.RowKit
def Src (w : World) (y : Option Addr) (m : Nat) (news : List Value) : Prop := (m = 0 ∧ news = []) ∨ ∃ ad, y = some ad ∧ ∀ j u, news[j]? = some u → w.cell? (ad.add j) = some u
theorem Src.grow {w w' : World} {y : Option Addr} {m : Nat} {news : List Value} (h : Src w y m news) (hg : Grow w w') : Src w' y m news :=
  h.imp id (fun ⟨ad, hy, hc⟩ => ⟨ad, hy, fun j u hj => hg.some (hc j u hj)⟩)
def offRow (B : Nat) (v : Value) (k : Nat) : Prop := B ≤ k ∧ v.ownBlock ≠ some k
theorem grownBy_ext {w w' : World} {v : Value} (h : w.grownBy w' v.ownBlock) : Ext (fun k => v.ownBlock = some k) w w' :=
  ⟨h.os, h.tape, h.output, h.size, fun k hk hx => h.block k hk (fun e => hx e.symm)⟩
theorem NCells.grown {w w' : World} {B : Nat} {v v' : Value} {l : List Nd} {cs : List Value} (hlt : NCells w (fun k => offRow B v k ∧ k < w.heap.size) l cs) (hg : w.grownBy w' v.ownBlock) (hv : v'.ownBlock = v.ownBlock ∨ v'.ownBlock = some w.heap.size) :
    NCells w' (offRow B v') l cs := by
  have h1 := hlt.ext (grownBy_ext hg) (fun k hk hx => hk.1.2 hx)
  refine h1.mono (fun k hk => ⟨hk.1.1, fun e => ?_⟩)
  rcases hv with hv | hv
  · rw [hv] at e; exact hk.1.2 e
  · rw [hv] at e; cases e; exact Nat.lt_irrefl _ hk.2
theorem StrsR.lt {S : Nat → Prop} {w : World} {a : Option Addr} {c : Nat} {xs : List ByteArray} (h : StrsR w S a c xs) : StrsR w (fun k => S k ∧ k < w.heap.size) a c xs := by
  obtain ⟨h1, h2, h3, h4⟩ := h
  refine ⟨h1, h2, h3, ?_⟩
  rcases Nat.eq_zero_or_pos xs.length with hl | hl
  · exact .inl (List.length_eq_zero_iff.1 hl)
  rcases h4 with h4 | ⟨b, o, rfl, hb, hc⟩
  · exact .inl h4
  · exact .inr ⟨b, o, rfl, ⟨hb, lt_of_cell (hc 0 hl)⟩, hc⟩
mutual
theorem NodeC.lt {S : Nat → Prop} {w : World} : ∀ {n : Nd} {na : Option Addr} {nc : Nat} {ka : Option Addr} {kc : Nat}, NodeC w S n na nc ka kc → NodeC w (fun k => S k ∧ k < w.heap.size) n na nc ka kc
  | ⟨_, _, _, _, kids⟩, na, nc, ka, kc, h => by
    unfold NodeC at h ⊢
    obtain ⟨h1, h2, h3, h4, h5⟩ := h
    refine ⟨h1, h2.lt, h3, h4, ?_⟩
    rcases h5 with h5 | ⟨b, o, rfl, hb, hk⟩
    · exact .inl h5
    · cases kids with
      | nil => exact .inl rfl
      | cons k ks =>
        refine .inr ⟨b, o, rfl, ⟨hb, ?_⟩, KidsR.lt hk⟩
        unfold KidsR at hk
        obtain ⟨⟨_, _, _, _, c0, _⟩, _⟩ := hk
        exact lt_of_cell c0
theorem KidsR.lt {S : Nat → Prop} {w : World} {b : Nat} : ∀ {l : List Nd} {o : Nat}, KidsR w S b o l → KidsR w (fun k => S k ∧ k < w.heap.size) b o l
  | [], _, _ => by unfold KidsR; trivial
  | k :: ks, o, h => by
    unfold KidsR at h ⊢
    obtain ⟨⟨na, nc, ka, kc, c0, c1, c2, c3, c4, hn⟩, hr⟩ := h
    exact ⟨⟨na, nc, ka, kc, c0, c1, c2, c3, c4, hn.lt⟩, KidsR.lt hr⟩
end
theorem NCells.lt {S : Nat → Prop} {w : World} : ∀ {l : List Nd} {cs : List Value}, NCells w S l cs → NCells w (fun k => S k ∧ k < w.heap.size) l cs
  | [], cs, h => h
  | n :: l, cs, h => by
    obtain ⟨na, nc, ka, kc, cs', rfl, hn, h⟩ := h
    exact ⟨na, nc, ka, kc, cs', rfl, hn.lt, NCells.lt h⟩
theorem BoxN.grown {w w' : World} {b : Nat} {cs : List Value} {v : Value} (h : BoxN w b cs) (hg : w.grownBy w' v.ownBlock) (hb : ∀ k, v.ownBlock = some k → b < k) : BoxN w' b cs :=
  h.ext (grownBy_ext hg) (fun e => by have := hb _ e; omega)
end Go.Proofs.Ytgfnmhfdmmnaoaa
namespace Go.Proofs.Ytgfnmhfdmmnaoaa
open Go Go.RowKit
theorem Grow.toX' {X : Nat → Prop} {w w' : World} (h : Grow w w') : Ext X w w' := h.mono (fun _ h => False.elim h)
theorem Free.app2 {B : Nat} {w : World} {f g : List Nat} (hf : Free B w f) (hg : Free B w g) (hd : ∀ a, a ∈ f → a ∈ g → False) : Free B w (f ++ g) :=
  ⟨List.nodup_append.2 ⟨hf.1, hg.1, fun a ha b hb e => by subst e; exact hd a ha hb⟩, fun b hb => by
    rcases List.mem_append.1 hb with h | h
    · exact hf.2 b h
    · exact hg.2 b h⟩
def nodeRep : Rep Nd where
  n := 5
  R := fun w S x cs => ∃ na nc ka kc, cs = nodeL x na nc ka kc ∧ NodeC w S x na nc ka kc
  F := fun w x cs fp => ∃ na nc ka kc, cs = nodeL x na nc ka kc ∧ NodeF w x na nc ka kc fp
  rlen := by rintro w S x cs ⟨na, nc, ka, kc, rfl, _⟩; rfl
  flen := by rintro w x cs fp ⟨na, nc, ka, kc, rfl, _⟩; rfl
  ext := by rintro X S w w' x cs h hS ⟨na, nc, ka, kc, rfl, hn⟩; exact ⟨na, nc, ka, kc, rfl, hn.ext h hS⟩
  mono := by rintro S T w x cs h ⟨na, nc, ka, kc, rfl, hn⟩; exact ⟨na, nc, ka, kc, rfl, hn.mono h⟩
  lt := by rintro S w x cs ⟨na, nc, ka, kc, rfl, hn⟩; exact ⟨na, nc, ka, kc, rfl, hn.lt⟩
  keep := by rintro w w' x cs fp ⟨na, nc, ka, kc, rfl, hn⟩ h; exact ⟨na, nc, ka, kc, rfl, hn.keep h⟩
  toR := by rintro S w x cs fp ⟨na, nc, ka, kc, rfl, hn⟩ h; exact ⟨na, nc, ka, kc, rfl, hn.toC h⟩
def strsRep : Rep (List ByteArray) where
  n := 1
  R := fun w S x cs => ∃ a c, cs = [.slice a x.length c] ∧ StrsR w S a c x
  F := fun w x cs fp => ∃ a c, cs = [.slice a x.length c] ∧ StrsF w a c x fp
  rlen := by rintro w S x cs ⟨a, c, rfl, _⟩; rfl
  flen := by rintro w x cs fp ⟨a, c, rfl, _⟩; rfl
  ext := by rintro X S w w' x cs h hS ⟨a, c, rfl, hn⟩; exact ⟨a, c, rfl, hn.ext h hS⟩
  mono := by rintro S T w x cs h ⟨a, c, rfl, hn⟩; exact ⟨a, c, rfl, hn.mono h⟩
  lt := by rintro S w x cs ⟨a, c, rfl, hn⟩; exact ⟨a, c, rfl, hn.lt⟩
  keep := by rintro w w' x cs fp ⟨a, c, rfl, hn⟩ h; exact ⟨a, c, rfl, hn.keep h⟩
  toR := by rintro S w x cs fp ⟨a, c, rfl, hn⟩ h; exact ⟨a, c, rfl, hn.toR h⟩
end Go.Proofs.Ytgfnmhfdmmnaoaa
namespace Go.Proofs.Ytgfnmhfdmmnaoaa
open Go Go.RowKit
section rows
variable {α : Type} {E : Rep α}
end rows
theorem NodesF.keep' {w w' : World} {a : Option Addr} {c : Nat} {l : List Nd} {fp : List Nat} (hs : NodesF w a c l fp) (h : ∀ b ∈ fp, ∀ o, w'.cell? ⟨b, o, none⟩ = w.cell? ⟨b, o, none⟩) : NodesF w' a c l fp := hs.keep h
end Go.Proofs.Ytgfnmhfdmmnaoaa
namespace Go.Proofs.Ytgfnmhfdmmnaoaa
open Go.RowKit
theorem markNode_ok (n : Nd) (na : Option Addr) (nc : Nat) (ka : Option Addr) (kc : Nat) (fp : List Nat) (B k : Nat) (i : Int) (w : World) (hi : i = (k : Int)) (hF : NodeF w n na nc ka kc fp) (hfr : Free B w fp) (h1 : 0 < k) (h2 : k + cntT n ≤ 1000000000) :
    Calls Try.prog 26 #[nodeV n na nc ka kc, .int .i64 i] w fun e w' => e = .returned (.int .i64 ((k + cntT n : Nat) : Int)) ∧ Ext (inl fp) w w' ∧ Free B w' fp ∧ NodeF w' (mkT k n) na nc ka kc fp := by
  subst hi
  obtain ⟨f1, f2, rfl, htx, hs, hk⟩ := hF.parts
  have hct : cntT n = n.names.length + cntL n.kids := rfl
  have hnd := List.nodup_append.1 hfr.1
  have hf1 : Free B w f1 := ⟨hnd.1, fun y hy => hfr.2 y (by simp [hy])⟩
  have hf2 : Free B w f2 := ⟨hnd.2.1, fun y hy => hfr.2 y (by simp [hy])⟩
  have hd : ∀ y, y ∈ f1 → y ∈ f2 → False := fun y h1 h2 => hnd.2.2 y h1 y h2 rfl
  have Hct := Lib.hid hct
  have Hs := Lib.hid hs
  have Hk := Lib.hid hk
  have Htx := Lib.hid htx
  have Hf1 := Lib.hid hf1
  have Hf2 := Lib.hid hf2
  have Hd := Lib.hid hd
  have Hfr := Lib.hid hfr
  clear hct hs hk htx hf1 hf2 hd hnd hF hfr
  unfold nodeV
  go_enter Try.func26, Try.ntmps26
  go_wp2_with fail
  have hga : Grow w (w.alloc (.cells #[.int .i64 n.kind, .int .i64 n.num, .string n.text, .slice na n.names.length nc, .slice ka n.kids.length kc] 30)) := (Ext.refl nil w).alloc _
  have hB0 := BoxN.new w (nodeL n na nc ka kc) 30
  have hlt : ∀ y ∈ f1 ++ f2, y < w.heap.size := fun y hy => (Hfr.out.2 y hy).2.1
  have Hlt := Lib.hid hlt
  have HB0 := Lib.hid hB0
  clear hlt hB0
  refine (markStringS_i na nc n.names f1 B k _ _ rfl (Hs.out.keep (hga.keeps Hf1.out (fun _ _ h => h))) (Hf1.out.ext hga (fun _ _ h => h)) (by omega) (by have := Hct.out; omega)).mono ?_
  rintro e w2 ⟨rfl, hx2, hfr2, hF2⟩
  have B2 := HB0.out.ext hx2 (fun h => by have := Hlt.out _ (List.mem_append_left f2 h); omega)
  have p4 := B2.cell 4 _ rfl
  have hk2 := Hk.out.keep' (w' := w2) (fun y hy o => by rw [hx2.cell (p := ⟨y, o, none⟩) (by have := Hlt.out y (by simp [hy]); simp; omega) (fun h => Hd.out y h hy)]; exact hga.cell (p := ⟨y, o, none⟩) (Hlt.out y (by simp [hy])) (fun h => h))
  have hf22 := (Hf2.out.ext hga (fun _ _ h => h)).ext hx2 (fun y hy h => Hd.out y h hy)
  have Hx2 := Lib.hid (hga.toX'.trans (hx2.mono (Y := inl (f1 ++ f2)) (fun y hy => List.mem_append_left f2 hy)))
  have Hk2 := Lib.hid hk2
  have Hf22 := Lib.hid hf22
  have Hfr2 := Lib.hid hfr2
  have HF2 := Lib.hid hF2
  clear hx2 hfr2 hF2 hk2 hf22 B2 hga
  go_wp2_with fail
  refine (markNodeS_ok n.kids ka kc f2 B (k + n.names.length) _ _ (by omega) Hk2.out Hf22.out (by omega) (by have := Hct.out; omega)).mono ?_
  rintro e w3 ⟨rfl, hx3, hfr3, hF3⟩
  have hs3 := HF2.out.keep (w' := w3) (fun y hy o => hx3.cell (p := ⟨y, o, none⟩) (Hfr2.out.2 y hy).2.1 (fun h => Hd.out y hy h))
  have hfr13 := Hfr2.out.ext hx3 (fun y hy h => Hd.out y hy h)
  have Hres : Hid (Ext (inl (f1 ++ f2)) w w3 ∧ Free B w3 (f1 ++ f2) ∧ NodeF w3 (mkT k n) na nc ka kc (f1 ++ f2)) := Lib.hid ⟨Hx2.out.trans (hx3.mono (fun y hy => List.mem_append_right f1 hy)), hfr13.app2 hfr3 Hd.out, by
    unfold mkT NodeF
    obtain ⟨q1, q2, q3⟩ := hF3
    refine ⟨f1, f2, rfl, Htx.out, hs3, q1, q2, ?_⟩
    rcases q3 with ⟨h, h'⟩ | ⟨b, o, f3, q4, q5, q6, q7⟩
    · exact .inl ⟨h, h'⟩
    · exact .inr ⟨b, o, f3, q4, q5, q6, q7⟩⟩
  clear hx3 hfr3 hF3 hs3 hfr13
  go_wp2_with fail
  go_ret
  exact ⟨by rw [Hct.out]; simp; omega, Hres.out⟩
end Go.Proofs.Ytgfnmhfdmmnaoaa
namespace Go.Proofs.Ytgfnmhfdmmnaoaa
open Go.RowKit
abbrev Ent := Nd × ByteArray
end Go.Proofs.Ytgfnmhfdmmnaoaa
namespace Go.Proofs.Ytgfnmhfdmmnaoaa
open Go.RowKit
end Go.Proofs.Ytgfnmhfdmmnaoaa
namespace Go.Proofs.Ytgfnmhfdmmnaoaa
open Go.RowKit
end Go.Proofs.Ytgfnmhfdmmnaoaa
namespace Go.Proofs.Ytgfnmhfdmmnaoaa
open Go.RowKit
def frB (lo hi : Nd) (e : Ent) : Bool := decide (cmpN lo e.1 ≤ 0) && decide (cmpN e.1 hi ≤ 0)
end Go.Proofs.Ytgfnmhfdmmnaoaa
namespace Go.Proofs.Ytgfnmhfdmmnaoaa
open Go.RowKit
mutual
theorem cntK_le : ∀ n : Nd, cntK n ≤ 3 + 3 * costN n
  | ⟨_, _, text, names, kids⟩ => by
    have h := cntL_le kids
    have h2 : names.length ≤ costS names := by simp [costS]
    simp only [cntK, costN]; omega
theorem cntL_le : ∀ l : List Nd, cntL l ≤ 3 * costL l
  | [] => by simp [cntL]
  | k :: ks => by
    have h1 := cntK_le k
    have h2 := cntL_le ks
    simp only [cntL, costL]; omega
end
theorem cntT_le (n : Nd) : cntT n ≤ 3 * costN n := by
  have := cntK_le n
  rw [cntK_eq] at this; unfold cntT; omega
def Seg (A Z : Nat) (w : World) (fp : List Nat) : Prop := Free A w fp ∧ ∀ y ∈ fp, y < Z
theorem Seg.of {A : Nat} {w : World} {fp : List Nat} (h : Free A w fp) : Seg A w.heap.size w fp := ⟨h, fun y hy => (h.2 y hy).2.1⟩
theorem Seg.grow {A Z : Nat} {w w' : World} {fp : List Nat} (h : Seg A Z w fp) (hg : Grow w w') : Seg A Z w' fp := ⟨h.1.ext hg (fun _ _ h => h), h.2⟩
theorem Seg.off {A Z A' Z' : Nat} {w w0 : World} {fp fx : List Nat} (h : Seg A Z w fp) (hx : Seg A' Z' w0 fx) (hd : Z ≤ A' ∨ Z' ≤ A) : ∀ y ∈ fp, ¬ inl fx y := fun y hy h2 => by
  have h3 := h.2 y hy
  have h4 := (h.1.2 y hy).1
  have h5 := hx.2 y h2
  have h6 := (hx.1.2 y h2).1
  omega
theorem Seg.ext {A Z A' Z' : Nat} {w w' w0 : World} {fp fx : List Nat} (h : Seg A Z w fp) (hx : Seg A' Z' w0 fx) (hd : Z ≤ A' ∨ Z' ≤ A) (he : Ext (inl fx) w w') : Seg A Z w' fp := ⟨h.1.ext he (h.off hx hd), h.2⟩
theorem Seg.keeps {A Z A' Z' : Nat} {w w' w0 : World} {fp fx : List Nat} (h : Seg A Z w fp) (hx : Seg A' Z' w0 fx) (hd : Z ≤ A' ∨ Z' ≤ A) (he : Ext (inl fx) w w') : ∀ b ∈ fp, ∀ o, w'.cell? ⟨b, o, none⟩ = w.cell? ⟨b, o, none⟩ := he.keeps h.1 (h.off hx hd)
theorem Seg.marked {A Z : Nat} {w w' : World} {fp : List Nat} (h : Seg A Z w fp) (h' : Free A w' fp) : Seg A Z w' fp := ⟨h', h.2⟩
theorem Seg.inner {A Z : Nat} {w0 w w' : World} {fp : List Nat} (h : Seg A Z w fp) (hg : Grow w0 w) (he : Ext (inl fp) w w') (hA : w0.heap.size ≤ A) : Grow w0 w' :=
  hg.inner he (fun i hi => Nat.le_trans hA (h.1.2 i hi).1)
theorem Seg.box {A Z b : Nat} {w0 w w' : World} {fp : List Nat} {cs : List Value} (h : Seg A Z w0 fp) (hB : BoxN w b cs) (he : Ext (inl fp) w w') (hd : b < A ∨ Z ≤ b) : BoxN w' b cs :=
  hB.ext he (fun hi => by have h3 := h.2 b hi; have h4 := (h.1.2 b hi).1; omega)
theorem Seg.below {A Z : Nat} {w0 w w' : World} {fp : List Nat} {a : Option Addr} {c Y : Nat} {xs : List ByteArray} (h : Seg A Z w0 fp) (hs : StrsR w (fun k => k < Y) a c xs) (he : Ext (inl fp) w w') (hd : Y ≤ A) : StrsR w' (fun k => k < Y) a c xs :=
  hs.ext he (fun k hk hi => by have h4 := (h.1.2 k hi).1; omega)
theorem StrsR.under {S : Nat → Prop} {w : World} {a : Option Addr} {c : Nat} {xs : List ByteArray} (h : StrsR w S a c xs) : StrsR w (fun k => k < w.heap.size) a c xs := h.lt.mono (fun _ h => h.2)
end Go.Proofs.Ytgfnmhfdmmnaoaa
namespace Go.Proofs.Ytgfnmhfdmmnaoaa
open Go.RowKit
def packA (cs : List Value) : Value := .agg cs.toArray
def packO (cs : List Value) : Value := cs.headD undef
def RV {α : Type} (E : Rep α) (pk : List Value → Value) (w : World) (S : Nat → Prop) (x : α) (v : Value) : Prop := ∃ cs, v = pk cs ∧ E.R w S x cs
def FV {α : Type} (E : Rep α) (pk : List Value → Value) (w : World) (x : α) (v : Value) (fp : List Nat) : Prop := ∃ cs, v = pk cs ∧ E.F w x cs fp
section
variable {α : Type} {E : Rep α} {pk : List Value → Value}
theorem RV.ext {X S : Nat → Prop} {w w' : World} {x : α} {v : Value} (h : RV E pk w S x v) (he : Ext X w w') (hS : ∀ k, S k → ¬ X k) : RV E pk w' S x v := by
  obtain ⟨cs, hv, hc⟩ := h; exact ⟨cs, hv, E.ext he hS hc⟩
theorem RV.grow {S : Nat → Prop} {w w' : World} {x : α} {v : Value} (h : RV E pk w S x v) (hg : Grow w w') : RV E pk w' S x v := h.ext hg (fun _ _ h => h)
theorem RV.mono {S T : Nat → Prop} {w : World} {x : α} {v : Value} (h : RV E pk w S x v) (hS : ∀ k, S k → T k) : RV E pk w T x v := by
  obtain ⟨cs, hv, hc⟩ := h; exact ⟨cs, hv, E.mono hS hc⟩
theorem RV.any {S : Nat → Prop} {w : World} {x : α} {v : Value} (h : RV E pk w S x v) : RV E pk w any x v := h.mono (fun _ _ => trivial)
theorem RV.under {S : Nat → Prop} {w : World} {x : α} {v : Value} (h : RV E pk w S x v) : RV E pk w (fun k => k < w.heap.size) x v := by
  obtain ⟨cs, hv, hc⟩ := h; exact ⟨cs, hv, E.mono (fun _ h => h.2) (E.lt hc)⟩
theorem FV.keep {w w' : World} {x : α} {v : Value} {fp : List Nat} (h : FV E pk w x v fp) (hk : ∀ b ∈ fp, ∀ o, w'.cell? ⟨b, o, none⟩ = w.cell? ⟨b, o, none⟩) : FV E pk w' x v fp := by
  obtain ⟨cs, hv, hc⟩ := h; exact ⟨cs, hv, E.keep hc hk⟩
theorem FV.rv {w : World} {x : α} {v : Value} {fp : List Nat} (h : FV E pk w x v fp) : RV E pk w Go.Proofs.Ytgfnmhfdmmnaoaa.any x v := by
  obtain ⟨cs, hv, hc⟩ := h; exact ⟨cs, hv, E.toR hc (fun _ _ => trivial)⟩
theorem FV.grow {w w' : World} {x : α} {v : Value} {fp : List Nat} {A Z : Nat} (h : FV E pk w x v fp) (hs : Seg A Z w fp) (hg : Grow w w') : FV E pk w' x v fp := h.keep (hg.keeps hs.1 (fun _ _ h => h))
theorem Seg.rv {A Z Y : Nat} {w0 w w' : World} {fp : List Nat} {x : α} {v : Value} (h : Seg A Z w0 fp) (hs : RV E pk w (fun k => k < Y) x v) (he : Ext (inl fp) w w') (hd : Y ≤ A) : RV E pk w' (fun k => k < Y) x v :=
  hs.ext he (fun k hk hi => by have h4 := (h.1.2 k hi).1; omega)
end
theorem strs_open {w : World} {S : Nat → Prop} {x : List ByteArray} {v : Value} (h : RV strsRep packO w S x v) : ∃ a c, v = .slice a x.length c ∧ StrsR w S a c x := by
  obtain ⟨cs, rfl, a, c, rfl, hs⟩ := h; exact ⟨a, c, rfl, hs⟩
theorem strs_shut {w : World} {S : Nat → Prop} {x : List ByteArray} {a : Option Addr} {c : Nat} (h : StrsR w S a c x) : RV strsRep packO w S x (.slice a x.length c) := ⟨_, rfl, a, c, rfl, h⟩
theorem strs_shutF {w : World} {x : List ByteArray} {a : Option Addr} {c : Nat} {fp : List Nat} (h : StrsF w a c x fp) : FV strsRep packO w x (.slice a x.length c) fp := ⟨_, rfl, a, c, rfl, h⟩
def cntS (x : List ByteArray) : Nat := x.length
def mkSS (k : Nat) (x : List ByteArray) : List ByteArray := mkS k x.length
theorem uEqS (x : List ByteArray) (v u : Value) (w : World) (h : RV strsRep packO w any x v) (h' : RV strsRep packO w any x u) :
    Calls Try.prog 43 #[v, u] w fun e w' => e = .returned (.bool true) ∧ Grow w w' := by
  obtain ⟨a, c, rfl, hs⟩ := strs_open h
  obtain ⟨a', c', rfl, hs'⟩ := strs_open h'
  exact (eqStringS_ok _ _ _ _ x x w hs hs').mono fun e w' ⟨he, hg⟩ => ⟨by rw [he]; simp [eqS], hg⟩
theorem uMarkS (x : List ByteArray) (v : Value) (fp : List Nat) (B k : Nat) (i : Int) (w : World) (hi : i = (k : Int)) (hF : FV strsRep packO w x v fp) (hfr : Free B w fp) (h1 : 0 < k) (h2 : k + cntS x ≤ 1000000000) :
    Calls Try.prog 46 #[v, .int .i64 i] w fun e w' => e = .returned (.int .i64 ((k + cntS x : Nat) : Int)) ∧ Ext (inl fp) w w' ∧ Free B w' fp ∧ FV strsRep packO w' (mkSS k x) v fp := by
  obtain ⟨cs, rfl, a, c, rfl, hs⟩ := hF
  exact (markStringS_i a c x fp B k i w hi hs hfr h1 h2).mono fun e w' ⟨he, hx, hf, hF⟩ => ⟨he, hx, hf, by
    have := strs_shutF hF
    unfold mkSS
    rw [mkS_len] at this
    exact this⟩
theorem uHeldS (x : List ByteArray) (v : Value) (k : Nat) (i : Int) (w : World) (hi : i = (k : Int)) (h : RV strsRep packO w any (mkSS k x) v) (h1 : 0 < k) (h2 : k + cntS x ≤ 1000000000) :
    Calls Try.prog 47 #[v, .int .i64 i] w fun e w' => e = .returned (.int .i64 ((k + cntS x : Nat) : Int)) ∧ Grow w w' := by
  obtain ⟨a, c, rfl, hs⟩ := strs_open h
  unfold mkSS at hs ⊢
  rw [mkS_len]
  exact heldStringS_i a c x.length k i w hi hs h1 h2
theorem node_open {w : World} {S : Nat → Prop} {x : Nd} {v : Value} (h : RV nodeRep packA w S x v) : NodeR w S x v := by
  obtain ⟨cs, rfl, na, nc, ka, kc, rfl, hs⟩ := h; exact ⟨na, nc, ka, kc, rfl, hs⟩
theorem node_shut {w : World} {S : Nat → Prop} {x : Nd} {v : Value} (h : NodeR w S x v) : RV nodeRep packA w S x v := by
  obtain ⟨na, nc, ka, kc, rfl, hs⟩ := h; exact ⟨_, rfl, na, nc, ka, kc, rfl, hs⟩
theorem uSzN (x : Nd) (v : Value) (left : Int) (w : World) (h0 : 0 ≤ left) (h1 : left ≤ 1048576) (h : RV nodeRep packA w any x v) :
    Calls Try.prog 29 #[v, .int .i64 left] w fun e w' => e = .returned (.int .i64 (szR (costN x) left)) ∧ Grow w w' := szNode_ok x v left w h0 h1 (node_open h)
theorem uToN (x : Nd) (v : Value) (w : World) (hc : costN x ≤ 1048576) (h : RV nodeRep packA w any x v) :
    Calls Try.prog 32 #[v] w fun e w' => ∃ v' fp, e = .returned v' ∧ Grow w w' ∧ FV nodeRep packA w' x v' fp ∧ Free w.heap.size w' fp :=
  (toNode_ok x v w hc (node_open h)).mono fun e w' ⟨v', fp, he, hg, ⟨na, nc, ka, kc, hv, hF⟩, hfr⟩ => ⟨v', fp, he, hg, ⟨_, hv, na, nc, ka, kc, rfl, hF⟩, hfr⟩
theorem uEqN (x : Nd) (v u : Value) (w : World) (h : RV nodeRep packA w any x v) (h' : RV nodeRep packA w any x u) :
    Calls Try.prog 23 #[v, u] w fun e w' => e = .returned (.bool true) ∧ Grow w w' :=
  (eqNode_ok x x v u w (node_open h) (node_open h')).mono fun e w' ⟨he, hg⟩ => ⟨by rw [he, eqN_refl], hg⟩
theorem uMarkN (x : Nd) (v : Value) (fp : List Nat) (B k : Nat) (i : Int) (w : World) (hi : i = (k : Int)) (hF : FV nodeRep packA w x v fp) (hfr : Free B w fp) (h1 : 0 < k) (h2 : k + cntT x ≤ 1000000000) :
    Calls Try.prog 26 #[v, .int .i64 i] w fun e w' => e = .returned (.int .i64 ((k + cntT x : Nat) : Int)) ∧ Ext (inl fp) w w' ∧ Free B w' fp ∧ FV nodeRep packA w' (mkT k x) v fp := by
  obtain ⟨cs, rfl, na, nc, ka, kc, rfl, hs⟩ := hF
  refine (markNode_ok x na nc ka kc fp B k i w hi hs hfr h1 h2).mono fun e w' ⟨he, hx, hf, hF⟩ => ⟨he, hx, hf, _, rfl, na, nc, ka, kc, ?_, hF⟩
  unfold nodeL mkT
  simp only [mkS_len, mkL_len]
end Go.Proofs.Ytgfnmhfdmmnaoaa
namespace Go.Proofs.Ytgfnmhfdmmnaoaa
open Go.RowKit
mutual
def costP : Shp → Nat
  | ⟨_, names, needs, kids⟩ => costS names + needs.length + costPL kids
def costPL : List Shp → Nat
  | [] => 0
  | k :: ks => 1 + costP k + costPL ks
end
theorem costP_eq (n : Shp) : costP n = costS n.names + n.needs.length + costPL n.kids := by cases n; simp [costP]
theorem costPL_len (l : List Shp) : l.length ≤ costPL l := by
  induction l with
  | nil => simp
  | cons a l ih => simp [costPL]; omega
theorem costPL_get (l : List Shp) (k : Nat) (h : k < l.length) : costP l[k] ≤ costPL l := by
  induction l generalizing k with
  | nil => simp at h
  | cons a l ih => cases k with
    | zero => simp [costPL]; omega
    | succ k => have := ih k (by simpa using h); simp [costPL]; omega
def sumP (l : List Shp) : Nat := (l.map costP).sum
theorem sumP_snoc (xs : List Shp) (x : Shp) : sumP (xs ++ [x]) = sumP xs + costP x := by simp [sumP]
theorem sumP_take (xs : List Shp) (k : Nat) : sumP (xs.take k) ≤ sumP xs := by
  unfold sumP; rw [List.map_take]; exact sum_take_le _ _
theorem costPL_eq (l : List Shp) : costPL l = l.length + sumP l := by
  induction l with
  | nil => simp [costPL, sumP]
  | cons a l ih => simp only [costPL, ih, sumP, List.map_cons, List.sum_cons, List.length_cons]; omega
def ShpLR (w : World) (S : Nat → Prop) (a : Option Addr) (c : Nat) (l : List Shp) : Prop :=
  l.length ≤ c ∧ l.length ≤ big ∧ (l = [] ∨ ∃ b o, a = some ⟨b, o, none⟩ ∧ S b ∧ ShpsR w S b o l)
theorem ShpLR.grow {S : Nat → Prop} {w w' : World} {a : Option Addr} {c : Nat} {l : List Shp} (hs : ShpLR w S a c l) (h : Grow w w') : ShpLR w' S a c l := by
  obtain ⟨h1, h2, h4⟩ := hs
  refine ⟨h1, h2, h4.imp id ?_⟩
  rintro ⟨b, o, rfl, hb, hc⟩
  exact ⟨b, o, rfl, hb, hc.ext h (fun _ _ h => h) (fun h => h)⟩
theorem BoolsR.grow {S : Nat → Prop} {w w' : World} {a : Option Addr} {c : Nat} {xs : List Bool} (hs : BoolsR w S a c xs) (h : Grow w w') : BoolsR w' S a c xs := hs.ext h (fun _ _ h => h)
theorem ShapeC.parts' {w : World} {S : Nat → Prop} {n : Shp} {na : Option Addr} {nc : Nat} {ba : Option Addr} {bc : Nat} {ka : Option Addr} {kc : Nat} (h : ShapeC w S n na nc ba bc ka kc) :
    StrsR w S na nc n.names ∧ BoolsR w S ba bc n.needs ∧ ShpLR w S ka kc n.kids := h.parts
theorem szBoolS_ok (a : Option Addr) (c : Nat) (n : Nat) (left : Int) (w : World) (hn : n ≤ 9223372036854775807) (h0 : 0 ≤ left) (h1 : left ≤ 1048576) :
    Calls Try.prog 100 #[.slice a n c, .int .i64 left] w fun e w' => e = .returned (.int .i64 (szR n left)) ∧ Grow w w' := by
  by_cases hl : left < (n : Int)
  · have Hf := Lib.hid (szR_neg (c := n) (left := left) hl)
    go_enter Try.func100, Try.ntmps100
    go_wp2
    go_ret
    exact ⟨by rw [Hf.out]; simp, Ext.refl _ _⟩
  · have Hf := Lib.hid (szR_pos (c := n) (left := left) (by omega))
    go_enter Try.func100, Try.ntmps100
    go_wp2
    go_ret
    exact ⟨by rw [Hf.out]; simp, Ext.refl _ _⟩
def SzPOk (n : Shp) : Prop := ∀ (v : Value) (left : Int) (w : World), 0 ≤ left → left ≤ 1048576 → ShapeR w any n v →
    Calls Try.prog 40 #[v, .int .i64 left] w fun e w' => e = .returned (.int .i64 (szR (costP n) left)) ∧ Grow w w'
theorem szShapeS_of (l : List Shp) (ih : ∀ k ∈ l, SzPOk k) (a : Option Addr) (c : Nat) (left : Int) (w : World) (hn : ShpLR w any a c l) (h0 : 0 ≤ left) (h1 : left ≤ 1048576) :
    Calls Try.prog 101 #[.slice a l.length c, .int .i64 left] w fun e w' => e = .returned (.int .i64 (szR (costPL l) left)) ∧ Grow w w' := by
  have hbig : l.length ≤ 9223372036854775807 := hn.2.1
  have Hn := Lib.hid hn
  have Ih := Lib.hid ih
  clear hn ih
  by_cases hl : left < (l.length : Int)
  · have Hf := Lib.hid (szR_neg (c := costPL l) (left := left) (by rw [costPL_eq]; omega))
    go_enter Try.func101, Try.ntmps101
    go_wp2
    go_ret
    exact ⟨by rw [Hf.out]; simp, Ext.refl _ _⟩
  · go_enter Try.func101, Try.ntmps101
    go_wp2
    go_loopw [1, 5] (fun t i wr => Grow w wr ∧ ∃ (k : Nat) (r : Int), k ≤ l.length ∧ i = .int .i64 k ∧ t = .int .i64 r ∧ 0 ≤ r ∧ r ≤ 1048576 ∧ Hid (r = left - l.length - sumP (l.take k))) (fun _ i _ => l.length - (intOf i).toNat)
    case atStart => exact ⟨Ext.refl _ _, 0, _, Nat.zero_le _, rfl, rfl, by omega, by omega, Lib.hid (by simp [sumP])⟩
    case round =>
      obtain ⟨hg, k, r, hk, rfl, rfl, hr0, hr1, Hr⟩ := hrel
      have hst := sumP_take l k
      by_cases hlt : k < l.length
      · obtain ⟨_, _, hks⟩ := (Hn.out).grow hg
        rcases hks with hks | ⟨bk, ok, rfl, _, hkr⟩
        · simp [hks] at hlt
        obtain ⟨na', nc', ba', bc', ka', kc', c0, c1, c2, c3, hkc⟩ := hkr.get k hlt
        have Hkc : Hid (ShapeR wr any l[k] (shapeV l[k] na' nc' ba' bc' ka' kc')) := Lib.hid ⟨_, _, _, _, _, _, rfl, hkc⟩
        have hst2 := sumP_take l (k + 1)
        rw [take_snoc' _ _ hlt, sumP_snoc] at hst2
        clear hkr hkc
        by_cases hneg : r < (costP l[k] : Int)
        · have Hf : Hid (szR (costPL l) left = -1) := Lib.hid (szR_neg (by rw [costPL_eq]; have := Hr.out; omega))
          have Hs := Lib.hid (szR_neg hneg)
          go_wp2_with (go_at_call 40; refine (Ih.out _ (List.getElem_mem hlt) _ _ _ hr0 hr1 Hkc.out).mono ?_; rintro e w2 ⟨rfl, hg2⟩; simp only [Hs.out])
          go_ret
          exact ⟨by simp [Hf.out], hg.trans hg2⟩
        · have Hs := Lib.hid (szR_pos (c := costP l[k]) (left := r) (by omega))
          go_wp2_with (go_at_call 40; refine (Ih.out _ (List.getElem_mem hlt) _ _ _ hr0 hr1 Hkc.out).mono ?_; rintro e w2 ⟨rfl, hg2⟩; simp only [Hs.out])
          go_roundw
          case rel => exact ⟨hg.trans hg2, k + 1, _, by omega, by go_num, rfl, by omega, by omega, Lib.hid (by rw [take_snoc' _ _ hlt, sumP_snoc, Hr.out]; omega)⟩
          case measure => simp [intOf]; omega
      · have hke : k = l.length := by omega
        have Hf : Hid (szR (costPL l) left = r) := Lib.hid (by
          have h2 := Hr.out
          rw [hke, List.take_length] at h2
          rw [szR_pos (by rw [costPL_eq]; omega), costPL_eq]; omega)
        have Hke := Lib.hid hke
        clear hke
        go_wp2
        go_ret
        exact ⟨by simp [Hf.out], hg⟩
theorem szShape_ok : ∀ n, SzPOk n := by
  refine Shp.ind' SzPOk ?_
  intro n ih v left w h0 h1 hn
  obtain ⟨na, nc, ba, bc, ka, kc, rfl, hc⟩ := hn
  obtain ⟨hns, hbs, hks⟩ := hc.parts'
  have hbl : n.needs.length ≤ 9223372036854775807 := hbs.2.1
  have Hns := Lib.hid hns
  have Hks := Lib.hid hks
  have Ih := Lib.hid ih
  have hce := costP_eq n
  have Hce := Lib.hid hce
  clear hns hks hc hbs ih hce
  unfold shapeV at *
  by_cases a1 : left < (costS n.names : Int)
  · have Hf := Lib.hid (szR_neg (c := costP n) (left := left) (by have := Hce.out; omega))
    have Hs := Lib.hid (szR_neg a1)
    go_enter Try.func40, Try.ntmps40
    go_wp2_with (go_at_call 66; refine (szStringS_ok _ _ _ _ _ (Hns.out.grow (by repeat (first | with_reducible exact Ext.refl _ _ | with_reducible refine Ext.trans ?_ (by assumption) | with_reducible refine Ext.drew ?_ | with_reducible refine Ext.drewN ?_ _ | with_reducible refine Ext.alloc ?_ _ | with_reducible refine Ext.setNew ?_ (by simp; done) _ | with_reducible refine Ext.setNew ?_ (by simp; omega) _))) (by omega) (by omega)).mono ?_; rintro e w2 ⟨rfl, hg2⟩; simp only [Hs.out])
    go_ret
    exact ⟨by simp [Hf.out], (by repeat (first | with_reducible exact Ext.refl _ _ | with_reducible refine Ext.trans ?_ (by assumption) | with_reducible refine Ext.drew ?_ | with_reducible refine Ext.drewN ?_ _ | with_reducible refine Ext.alloc ?_ _ | with_reducible refine Ext.setNew ?_ (by simp; done) _ | with_reducible refine Ext.setNew ?_ (by simp; omega) _))⟩
  have Hs := Lib.hid (szR_pos (c := costS n.names) (left := left) (by omega))
  by_cases a2 : left - costS n.names < (n.needs.length : Int)
  · have Hf := Lib.hid (szR_neg (c := costP n) (left := left) (by have := Hce.out; omega))
    have Hs2 := Lib.hid (szR_neg a2)
    go_enter Try.func40, Try.ntmps40
    go_wp2_with (first | (go_at_call 66; refine (szStringS_ok _ _ _ _ _ (Hns.out.grow (by repeat (first | with_reducible exact Ext.refl _ _ | with_reducible refine Ext.trans ?_ (by assumption) | with_reducible refine Ext.drew ?_ | with_reducible refine Ext.drewN ?_ _ | with_reducible refine Ext.alloc ?_ _ | with_reducible refine Ext.setNew ?_ (by simp; done) _ | with_reducible refine Ext.setNew ?_ (by simp; omega) _))) (by omega) (by omega)).mono ?_; rintro e w2 ⟨rfl, hg2⟩; simp only [Hs.out]; have hcc := bcell hg2) | (go_at_call 100; refine (szBoolS_ok _ _ _ _ _ hbl (by omega) (by omega)).mono ?_; rintro e w3 ⟨rfl, hg3⟩; simp only [Hs2.out]))
    go_ret
    exact ⟨by simp [Hf.out], (by repeat (first | with_reducible exact Ext.refl _ _ | with_reducible refine Ext.trans ?_ (by assumption) | with_reducible refine Ext.drew ?_ | with_reducible refine Ext.drewN ?_ _ | with_reducible refine Ext.alloc ?_ _ | with_reducible refine Ext.setNew ?_ (by simp; done) _ | with_reducible refine Ext.setNew ?_ (by simp; omega) _))⟩
  have Hs2 := Lib.hid (szR_pos (c := n.needs.length) (left := left - costS n.names) (by omega))
  by_cases a3 : left - costS n.names - n.needs.length < (costPL n.kids : Int)
  · have Hf := Lib.hid (szR_neg (c := costP n) (left := left) (by have := Hce.out; omega))
    have Hs3 := Lib.hid (szR_neg a3)
    go_enter Try.func40, Try.ntmps40
    go_wp2_with (first | (go_at_call 66; refine (szStringS_ok _ _ _ _ _ (Hns.out.grow (by repeat (first | with_reducible exact Ext.refl _ _ | with_reducible refine Ext.trans ?_ (by assumption) | with_reducible refine Ext.drew ?_ | with_reducible refine Ext.drewN ?_ _ | with_reducible refine Ext.alloc ?_ _ | with_reducible refine Ext.setNew ?_ (by simp; done) _ | with_reducible refine Ext.setNew ?_ (by simp; omega) _))) (by omega) (by omega)).mono ?_; rintro e w2 ⟨rfl, hg2⟩; simp only [Hs.out]; have hcc := bcell hg2) | (go_at_call 100; refine (szBoolS_ok _ _ _ _ _ hbl (by omega) (by omega)).mono ?_; rintro e w3 ⟨rfl, hg3⟩; simp only [Hs2.out]; have hcc3 := bcell (hg2.trans hg3)) | (go_at_call 101; refine (szShapeS_of _ Ih.out _ _ _ _ (Hks.out.grow (by repeat (first | with_reducible exact Ext.refl _ _ | with_reducible refine Ext.trans ?_ (by assumption) | with_reducible refine Ext.drew ?_ | with_reducible refine Ext.drewN ?_ _ | with_reducible refine Ext.alloc ?_ _ | with_reducible refine Ext.setNew ?_ (by simp; done) _ | with_reducible refine Ext.setNew ?_ (by simp; omega) _))) (by omega) (by omega)).mono ?_; rintro e w4 ⟨rfl, hg4⟩; simp only [Hs3.out]))
    go_ret
    exact ⟨by simp [Hf.out], (by repeat (first | with_reducible exact Ext.refl _ _ | with_reducible refine Ext.trans ?_ (by assumption) | with_reducible refine Ext.drew ?_ | with_reducible refine Ext.drewN ?_ _ | with_reducible refine Ext.alloc ?_ _ | with_reducible refine Ext.setNew ?_ (by simp; done) _ | with_reducible refine Ext.setNew ?_ (by simp; omega) _))⟩
  · have Hf := Lib.hid (szR_pos (c := costP n) (left := left) (by have := Hce.out; omega))
    have Hs3 := Lib.hid (szR_pos (c := costPL n.kids) (left := left - costS n.names - n.needs.length) (by omega))
    go_enter Try.func40, Try.ntmps40
    go_wp2_with (first | (go_at_call 66; refine (szStringS_ok _ _ _ _ _ (Hns.out.grow (by repeat (first | with_reducible exact Ext.refl _ _ | with_reducible refine Ext.trans ?_ (by assumption) | with_reducible refine Ext.drew ?_ | with_reducible refine Ext.drewN ?_ _ | with_reducible refine Ext.alloc ?_ _ | with_reducible refine Ext.setNew ?_ (by simp; done) _ | with_reducible refine Ext.setNew ?_ (by simp; omega) _))) (by omega) (by omega)).mono ?_; rintro e w2 ⟨rfl, hg2⟩; simp only [Hs.out]; have hcc := bcell hg2) | (go_at_call 100; refine (szBoolS_ok _ _ _ _ _ hbl (by omega) (by omega)).mono ?_; rintro e w3 ⟨rfl, hg3⟩; simp only [Hs2.out]; have hcc3 := bcell (hg2.trans hg3)) | (go_at_call 101; refine (szShapeS_of _ Ih.out _ _ _ _ (Hks.out.grow (by repeat (first | with_reducible exact Ext.refl _ _ | with_reducible refine Ext.trans ?_ (by assumption) | with_reducible refine Ext.drew ?_ | with_reducible refine Ext.drewN ?_ _ | with_reducible refine Ext.alloc ?_ _ | with_reducible refine Ext.setNew ?_ (by simp; done) _ | with_reducible refine Ext.setNew ?_ (by simp; omega) _))) (by omega) (by omega)).mono ?_; rintro e w4 ⟨rfl, hg4⟩; simp only [Hs3.out]))
    go_ret
    exact ⟨by have h1 := Hf.out; have h2 := Hce.out; rw [h1]; simp; omega, (by repeat (first | with_reducible exact Ext.refl _ _ | with_reducible refine Ext.trans ?_ (by assumption) | with_reducible refine Ext.drew ?_ | with_reducible refine Ext.drewN ?_ _ | with_reducible refine Ext.alloc ?_ _ | with_reducible refine Ext.setNew ?_ (by simp; done) _ | with_reducible refine Ext.setNew ?_ (by simp; omega) _))⟩
end Go.Proofs.Ytgfnmhfdmmnaoaa
namespace Go.Proofs.Ytgfnmhfdmmnaoaa
open Go.RowKit
theorem info_bool : (Try.prog.info? 4).map (fun i => (i.zero, i.size, i.bytes)) = some (some (.bool false), 1, 1) := by kernel_rfl
theorem info_Shape : (Try.prog.info? 27).map (fun i => (i.zero, i.size, i.bytes)) = some (some (.agg #[.int .i64 0, .slice none 0 0, .slice none 0 0, .slice none 0 0]), 4, 80) := by kernel_rfl
theorem toBoolS_ok (a : Option Addr) (c : Nat) (xs : List Bool) (w : World) (ha : BoolsR w any a c xs) (hb : xs.length ≤ 1048576) :
    Calls Try.prog 103 #[.slice a xs.length c] w fun e w' => ∃ a' c' fp, e = .returned (.slice a' xs.length c') ∧ Grow w w' ∧ BoolsF w' a' c' xs fp ∧ Free w.heap.size w' fp := by
  have Ha := Lib.hid ha
  clear ha
  have hmk := run_mk (P := Try.prog) 24 4 _ 1 1 Try.underlying24 info_bool .i64 .i64 xs.length (by omega) (by omega)
  go_enter Try.func103, Try.ntmps103
  go_wp2
  clear hmk
  go_loopw [4] (fun i wr => ∃ k : Nat, k ≤ xs.length ∧ i = .int .i64 k ∧ Grow w wr ∧ RowIn wr w.heap.size xs.length ∧ ∀ j (h : j < xs.length), j < k → wr.cell? ⟨w.heap.size, j, none⟩ = some (.bool xs[j])) (fun i _ => xs.length - (intOf i).toNat)
  case atStart => exact ⟨0, Nat.zero_le _, rfl, (Ext.refl _ _).alloc _, by simpa using RowIn.made w _ xs.length _, fun j h h0 => absurd h0 (by omega)⟩
  case round =>
    obtain ⟨k, hk, rfl, hg, hrow, hc⟩ := hrel
    by_cases hlt : k < xs.length
    · obtain ⟨_, _, ha4⟩ := (Ha.out).ext hg (fun _ _ h => h)
      rcases ha4 with rfl | ⟨ba, oa, rfl, _, hca⟩
      · simp at hlt
      have hx := hca k hlt
      obtain ⟨u, hu⟩ := hrow.2.1 k hlt
      have hfk := hrow.2.2 k
      have Hrow := Lib.hid hrow
      have Hc := Lib.hid hc
      have Hu := Lib.hid hu
      clear hca hrow hc
      obtain ⟨z, hz⟩ : ∃ z, z = xs[k] := ⟨_, rfl⟩
      rw [← hz] at hx
      have Hz := Lib.hid hz
      clear hz
      go_wp2
      go_roundw
      case rel =>
        refine ⟨k + 1, by omega, by go_num, hg.setNew (by simp) _, Hrow.out.setCell _ _, fun j h hj => ?_⟩
        rw [cell_set Hu.out]
        by_cases e : j = k
        · subst e; rw [if_pos rfl, Hz.out]
        · rw [if_neg (by intro h'; cases h'; exact e rfl)]; exact Hc.out j h (by omega)
      case measure => simp [intOf]; omega
    · have Ha' := (Ha.out).ext hg (fun _ _ h => h)
      have Hrow := Lib.hid hrow
      have Hc := Lib.hid hc
      clear hrow hc
      go_wp2
      go_ret
      by_cases hne : xs = []
      · subst hne
        exact ⟨_, _, [], rfl, hg, ⟨Nat.le_refl _, by simp, .inl ⟨rfl, rfl⟩⟩, Free.nil _ _⟩
      · exact ⟨_, _, [w.heap.size], rfl, hg, ⟨Nat.le_refl _, Ha'.2.1, .inr ⟨_, 0, hne, rfl, rfl, fun j h => by rw [Nat.zero_add]; exact Hc.out j h (by omega)⟩⟩, Free.one Hrow.out (Nat.le_refl _)⟩
def ToPOk (n : Shp) : Prop := ∀ (v : Value) (w : World), costP n ≤ 1048576 → ShapeR w any n v →
    Calls Try.prog 42 #[v] w fun e w' => ∃ v' fp, e = .returned v' ∧ Grow w w' ∧ ShapeO w' n v' fp ∧ Free w.heap.size w' fp
theorem toShape_of (n : Shp) (hk : ∀ (a : Option Addr) (c : Nat) (w : World), ShpLR w any a c n.kids →
      Calls Try.prog 104 #[.slice a n.kids.length c] w fun e w' => ∃ a' c' fp, e = .returned (.slice a' n.kids.length c') ∧ Grow w w' ∧ ShpLF w' a' c' n.kids fp ∧ Free w.heap.size w' fp) : ToPOk n := by
  intro v w hcost hn
  rw [costP_eq] at hcost
  have Hk := Lib.hid hk
  clear hk
  obtain ⟨na, nc, ba, bc, ka, kc, rfl, hc⟩ := hn
  obtain ⟨hns, hbs, hks⟩ := hc.parts'
  have Hns := Lib.hid hns
  have Hks := Lib.hid hks
  have Hbs := Lib.hid hbs
  clear hns hks hc hbs
  unfold shapeV at *
  go_enter Try.func42, Try.ntmps42
  go_wp2_with fail
  refine (toStringS_ok _ _ n.names _ (Hns.out.grow (by repeat (first | with_reducible exact Ext.refl _ _ | with_reducible refine Ext.trans ?_ (by assumption) | with_reducible refine Ext.drew ?_ | with_reducible refine Ext.drewN ?_ _ | with_reducible refine Ext.alloc ?_ _ | with_reducible refine Ext.setNew ?_ (by simp; done) _ | with_reducible refine Ext.setNew ?_ (by simp; omega) _))) ?_).mono ?_
  · have : n.names.length ≤ costS n.names := by simp [costS]
    omega
  rintro e w1 ⟨a1, c1, f1, rfl, hg1, hF1, hf1⟩
  have B0 := (((BoxN.new w (shapeL' n na nc ba bc ka kc) 75).grow ((Ext.refl nil _).alloc _)).grow ((Ext.refl nil _).alloc _)).grow hg1
  have B1 := ((BoxN.new1 w _ [.int .i64 0, .slice none 0 0, .slice none 0 0, .slice none 0 0] 27).grow ((Ext.refl nil _).alloc _)).grow hg1
  have B2 := (BoxN.new2 w _ _ [.int .i64 n.kind, .slice none 0 0, .slice none 0 0, .slice none 0 0] 27).grow hg1
  have hg1' : Grow w w1 := (by repeat (first | with_reducible exact Ext.refl _ _ | with_reducible refine Ext.trans ?_ (by assumption) | with_reducible refine Ext.drew ?_ | with_reducible refine Ext.drewN ?_ _ | with_reducible refine Ext.alloc ?_ _ | with_reducible refine Ext.setNew ?_ (by simp; done) _ | with_reducible refine Ext.setNew ?_ (by simp; omega) _))
  simp only [World.size_alloc] at hf1
  have HB0 := Lib.hid B0
  have HB1 := Lib.hid B1
  have HB2 := Lib.hid B2
  have p2 := B0.cell 2 _ rfl
  have p3 := B0.cell 3 _ rfl
  have q1 := B2.cell 1 _ rfl
  have qf := B2.fr
  have z1 : w.heap.size + 1 + 1 < w1.heap.size := B2.lt
  have HF1 := Lib.hid hF1
  have Hf1 := Lib.hid hf1
  clear hg1 hF1 hf1 B0 B1 B2
  go_wp2_with fail
  refine (toBoolS_ok _ _ n.needs _ (Hbs.out.grow (hg1'.setNew (by simp; omega) _)) (by omega)).mono ?_
  rintro e w2 ⟨a2, c2, f2, rfl, hg2, hF2, hf2⟩
  have B0 := (HB0.out.other (p := ⟨w.heap.size + 1 + 1, 1, none⟩) (by simp; omega) (.slice a1 n.names.length c1)).grow hg2
  have B1 := (HB1.out.other (p := ⟨w.heap.size + 1 + 1, 1, none⟩) (by simp) (.slice a1 n.names.length c1)).grow hg2
  have B2 := (HB2.out.set 1 (by simp) (.slice a1 n.names.length c1)).grow hg2
  have e12 : Ext (fun k => k = w.heap.size + 1 ∨ k = w.heap.size + 1 + 1) w1 w2 := Ext.trans (Ext.setIn (X := fun k => k = w.heap.size + 1 ∨ k = w.heap.size + 1 + 1) (Ext.refl _ w1) (p := ⟨w.heap.size + 1 + 1, 1, none⟩) (.inr rfl) (.slice a1 n.names.length c1)) (hg2.mono (fun _ h => False.elim h))
  have hg2' : Grow w w2 := hg1'.inner e12 (by intro i hi; omega)
  rw [size_setCell] at hf2
  clear p2 p3 q1 qf HB0 HB1 HB2
  have HB0 := Lib.hid B0
  have HB1 := Lib.hid B1
  have HB2 := Lib.hid B2
  have p3 := B0.cell 3 _ rfl
  have q2 := B2.cell 2 _ rfl
  have qf := B2.fr
  have z2 : w.heap.size + 1 + 1 < w2.heap.size := B2.lt
  have HF2 := Lib.hid hF2
  have Hf2 := Lib.hid hf2
  have E12 := Lib.hid e12
  clear hF2 hf2 B0 B1 B2 hg2 e12
  go_wp2_with fail
  refine (Hk.out _ _ _ (Hks.out.grow (hg2'.setNew (by simp; omega) _))).mono ?_
  rintro e w3 ⟨a3, c3, f3, rfl, hg3, hF3, hf3⟩
  have B1 := (HB1.out.other (p := ⟨w.heap.size + 1 + 1, 2, none⟩) (by simp) (.slice a2 n.needs.length c2)).grow hg3
  have B2 := (HB2.out.set 2 (by simp) (.slice a2 n.needs.length c2)).grow hg3
  have e23 : Ext (fun k => k = w.heap.size + 1 ∨ k = w.heap.size + 1 + 1) w2 w3 := Ext.trans (Ext.setIn (X := fun k => k = w.heap.size + 1 ∨ k = w.heap.size + 1 + 1) (Ext.refl _ w2) (p := ⟨w.heap.size + 1 + 1, 2, none⟩) (.inr rfl) (.slice a2 n.needs.length c2)) (hg3.mono (fun _ h => False.elim h))
  have hg3' : Grow w w3 := hg2'.inner e23 (by intro i hi; omega)
  rw [size_setCell] at hf3
  clear p3 q2 qf HB0 HB1 HB2
  have HB1 := Lib.hid B1
  have HB2 := Lib.hid B2
  have q0 := B2.cell 0 _ rfl
  have q1 := B2.cell 1 _ rfl
  have q2 := B2.cell 2 _ rfl
  have q3 := B2.cell 3 _ rfl
  have qf := B2.fr
  have p0 := B1.cell 0 _ rfl
  have p1 := B1.cell 1 _ rfl
  have p2 := B1.cell 2 _ rfl
  have p3 := B1.cell 3 _ rfl
  have pf := B1.fr
  have HF3 := Lib.hid hF3
  have Hf3 := Lib.hid hf3
  have E23 := Lib.hid e23
  clear hF3 hf3 B1 B2 hg3 e23
  go_wp2_with fail
  have BF := ((((HB1.out.other (p := ⟨w.heap.size + 1 + 1, 3, none⟩) (by simp) (.slice a3 n.kids.length c3)).set 0 (by simp) (.int .i64 n.kind)).set 1 (by simp) (.slice a1 n.names.length c1)).set 2 (by simp) (.slice a2 n.needs.length c2)).set 3 (by simp) (.slice a3 n.kids.length c3)
  have x1 : ∀ b ∈ f1, ¬ (b = w.heap.size + 1 ∨ b = w.heap.size + 1 + 1) := fun b hb => by have := (Hf1.out.2 b hb).1; omega
  have x2 : ∀ b ∈ f2, ¬ (b = w.heap.size + 1 ∨ b = w.heap.size + 1 + 1) := fun b hb => by have := (Hf2.out.2 b hb).1; omega
  have x3 : ∀ b ∈ f3, ¬ (b = w.heap.size + 1 ∨ b = w.heap.size + 1 + 1) := fun b hb => by have := (Hf3.out.2 b hb).1; omega
  have fin : ∀ W, Ext (fun k => k = w.heap.size + 1 ∨ k = w.heap.size + 1 + 1) w3 W → ∃ v' fp, Ending.returned (shapeV n a1 c1 a2 c2 a3 c3) = Ending.returned v' ∧ Grow w W ∧ ShapeO W n v' fp ∧ Free w.heap.size W fp := by
    intro W hW
    have e13 := E12.out.trans (E23.out.trans hW)
    have e2W := E23.out.trans hW
    have F1 := Hf1.out.ext e13 x1
    have F2 := Hf2.out.ext e2W x2
    have F3 := Hf3.out.ext hW x3
    refine ⟨_, f1 ++ f2 ++ f3, rfl, hg3'.inner hW (by intro i hi; omega), ⟨_, _, _, _, _, _, rfl, ShapeF.mk (HF1.out.keep (e13.keeps Hf1.out x1)) (HF2.out.keep (e2W.keeps Hf2.out x2)) (?_)⟩, ?_⟩
    · obtain ⟨g1, g2, g3⟩ := HF3.out
      refine ⟨g1, g2, g3.imp id ?_⟩
      rintro ⟨b, o, f, hne, he, hfe, hs⟩
      have kk := hW.keeps Hf3.out x3
      exact ⟨b, o, f, hne, he, hfe, hs.keep (fun x hx => kk x (by rw [hfe]; simp [hx])) (fun o' _ _ => kk b (by rw [hfe]; simp) o')⟩
    · refine ⟨?_, fun b hb => ?_⟩
      · refine List.nodup_append.2 ⟨List.nodup_append.2 ⟨F1.1, F2.1, fun a ha b hb e => ?_⟩, F3.1, fun a ha b hb e => ?_⟩
        · subst e
          have := (Hf1.out.2 a ha).2.1
          have := (Hf2.out.2 a hb).1
          omega
        · subst e
          have h3 := (Hf3.out.2 a hb).1
          rcases List.mem_append.1 ha with h | h
          · have := (Hf1.out.2 a h).2.1; have := E12.out.size; omega
          · have := (Hf2.out.2 a h).2.1; omega
      · rcases List.mem_append.1 hb with h | h
        · rcases List.mem_append.1 h with h | h
          · exact ⟨by have := (Hf1.out.2 b h).1; omega, (F1.2 b h).2⟩
          · exact ⟨by have := (Hf2.out.2 b h).1; omega, (F2.2 b h).2⟩
        · exact ⟨by have := (Hf3.out.2 b h).1; omega, (F3.2 b h).2⟩
  have r0 := BF.cell 0 _ rfl
  have r1 := BF.cell 1 _ rfl
  have r2 := BF.cell 2 _ rfl
  have r3 := BF.cell 3 _ rfl
  refine bodyPost_ret (v := shapeV n a1 c1 a2 c2 a3 c3) ?_ rfl ?_
  · simp [results, Try.results42, go_sem, shapeV, r0, r1, r2, r3]
  · refine fin _ ?_
    exact (by repeat (first | with_reducible exact Ext.refl _ _ | with_reducible refine Ext.setIn ?_ (by simp) _ | with_reducible refine Ext.trans ?_ (Ext.mono (by assumption) (fun _ h => False.elim h))))
theorem store4_eq (w : World) (b o : Nat) (v0 v1 v2 v3 : Value) : (((w.setCell ⟨b, o, none⟩ v0).setCell ⟨b, o + 1, none⟩ v1).setCell ⟨b, o + 2, none⟩ v2).setCell ⟨b, o + 3, none⟩ v3 = storeL w b o [v0, v1, v2, v3] := rfl
theorem toShapeS_of (l : List Shp) (ih : ∀ k ∈ l, ToPOk k) (a : Option Addr) (c : Nat) (w : World) (hcost : costPL l ≤ 1048576) (hn : ShpLR w any a c l) :
    Calls Try.prog 104 #[.slice a l.length c] w fun e w' => ∃ a' c' fp, e = .returned (.slice a' l.length c') ∧ Grow w w' ∧ ShpLF w' a' c' l fp ∧ Free w.heap.size w' fp := by
  have hb : l.length ≤ 1048576 := Nat.le_trans (costPL_len l) hcost
  have Ih := Lib.hid ih
  have Hn := Lib.hid hn
  clear ih hn
  have hmk := run_mk (P := Try.prog) 25 27 _ 4 80 Try.underlying25 info_Shape .i64 .i64 l.length (by omega) (by omega)
  go_enter Try.func104, Try.ntmps104
  go_wp2
  clear hmk
  go_loopw [4] (fun i wr => ∃ (k : Nat) (fp : List Nat), k ≤ l.length ∧ i = .int .i64 k ∧ Grow w wr ∧ RowIn wr w.heap.size (l.length * 4) ∧ ShpsF wr w.heap.size 0 (l.take k) fp ∧ Free (w.heap.size + 1) wr fp) (fun i _ => l.length - (intOf i).toNat)
  case atStart => exact ⟨0, [], Nat.zero_le _, rfl, (Ext.refl _ _).alloc _, RowIn.made _ _ _ _, by simp [ShpsF], Free.nil _ _⟩
  case round =>
    obtain ⟨k, fp, hk, rfl, hg, hrow, hkf, hfr⟩ := hrel
    have Hrow := Lib.hid hrow
    have Hkf := Lib.hid hkf
    have Hfr := Lib.hid hfr
    clear hrow hkf hfr
    by_cases hlt : k < l.length
    · obtain ⟨_, _, hks⟩ := (Hn.out).grow hg
      rcases hks with hks | ⟨bk, ok, rfl, _, hkr⟩
      · simp [hks] at hlt
      obtain ⟨na', nc', ba', bc', ka', kc', c0, c1, c2, c3, hkc⟩ := hkr.get k hlt
      have Hkc : Hid (ShapeR wr any l[k] (shapeV l[k] na' nc' ba' bc' ka' kc')) := Lib.hid ⟨_, _, _, _, _, _, rfl, hkc⟩
      have hck := costPL_get l k hlt
      clear hkr hkc
      go_wp2_with fail
      refine (Ih.out _ (List.getElem_mem hlt) _ _ (by omega) Hkc.out).mono ?_
      rintro e w2 ⟨v', f', rfl, hg2, hN, hf'⟩
      clear c0 c1 c2 c3
      obtain ⟨na2, nc2, ba2, bc2, ka2, kc2, rfl, hN⟩ := hN
      have hrow2 := Hrow.out.ext hg2 (fun h => h)
      have hfz := hrow2.2.2
      obtain ⟨u0, d0⟩ := hrow2.2.1 (k * 4) (by omega)
      obtain ⟨u1, d1⟩ := hrow2.2.1 (k * 4 + 1) (by omega)
      obtain ⟨u2, d2⟩ := hrow2.2.1 (k * 4 + 2) (by omega)
      obtain ⟨u3, d3⟩ := hrow2.2.1 (k * 4 + 3) (by omega)
      have Hrow2 := Lib.hid hrow2
      clear hrow2
      unfold shapeV
      go_wp2_with fail
      clear d0 d1 d2 d3 hfz
      have hl : (l.take k).length = k := by simp; omega
      have hbf : w.heap.size ∉ fp := fun h => by have := (Hfr.out.2 _ h).1; omega
      have hbf' : w.heap.size ∉ f' := fun h => by have := (hf'.2 _ h).1; have := Hrow.out.1; omega
      have hfr2 := Hfr.out.ext hg2 (fun _ _ h => h)
      have hkf2 := Hkf.out.keep (hg2.keeps Hfr.out (fun _ _ h => h)) (fun o' _ ho => hg2.cell (p := ⟨w.heap.size, o', none⟩) Hrow.out.1 (fun h => h))
      have hlay := ShpsF.lay Hrow2.out hkf2 hN (by rw [hl]; omega) hbf hbf'
      rw [hl] at hlay
      have hfr3 := Free.append Hfr.out hf' hg2 (Nat.le_refl _) (by have := Hrow.out.1; omega)
      go_roundw
      case rel =>
        rw [store4_eq]
        exact ⟨k + 1, fp ++ f', by omega, by go_num, Grow.inner (hg.trans hg2) (storeL_ext w.heap.size (shapeL' l[k] na2 nc2 ba2 bc2 ka2 kc2) w2 (k * 4)) (by intro i hi; omega), storeL_row _ _ _ Hrow2.out, by rw [take_snoc' _ _ hlt]; exact hlay, storeL_free _ _ _ hfr3⟩
      case measure => simp [intOf]; omega
    · have hke : k = l.length := by omega
      subst hke
      go_wp2
      go_ret
      rw [List.take_length] at Hkf
      by_cases hne : l = []
      · subst hne
        exact ⟨_, _, [], rfl, hg, ⟨Nat.le_refl _, by simp, .inl ⟨rfl, rfl⟩⟩, Free.nil _ _⟩
      · exact ⟨_, _, w.heap.size :: fp, rfl, hg, ⟨Nat.le_refl _, Hn.out.2.1, .inr ⟨_, 0, fp, hne, rfl, rfl, Hkf.out⟩⟩, Free.cons Hrow.out (Nat.le_refl _) Hfr.out⟩
theorem toShape_ok : ∀ n, ToPOk n := by
  refine Shp.ind' ToPOk ?_
  intro n ih
  intro v w hcost hn
  have hk : costPL n.kids ≤ 1048576 := by rw [costP_eq] at hcost; omega
  exact toShape_of n (fun a c w h => toShapeS_of n.kids ih a c w hk h) v w hcost hn
end Go.Proofs.Ytgfnmhfdmmnaoaa
