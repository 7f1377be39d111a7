/-
  Texts of this claim, joined.
-/
import Derived.BigQuiet
import Derived.Laws.AppendOwn
import Derived.Laws.AppendOwnNone
import Derived.Laws.OwnMore
import Derived.Lib.Bytealg
import Derived.Test.YtfjaobfaepjfnaaDoorSwE

set_option linter.unusedSimpArgs false
set_option linter.unusedVariables false
set_option linter.unnecessarySimpa false
set_option maxRecDepth 100000
set_option maxHeartbeats 16000000
namespace Go.Proofs.YtfjaobfaepjfnaaDoor
open Go.RowKit
theorem KidsF.append {w : World} {b : Nat} : ∀ {l m : List Nd} {o : Nat} {f g : List Nat}, KidsF w b o l f → KidsF w b (o + l.length * 5) m g → KidsF w b o (l ++ m) (f ++ g)
  | [], m, o, f, g, h1, h2 => by
    unfold KidsF at h1; subst h1; simpa using h2
  | x :: l, m, o, f, g, h1, h2 => by
    unfold KidsF at h1
    obtain ⟨f1, f2, rfl, hx, hr⟩ := h1
    rw [List.cons_append]; unfold KidsF
    refine ⟨f1, f2 ++ g, by simp, hx, KidsF.append hr ?_⟩
    rw [show o + 5 + l.length * 5 = o + (x :: l).length * 5 by simp; omega]
    exact h2
theorem KidsF.split {w : World} {b : Nat} : ∀ {l m : List Nd} {o : Nat} {fp : List Nat}, KidsF w b o (l ++ m) fp → ∃ f g, fp = f ++ g ∧ KidsF w b o l f ∧ KidsF w b (o + l.length * 5) m g
  | [], m, o, fp, h => ⟨[], fp, rfl, by unfold KidsF; rfl, by simpa using h⟩
  | x :: l, m, o, fp, h => by
    rw [List.cons_append] at h; unfold KidsF at h
    obtain ⟨f1, f2, rfl, hx, hr⟩ := h
    obtain ⟨f, g, rfl, h1, h2⟩ := KidsF.split hr
    rw [show o + 5 + l.length * 5 = o + (x :: l).length * 5 by simp; omega] at h2
    exact ⟨f1 ++ f, g, by simp, by unfold KidsF; exact ⟨f1, f, rfl, hx, h1⟩, h2⟩
theorem set_ne (w : World) (b p b' q : Nat) (v : Value) (h : b' ≠ b ∨ q ≠ p) : (w.setCell ⟨b, p, none⟩ v).cell? ⟨b', q, none⟩ = w.cell? ⟨b', q, none⟩ :=
  World.cell?_setCell_other _ _ _ _ (by intro e; cases e; rcases h with h | h <;> exact h rfl)
end Go.Proofs.YtfjaobfaepjfnaaDoor
namespace Go.Proofs.YtfjaobfaepjfnaaDoor
open Go.RowKit
end Go.Proofs.YtfjaobfaepjfnaaDoor
namespace Go.Proofs.YtfjaobfaepjfnaaDoor
open Go.RowKit
end Go.Proofs.YtfjaobfaepjfnaaDoor
namespace Go.Proofs.YtfjaobfaepjfnaaDoor
open Go.RowKit
end Go.Proofs.YtfjaobfaepjfnaaDoor
namespace Go.Proofs.YtfjaobfaepjfnaaDoor
open Go.RowKit
def Good (n : Nd) : Prop := ∃ d, shapeB n d = true
def GoodS (x : Shp) : Prop := ∃ d, d ≤ 5 ∧ shpB x d = true
theorem Good.parts {n : Nd} (h : Good n) : partsB n = true := by
  obtain ⟨d, h⟩ := h
  rw [shapeB_eq] at h
  simp only [Bool.and_eq_true] at h
  exact h.1.2
theorem Good.kid {n k : Nd} (h : Good n) (hk : k ∈ n.kids) : Good k := by
  obtain ⟨d, h⟩ := h
  rw [shapeB_eq, shapeL_all] at h
  simp only [Bool.and_eq_true, List.all_eq_true] at h
  exact ⟨d - 1, h.2 k hk⟩
theorem Good.zero : Good Nd.zero := ⟨1, by simp [shapeB_eq, partsB, Nd.zero, shapeL]⟩
theorem Good.map {n : Nd} (h : Good n) (hk : n.kind = 4) : Asc n.names ∧ n.kids.length = n.names.length := by
  have hp := h.parts
  simp only [partsB, hk, Bool.and_eq_true] at hp
  simp [areNamesB] at hp
  exact ⟨namesB_asc hp.2.1.2, hp.2.2⟩
theorem Good.other {n : Nd} (h : Good n) (hk : n.kind ≠ 4) : n.names = [] := by
  have hp := h.parts
  simp only [partsB, hk, Bool.and_eq_true] at hp
  simp at hp
  exact hp.1.2
theorem Good.asc {n : Nd} (h : Good n) : Asc n.names := by
  by_cases hk : n.kind = 4
  · exact (h.map hk).1
  · rw [h.other hk]; intro i j hi; simp at hi
theorem Good.len {n : Nd} (h : Good n) : n.names.length ≤ n.kids.length := by
  by_cases hk : n.kind = 4
  · rw [(h.map hk).2]; exact Nat.le_refl _
  · rw [h.other hk]; exact Nat.zero_le _
theorem Good.kidOf {n : Nd} (h : Good n) (s : ByteArray) : Good (kidOf n s) := by
  cases hm : mem n.names s
  · rw [kidOf_no hm]; exact Good.zero
  · exact h.kid (kidOf_mem h.asc h.len hm)
theorem GoodS.kid {x k : Shp} (h : GoodS x) (hk : k ∈ x.kids) : GoodS k := by
  obtain ⟨d, hd, h⟩ := h
  rw [shpB_eq, shpL_all] at h
  simp only [Bool.and_eq_true, List.all_eq_true] at h
  exact ⟨d - 1, by omega, h.2 k hk⟩
theorem placeFrom_map {n : Nd} {s : ByteArray} (hk : n.kind = 4) (ha : Asc n.names) (hl : n.kids.length = n.names.length) : ∀ (m i : Nat), m + i = n.kids.length → (∀ t (h : t < n.names.length), t < i → n.names[t] ≠ s) →
    placeFrom n s i m = if mem n.names s then (lbound n.names s : Int) else -1
  | 0, i, h, hno => by
    have : mem n.names s = false := mem_no (fun hm => by
      obtain ⟨t, ht, he⟩ := List.getElem_of_mem hm
      exact hno t ht (by omega) he)
    simp [placeFrom, this]
  | m + 1, i, h, hno => by
    have hi : i < n.names.length := by omega
    rw [placeFrom]
    by_cases e : n.names[i] = s
    · have hm : mem n.names s = true := mem_iff.2 (e ▸ List.getElem_mem hi)
      have hh : hit n s i = true := by simp [hit, hk, hi, e]
      have : lbound n.names s = i := lb_of (Nat.le_of_lt hi) (fun t ht hti => by rw [← e]; exact ha t i ht hi hti) (fun t ht hti => by
        rcases Nat.eq_or_lt_of_le hti with rfl | h'
        · rw [e]; exact lt_irr _
        · rw [← e]; exact bl_asymm _ _ (ha i t hi ht h'))
      simp [hh, hm, this]
    · have hh : hit n s i = false := by simp [hit, hk, hi, e]
      rw [hh]
      exact placeFrom_map hk ha hl m (i + 1) (by omega) (fun t ht hti => by
        rcases Nat.eq_or_lt_of_le (show t ≤ i by omega) with rfl | h'
        · exact e
        · exact hno t ht h')
theorem place_map {n : Nd} (h : Good n) (hk : n.kind = 4) (s : ByteArray) : placeOf n s = if mem n.names s then (lbound n.names s : Int) else -1 :=
  placeFrom_map hk (h.map hk).1 (h.map hk).2 _ 0 (by omega) (fun t _ h' => absurd h' (by omega))
end Go.Proofs.YtfjaobfaepjfnaaDoor
namespace Go.Proofs.YtfjaobfaepjfnaaDoor
open Go Go.RowKit
section
variable {P : Program} {ops : Array Oper} {Vs : Nat → Option (Value → World → Prop)} {w : World} {Q : Act → World → Prop}
end
end Go.Proofs.YtfjaobfaepjfnaaDoor
namespace Go.Proofs.YtfjaobfaepjfnaaDoor
open Go Go.RowKit
section
variable {P : Program} {ops : Array Oper} {Vs : Nat → Option (Value → World → Prop)} {w : World} {Q : Act → World → Prop}
end
end Go.Proofs.YtfjaobfaepjfnaaDoor
namespace Go.Proofs.YtfjaobfaepjfnaaDoor
open Go.RowKit
mutual
def mis : Shp → Nd → Option (List ByteArray)
  | ⟨kind, names, needs, kids⟩, n => if kind = 0 then none else if kind ≠ n.kind then some [] else misL names needs kids n
def misL : List ByteArray → List Bool → List Shp → Nd → Option (List ByteArray)
  | nm :: ns, nd :: bs, k :: ks, n => if mem n.names nm then (match mis k (kidOf n nm) with | some p => some (nm :: p) | none => misL ns bs ks n) else if nd then some [nm] else misL ns bs ks n
  | _, _, _, _ => none
end
theorem mis_eq (x : Shp) (n : Nd) : mis x n = if x.kind = 0 then none else if x.kind ≠ n.kind then some [] else misL x.names x.needs x.kids n := by cases x; simp [mis]
def MisR (w w' : World) (r : Option (List ByteArray)) (v : Value) : Prop :=
  ∃ a c fp, v = .tuple #[.slice a (r.getD []).length c, .bool r.isSome] ∧ StrsF w' a c (r.getD []) fp ∧ Free w.heap.size w' fp ∧ (r.getD [] = [] → a = none ∧ c = 0)
theorem MisR.grow {w w' w'' : World} {r : Option (List ByteArray)} {v : Value} (h : MisR w w' r v) (hg : Grow w' w'') : MisR w w'' r v := by
  obtain ⟨a, c, fp, hv, h1, h2, h3⟩ := h
  exact ⟨a, c, fp, hv, h1.keep (hg.keeps h2 (fun _ _ h => h)), h2.ext hg (fun _ _ h => h), h3⟩
theorem MisR.none (w w' : World) : MisR w w' .none (.tuple #[.slice .none 0 0, .bool false]) :=
  ⟨.none, 0, [], rfl, ⟨Nat.le_refl _, Nat.zero_le _, by simp, .inl ⟨rfl, rfl⟩⟩, Free.nil _ _, fun _ => ⟨rfl, rfl⟩⟩
theorem MisR.nil (w w' : World) : MisR w w' (some []) (.tuple #[.slice .none 0 0, .bool true]) :=
  ⟨.none, 0, [], rfl, ⟨Nat.le_refl _, Nat.zero_le _, by simp, .inl ⟨rfl, rfl⟩⟩, Free.nil _ _, fun _ => ⟨rfl, rfl⟩⟩
theorem strs_of_row {w : World} {B : Nat} {T : TypeId} {v : Value} {n : Nat} {xs : List ByteArray} (h : w.ownsRow B T 1 v n (xs.map Value.string)) (hx : ∀ x ∈ xs, x.size ≤ big) :
    ∃ a c fp, v = .slice a xs.length c ∧ StrsF w a c xs fp ∧ Free B w fp ∧ (xs = [] → fp = []) := by
  obtain ⟨h1, h2⟩ := h
  have hn : n = xs.length := by simp at h1; omega
  subst hn
  rcases h2 with ⟨rfl, h0⟩ | ⟨g, cap, cur, rfl, hb, hg, hle, hcap, hcs, htake⟩
  · have : xs = [] := List.length_eq_zero_iff.1 h0
    subst this
    exact ⟨none, 0, [], rfl, ⟨Nat.le_refl _, Nat.zero_le _, by simp, .inl ⟨rfl, rfl⟩⟩, Free.nil _ _, fun _ => rfl⟩
  · have hlen : xs.length ≤ big := by unfold maxLen at hcap; unfold big; omega
    by_cases he : xs = []
    · subst he
      exact ⟨_, _, [], rfl, ⟨Nat.zero_le _, Nat.zero_le _, by simp, .inl ⟨rfl, rfl⟩⟩, Free.nil _ _, fun _ => rfl⟩
    · refine ⟨_, _, [g], rfl, ⟨hle, hlen, hx, .inr ⟨g, 0, he, rfl, rfl, fun i hi => ?_⟩⟩, ⟨by simp, fun b hb' => ?_⟩, fun h => absurd h he⟩
      · unfold World.cell?
        simp only [hg, Nat.zero_add]
        have : cur.toList[i]? = some (Value.string xs[i]) := by
          have h3 : (cur.toList.take (xs.length * 1))[i]? = some (Value.string xs[i]) := by rw [htake]; simp [hi]
          rw [List.getElem?_take] at h3
          rw [if_pos (by omega)] at h3
          exact h3
        rw [Array.getElem?_toList] at this
        simpa [World.frozen?] using this
      · simp at hb'
        subst hb'
        refine ⟨hb, (Array.getElem?_eq_some_iff.1 hg).1, fun o => ?_⟩
        unfold World.frozen?
        simp [hg]
theorem MisR.one (W w : World) (x : ByteArray) (T : TypeId) (b : Nat) (hb : b = w.heap.size) (h : W.heap.size ≤ w.heap.size) (hx : x.size ≤ big) :
    MisR W (w.alloc (.cells #[.string x] T)) (some [x]) (.tuple #[.slice (some ⟨b, 0, Option.none⟩) 1 1, .bool true]) := by
  subst hb
  refine ⟨_, _, [w.heap.size], rfl, ⟨Nat.le_refl _, by simp [big], by simpa using hx, .inr ⟨_, 0, by simp, rfl, rfl, fun i hi => ?_⟩⟩, ⟨by simp, fun b hb => ?_⟩, fun h => by simp at h⟩
  · simp at hi
    subst hi
    rw [World.cell?_alloc_new]; rfl
  · simp at hb
    subst hb
    exact ⟨h, by simp, fun o => World.frozen?_alloc_new w _ T o⟩
theorem addr_add (b o j : Nat) : (⟨b, o, Option.none⟩ : Addr).add j = ⟨b, o + j, Option.none⟩ := by unfold Addr.add; split <;> simp_all
theorem MisR.row {w w' : World} {T : TypeId} {v : Value} {n : Nat} {x : ByteArray} {p : List ByteArray} (h : w'.ownsRow w.heap.size T 1 v n ((x :: p).map Value.string)) (hx : ∀ y ∈ x :: p, y.size ≤ big) :
    MisR w w' (some (x :: p)) (.tuple #[v, .bool true]) := by
  obtain ⟨a, c, fp, hv, h1, h2, _⟩ := strs_of_row h hx
  exact ⟨a, c, fp, by rw [hv]; rfl, h1, h2, fun h => by simp at h⟩
theorem MisR.base {w0 w w' : World} {r : Option (List ByteArray)} {v : Value} (h : MisR w w' r v) (hs : w0.heap.size ≤ w.heap.size) : MisR w0 w' r v := by
  obtain ⟨a, c, fp, hv, h1, h2, h3⟩ := h
  exact ⟨a, c, fp, hv, h1, h2.mono hs, h3⟩
theorem misL_len (n : Nd) (d : Nat) : ∀ (ks : List Shp), (∀ k ∈ ks, ∀ m p, mis k m = some p → p.length ≤ d) → ∀ ns bs p, misL ns bs ks n = some p → p.length ≤ d + 1
  | [], _, ns, bs, p, h => by cases ns <;> cases bs <;> simp [misL] at h
  | k :: ks, hk, [], bs, p, h => by simp [misL] at h
  | k :: ks, hk, nm :: ns, [], p, h => by simp [misL] at h
  | k :: ks, hk, nm :: ns, nd :: bs, p, h => by
    rw [misL] at h
    by_cases hm : mem n.names nm = true
    · rw [if_pos hm] at h
      cases hx : mis k (kidOf n nm) with
      | none => rw [hx] at h; exact misL_len n d ks (fun k' hk' => hk k' (by simp [hk'])) ns bs p h
      | some q =>
        rw [hx] at h
        simp at h
        subst h
        have := hk k (by simp) _ _ hx
        simp; omega
    · rw [if_neg hm] at h
      by_cases hn : nd = true
      · rw [if_pos hn] at h; simp at h; subst h; simp
      · rw [if_neg hn] at h
        exact misL_len n d ks (fun k' hk' => hk k' (by simp [hk'])) ns bs p h
theorem mis_len : ∀ (d : Nat) (x : Shp) (n : Nd) (p : List ByteArray), shpB x d = true → mis x n = some p → p.length ≤ d
  | 0, x, n, p, h, _ => by rw [shpB_eq] at h; simp at h
  | d + 1, x, n, p, h, hp => by
    rw [shpB_eq, shpL_all] at h
    simp only [Bool.and_eq_true, List.all_eq_true, Nat.add_sub_cancel] at h
    rw [mis_eq] at hp
    by_cases h0 : x.kind = 0
    · simp [h0] at hp
    · rw [if_neg h0] at hp
      by_cases h1 : x.kind ≠ n.kind
      · rw [if_pos h1] at hp; simp at hp; subst hp; simp
      · rw [if_neg h1] at hp
        exact misL_len n d x.kids (fun k hk m q hq => mis_len d k m q (h.2 k hk) hq) _ _ _ hp
theorem GoodS.len {x : Shp} (h : GoodS x) {n : Nd} {p : List ByteArray} (hp : mis x n = some p) : p.length ≤ 5 := by
  obtain ⟨d, hd, h⟩ := h
  exact Nat.le_trans (mis_len d x n p h hp) hd
end Go.Proofs.YtfjaobfaepjfnaaDoor
namespace Go.Proofs.YtfjaobfaepjfnaaDoor
open Go Go.RowKit
def NCells (w : World) (S : Nat → Prop) : List Nd → List Value → Prop
  | [], cs => cs = []
  | n :: l, cs => ∃ na nc ka kc cs', cs = nodeL n na nc ka kc ++ cs' ∧ NodeC w S n na nc ka kc ∧ NCells w S l cs'
theorem NCells.len {w : World} {S : Nat → Prop} : ∀ {l : List Nd} {cs : List Value}, NCells w S l cs → cs.length = l.length * 5
  | [], cs, h => by cases h; rfl
  | n :: l, cs, h => by
    obtain ⟨na, nc, ka, kc, cs', rfl, _, h⟩ := h
    rw [List.length_append, NCells.len h]; simp [nodeL, Nat.succ_mul]; omega
theorem NCells.append {w : World} {S : Nat → Prop} : ∀ {l m : List Nd} {cs ds : List Value}, NCells w S l cs → NCells w S m ds → NCells w S (l ++ m) (cs ++ ds)
  | [], m, cs, ds, h, k => by cases h; exact k
  | n :: l, m, cs, ds, h, k => by
    obtain ⟨na, nc, ka, kc, cs', rfl, hn, h⟩ := h
    exact ⟨na, nc, ka, kc, cs' ++ ds, by simp, hn, NCells.append h k⟩
theorem NCells.ext {X S : Nat → Prop} {w w' : World} (he : Ext X w w') (hS : ∀ k, S k → ¬ X k) : ∀ {l : List Nd} {cs : List Value}, NCells w S l cs → NCells w' S l cs
  | [], cs, h => h
  | n :: l, cs, h => by
    obtain ⟨na, nc, ka, kc, cs', rfl, hn, h⟩ := h
    exact ⟨na, nc, ka, kc, cs', rfl, hn.ext he hS, NCells.ext he hS h⟩
theorem NCells.mono {S T : Nat → Prop} {w : World} (hS : ∀ k, S k → T k) : ∀ {l : List Nd} {cs : List Value}, NCells w S l cs → NCells w T l cs
  | [], cs, h => h
  | n :: l, cs, h => by
    obtain ⟨na, nc, ka, kc, cs', rfl, hn, h⟩ := h
    exact ⟨na, nc, ka, kc, cs', rfl, hn.mono hS, NCells.mono hS h⟩
theorem NCells.one {w : World} {S : Nat → Prop} {n : Nd} {na : Option Addr} {nc : Nat} {ka : Option Addr} {kc : Nat} (h : NodeC w S n na nc ka kc) : NCells w S [n] (nodeL n na nc ka kc) :=
  ⟨na, nc, ka, kc, [], by simp, h, rfl⟩
theorem NCells.kids {w : World} {S : Nat → Prop} {b : Nat} : ∀ {l : List Nd} {cs : List Value} {o : Nat}, NCells w S l cs → (∀ i v, cs[i]? = some v → w.cell? ⟨b, o + i, none⟩ = some v) → KidsR w S b o l
  | [], _, _, _, _ => by unfold KidsR; trivial
  | n :: l, cs, o, h, hc => by
    obtain ⟨na, nc, ka, kc, cs', rfl, hn, h⟩ := h
    unfold KidsR
    refine ⟨⟨na, nc, ka, kc, hc 0 _ rfl, hc 1 _ rfl, hc 2 _ rfl, hc 3 _ rfl, hc 4 _ rfl, hn⟩, NCells.kids h (fun i v hi => ?_)⟩
    have := hc (5 + i) v (by rw [List.getElem?_append_right (by simp [nodeL])]; simpa [nodeL] using hi)
    rw [show o + (5 + i) = o + 5 + i by omega] at this
    exact this
theorem KidsR.cells {w : World} {S : Nat → Prop} {b : Nat} : ∀ {l : List Nd} {o : Nat}, KidsR w S b o l → ∃ cs, NCells w S l cs ∧ ∀ i v, cs[i]? = some v → w.cell? ⟨b, o + i, none⟩ = some v
  | [], _, _ => ⟨[], rfl, fun i v h => by simp at h⟩
  | n :: l, o, h => by
    unfold KidsR at h
    obtain ⟨⟨na, nc, ka, kc, c0, c1, c2, c3, c4, hn⟩, hr⟩ := h
    obtain ⟨cs, h1, h2⟩ := hr.cells
    refine ⟨nodeL n na nc ka kc ++ cs, ⟨na, nc, ka, kc, cs, rfl, hn, h1⟩, fun i v hi => ?_⟩
    match i, hi with
    | 0, hi => simp [nodeL] at hi; subst hi; exact c0
    | 1, hi => simp [nodeL] at hi; subst hi; exact c1
    | 2, hi => simp [nodeL] at hi; subst hi; exact c2
    | 3, hi => simp [nodeL] at hi; subst hi; exact c3
    | 4, hi => simp [nodeL] at hi; subst hi; exact c4
    | i + 5, hi =>
      have := h2 i v (by simpa [nodeL] using hi)
      rw [show o + (i + 5) = o + 5 + i by omega]
      exact this
end Go.Proofs.YtfjaobfaepjfnaaDoor
namespace Go.Proofs.YtfjaobfaepjfnaaDoor
open Go Go.RowKit
def Src (w : World) (y : Option Addr) (m : Nat) (news : List Value) : Prop := (m = 0 ∧ news = []) ∨ ∃ ad, y = some ad ∧ ∀ j u, news[j]? = some u → w.cell? (ad.add j) = some u
theorem Src.grow {w w' : World} {y : Option Addr} {m : Nat} {news : List Value} (h : Src w y m news) (hg : Grow w w') : Src w' y m news :=
  h.imp id (fun ⟨ad, hy, hc⟩ => ⟨ad, hy, fun j u hj => hg.some (hc j u hj)⟩)
def offRow (B : Nat) (v : Value) (k : Nat) : Prop := B ≤ k ∧ v.ownBlock ≠ some k
theorem grownBy_ext {w w' : World} {v : Value} (h : w.grownBy w' v.ownBlock) : Ext (fun k => v.ownBlock = some k) w w' :=
  ⟨h.os, h.tape, h.output, h.size, fun k hk hx => h.block k hk (fun e => hx e.symm)⟩
theorem NCells.grown {w w' : World} {B : Nat} {v v' : Value} {l : List Nd} {cs : List Value} (hlt : NCells w (fun k => offRow B v k ∧ k < w.heap.size) l cs) (hg : w.grownBy w' v.ownBlock) (hv : v'.ownBlock = v.ownBlock ∨ v'.ownBlock = some w.heap.size) :
    NCells w' (offRow B v') l cs := by
  have h1 := hlt.ext (grownBy_ext hg) (fun k hk hx => hk.1.2 hx)
  refine h1.mono (fun k hk => ⟨hk.1.1, fun e => ?_⟩)
  rcases hv with hv | hv
  · rw [hv] at e; exact hk.1.2 e
  · rw [hv] at e; cases e; exact Nat.lt_irrefl _ hk.2
theorem StrsR.lt {S : Nat → Prop} {w : World} {a : Option Addr} {c : Nat} {xs : List ByteArray} (h : StrsR w S a c xs) : StrsR w (fun k => S k ∧ k < w.heap.size) a c xs := by
  obtain ⟨h1, h2, h3, h4⟩ := h
  refine ⟨h1, h2, h3, ?_⟩
  rcases Nat.eq_zero_or_pos xs.length with hl | hl
  · exact .inl (List.length_eq_zero_iff.1 hl)
  rcases h4 with h4 | ⟨b, o, rfl, hb, hc⟩
  · exact .inl h4
  · exact .inr ⟨b, o, rfl, ⟨hb, lt_of_cell (hc 0 hl)⟩, hc⟩
mutual
theorem NodeC.lt {S : Nat → Prop} {w : World} : ∀ {n : Nd} {na : Option Addr} {nc : Nat} {ka : Option Addr} {kc : Nat}, NodeC w S n na nc ka kc → NodeC w (fun k => S k ∧ k < w.heap.size) n na nc ka kc
  | ⟨_, _, _, _, kids⟩, na, nc, ka, kc, h => by
    unfold NodeC at h ⊢
    obtain ⟨h1, h2, h3, h4, h5⟩ := h
    refine ⟨h1, h2.lt, h3, h4, ?_⟩
    rcases h5 with h5 | ⟨b, o, rfl, hb, hk⟩
    · exact .inl h5
    · cases kids with
      | nil => exact .inl rfl
      | cons k ks =>
        refine .inr ⟨b, o, rfl, ⟨hb, ?_⟩, KidsR.lt hk⟩
        unfold KidsR at hk
        obtain ⟨⟨_, _, _, _, c0, _⟩, _⟩ := hk
        exact lt_of_cell c0
theorem KidsR.lt {S : Nat → Prop} {w : World} {b : Nat} : ∀ {l : List Nd} {o : Nat}, KidsR w S b o l → KidsR w (fun k => S k ∧ k < w.heap.size) b o l
  | [], _, _ => by unfold KidsR; trivial
  | k :: ks, o, h => by
    unfold KidsR at h ⊢
    obtain ⟨⟨na, nc, ka, kc, c0, c1, c2, c3, c4, hn⟩, hr⟩ := h
    exact ⟨⟨na, nc, ka, kc, c0, c1, c2, c3, c4, hn.lt⟩, KidsR.lt hr⟩
end
theorem NCells.lt {S : Nat → Prop} {w : World} : ∀ {l : List Nd} {cs : List Value}, NCells w S l cs → NCells w (fun k => S k ∧ k < w.heap.size) l cs
  | [], cs, h => h
  | n :: l, cs, h => by
    obtain ⟨na, nc, ka, kc, cs', rfl, hn, h⟩ := h
    exact ⟨na, nc, ka, kc, cs', rfl, hn.lt, NCells.lt h⟩
theorem BoxN.grown {w w' : World} {b : Nat} {cs : List Value} {v : Value} (h : BoxN w b cs) (hg : w.grownBy w' v.ownBlock) (hb : ∀ k, v.ownBlock = some k → b < k) : BoxN w' b cs :=
  h.ext (grownBy_ext hg) (fun e => by have := hb _ e; omega)
end Go.Proofs.YtfjaobfaepjfnaaDoor
namespace Go.Proofs.YtfjaobfaepjfnaaDoor
open Go Go.RowKit
theorem Grow.toX' {X : Nat → Prop} {w w' : World} (h : Grow w w') : Ext X w w' := h.mono (fun _ h => False.elim h)
end Go.Proofs.YtfjaobfaepjfnaaDoor
namespace Go.Proofs.YtfjaobfaepjfnaaDoor
open Go Go.RowKit
structure Elm (wr w : World) (b p n : Nat) (cs : List Value) (G : List Nat) : Prop where
  ext : Ext (inl (b :: G)) wr w
  len : cs.length = n
  cells : ∀ i v, cs[i]? = some v → w.cell? ⟨b, p + i, none⟩ = some v
  rest : ∀ q, (q < p ∨ p + n ≤ q) → w.cell? ⟨b, q, none⟩ = wr.cell? ⟨b, q, none⟩
  fr : ∀ q, w.frozen? ⟨b, q, none⟩ = false
  lt : b < w.heap.size
theorem Elm.new {w : World} {b p n : Nat} {cs : List Value} (hc : CellsAt w b p cs) (hl : cs.length = n) (hf : ∀ q, w.frozen? ⟨b, q, none⟩ = false) (hb : b < w.heap.size) : Elm w w b p n cs [] :=
  ⟨Ext.refl _ _, hl, hc, fun _ _ => rfl, hf, hb⟩
theorem Elm.set {wr w : World} {b p n : Nat} {cs : List Value} {G : List Nat} (h : Elm wr w b p n cs G) (i : Nat) (hi : i < cs.length) (v : Value) : Elm wr (w.setCell ⟨b, p + i, none⟩ v) b p n (cs.set i v) G := by
  have h0 := h.cells i cs[i] (List.getElem?_eq_getElem hi)
  refine ⟨h.ext.setIn (p := ⟨b, p + i, none⟩) (by simp [inl]) v, by rw [List.length_set]; exact h.len, fun j u hj => ?_, fun q hq => ?_, fun q => by rw [World.frozen?_setCell]; exact h.fr q, by rw [size_setCell]; exact h.lt⟩
  · rw [cell_set h0]
    rw [List.getElem?_set] at hj
    by_cases e : j = i
    · subst e; rw [if_pos rfl]; simpa [hi] using hj
    · have hne : ¬ (⟨b, p + j, none⟩ : Addr) = ⟨b, p + i, none⟩ := by intro h'; have := congrArg Addr.off h'; simp at this; exact e this
      rw [if_neg hne]
      rw [if_neg (fun h' => e h'.symm)] at hj
      exact h.cells j u hj
  · have := h.len
    rw [set_ne _ _ _ _ _ _ (.inr (by omega))]; exact h.rest q hq
theorem Elm.sub {wr w w' : World} {b p n : Nat} {cs : List Value} {G g : List Nat} (h : Elm wr w b p n cs G) (he : Ext (inl g) w w') (hb : b ∉ g) : Elm wr w' b p n cs (G ++ g) := by
  refine ⟨(h.ext.mono (fun k hk => ?_)).trans (he.mono (fun k hk => ?_)), h.len, fun i v hi => he.some (h.cells i v hi) hb, fun q hq => ?_, fun q => ?_, Nat.lt_of_lt_of_le h.lt he.size⟩
  · simp [inl] at hk ⊢
    rcases hk with hk | hk
    · exact .inl hk
    · exact .inr (.inl hk)
  · simp [inl] at hk ⊢; exact .inr (.inr hk)
  · rw [he.cell (p := ⟨b, q, none⟩) h.lt hb]; exact h.rest q hq
  · rw [he.frozen (p := ⟨b, q, none⟩) h.lt hb]; exact h.fr q
theorem Elm.grow {wr w w' : World} {b p n : Nat} {cs : List Value} {G : List Nat} (h : Elm wr w b p n cs G) (hg : Grow w w') : Elm wr w' b p n cs G := by
  have := h.sub (g := []) (hg.toX' (X := inl [])) (by simp)
  simpa using this
section rows
variable {α : Type} {E : Rep α}
theorem RowF.split {w : World} {b : Nat} : ∀ {l m : List α} {o : Nat} {fp : List Nat}, RowF E w b o (l ++ m) fp → ∃ f g, fp = f ++ g ∧ RowF E w b o l f ∧ RowF E w b (o + l.length * E.n) m g
  | [], m, o, fp, h => ⟨[], fp, rfl, rfl, by simpa using h⟩
  | x :: l, m, o, fp, h => by
    obtain ⟨f1, f2, cs, rfl, hc, hx, hr⟩ := h
    obtain ⟨f, g, rfl, h1, h2⟩ := RowF.split hr
    rw [show o + E.n + l.length * E.n = o + (x :: l).length * E.n by simp [Nat.succ_mul]; omega] at h2
    exact ⟨f1 ++ f, g, by simp, ⟨f1, f, cs, rfl, hc, hx, h1⟩, h2⟩
end rows
end Go.Proofs.YtfjaobfaepjfnaaDoor
namespace Go.Proofs.YtfjaobfaepjfnaaDoor
open Go.RowKit
end Go.Proofs.YtfjaobfaepjfnaaDoor
namespace Go.Proofs.YtfjaobfaepjfnaaDoor
open Go.RowKit
abbrev Ent := Nd × ByteArray
end Go.Proofs.YtfjaobfaepjfnaaDoor
namespace Go.Proofs.YtfjaobfaepjfnaaDoor
open Go.RowKit
end Go.Proofs.YtfjaobfaepjfnaaDoor
namespace Go.Proofs.YtfjaobfaepjfnaaDoor
open Go.RowKit
end Go.Proofs.YtfjaobfaepjfnaaDoor
namespace Go.Proofs.YtfjaobfaepjfnaaDoor
open Go.RowKit
def sgnI (a b : Int) : Int := if a < b then -1 else if b < a then 1 else 0
def sgnT (a b : ByteArray) : Int := if lt a b then -1 else if lt b a then 1 else 0
end Go.Proofs.YtfjaobfaepjfnaaDoor
namespace Go.Proofs.YtfjaobfaepjfnaaDoor
open Go.RowKit
mutual
def cmpN : Nd → Nd → Int
  | ⟨kind, num, text, names, kids⟩, b =>
    if sgnI kind b.kind ≠ 0 then sgnI kind b.kind else if sgnI num b.num ≠ 0 then sgnI num b.num else if sgnT text b.text ≠ 0 then sgnT text b.text
    else cmpKs (decide (kind = 4)) names b.names kids b.kids
def cmpKs : Bool → List ByteArray → List ByteArray → List Nd → List Nd → Int
  | m, ns, ms, k :: ks, j :: js =>
    if m = true ∧ sgnT (ns.headD ⟨#[]⟩) (ms.headD ⟨#[]⟩) ≠ 0 then sgnT (ns.headD ⟨#[]⟩) (ms.headD ⟨#[]⟩) else if cmpN k j ≠ 0 then cmpN k j else cmpKs m ns.tail ms.tail ks js
  | _, _, _, [], js => sgnI 0 js.length
  | _, _, _, ks, [] => sgnI ks.length 0
end
end Go.Proofs.YtfjaobfaepjfnaaDoor
namespace Go.Proofs.YtfjaobfaepjfnaaDoor
open Go.RowKit
end Go.Proofs.YtfjaobfaepjfnaaDoor
namespace Go.Proofs.YtfjaobfaepjfnaaDoor
open Go.RowKit
def frB (lo hi : Nd) (e : Ent) : Bool := decide (cmpN lo e.1 ≤ 0) && decide (cmpN e.1 hi ≤ 0)
def OwnS (w w' : World) (xs : List ByteArray) (v : Value) : Prop := ∃ a c fp, v = .slice a xs.length c ∧ StrsF w' a c xs fp ∧ Free w.heap.size w' fp
theorem OwnS.nil (w w' : World) : OwnS w w' [] (.slice none 0 0) := ⟨none, 0, [], rfl, ⟨Nat.le_refl _, Nat.zero_le _, by simp, .inl ⟨rfl, rfl⟩⟩, Free.nil _ _⟩
theorem OwnS.grow {w w' w'' : World} {xs : List ByteArray} {v : Value} (h : OwnS w w' xs v) (hg : Grow w' w'') : OwnS w w'' xs v := by
  obtain ⟨a, c, fp, hv, h1, h2⟩ := h
  exact ⟨a, c, fp, hv, h1.keep (hg.keeps h2 (fun _ _ h => h)), h2.ext hg (fun _ _ h => h)⟩
theorem Free.down {B B' : Nat} {w : World} {fp : List Nat} (h : Free B w fp) (hb : B' ≤ B) : Free B' w fp := ⟨h.1, fun y hy => ⟨Nat.le_trans hb (h.2 y hy).1, (h.2 y hy).2⟩⟩
theorem OwnS.row {w w' : World} {B : Nat} {T : TypeId} {v : Value} {n : Nat} {xs : List ByteArray} (hB : w.heap.size ≤ B) (h : w'.ownsRow B T 1 v n (xs.map Value.string)) (hx : ∀ x ∈ xs, x.size ≤ big) : OwnS w w' xs v := by
  obtain ⟨a, c, fp, hv, h1, h2, _⟩ := strs_of_row h hx
  exact ⟨a, c, fp, hv, h1, h2.down hB⟩
end Go.Proofs.YtfjaobfaepjfnaaDoor
namespace Go.Proofs.YtfjaobfaepjfnaaDoor
open Go.RowKit
def Seg (A Z : Nat) (w : World) (fp : List Nat) : Prop := Free A w fp ∧ ∀ y ∈ fp, y < Z
theorem Seg.of {A : Nat} {w : World} {fp : List Nat} (h : Free A w fp) : Seg A w.heap.size w fp := ⟨h, fun y hy => (h.2 y hy).2.1⟩
theorem Seg.grow {A Z : Nat} {w w' : World} {fp : List Nat} (h : Seg A Z w fp) (hg : Grow w w') : Seg A Z w' fp := ⟨h.1.ext hg (fun _ _ h => h), h.2⟩
theorem Seg.off {A Z A' Z' : Nat} {w w0 : World} {fp fx : List Nat} (h : Seg A Z w fp) (hx : Seg A' Z' w0 fx) (hd : Z ≤ A' ∨ Z' ≤ A) : ∀ y ∈ fp, ¬ inl fx y := fun y hy h2 => by
  have h3 := h.2 y hy
  have h4 := (h.1.2 y hy).1
  have h5 := hx.2 y h2
  have h6 := (hx.1.2 y h2).1
  omega
theorem Seg.ext {A Z A' Z' : Nat} {w w' w0 : World} {fp fx : List Nat} (h : Seg A Z w fp) (hx : Seg A' Z' w0 fx) (hd : Z ≤ A' ∨ Z' ≤ A) (he : Ext (inl fx) w w') : Seg A Z w' fp := ⟨h.1.ext he (h.off hx hd), h.2⟩
theorem Seg.keeps {A Z A' Z' : Nat} {w w' w0 : World} {fp fx : List Nat} (h : Seg A Z w fp) (hx : Seg A' Z' w0 fx) (hd : Z ≤ A' ∨ Z' ≤ A) (he : Ext (inl fx) w w') : ∀ b ∈ fp, ∀ o, w'.cell? ⟨b, o, none⟩ = w.cell? ⟨b, o, none⟩ := he.keeps h.1 (h.off hx hd)
theorem Seg.inner {A Z : Nat} {w0 w w' : World} {fp : List Nat} (h : Seg A Z w fp) (hg : Grow w0 w) (he : Ext (inl fp) w w') (hA : w0.heap.size ≤ A) : Grow w0 w' :=
  hg.inner he (fun i hi => Nat.le_trans hA (h.1.2 i hi).1)
theorem Seg.box {A Z b : Nat} {w0 w w' : World} {fp : List Nat} {cs : List Value} (h : Seg A Z w0 fp) (hB : BoxN w b cs) (he : Ext (inl fp) w w') (hd : b < A ∨ Z ≤ b) : BoxN w' b cs :=
  hB.ext he (fun hi => by have h3 := h.2 b hi; have h4 := (h.1.2 b hi).1; omega)
theorem Seg.below {A Z : Nat} {w0 w w' : World} {fp : List Nat} {a : Option Addr} {c Y : Nat} {xs : List ByteArray} (h : Seg A Z w0 fp) (hs : StrsR w (fun k => k < Y) a c xs) (he : Ext (inl fp) w w') (hd : Y ≤ A) : StrsR w' (fun k => k < Y) a c xs :=
  hs.ext he (fun k hk hi => by have h4 := (h.1.2 k hi).1; omega)
end Go.Proofs.YtfjaobfaepjfnaaDoor
namespace Go.Proofs.YtfjaobfaepjfnaaDoor
open Go.RowKit
def RV {α : Type} (E : Rep α) (pk : List Value → Value) (w : World) (S : Nat → Prop) (x : α) (v : Value) : Prop := ∃ cs, v = pk cs ∧ E.R w S x cs
def FV {α : Type} (E : Rep α) (pk : List Value → Value) (w : World) (x : α) (v : Value) (fp : List Nat) : Prop := ∃ cs, v = pk cs ∧ E.F w x cs fp
section
variable {α : Type} {E : Rep α} {pk : List Value → Value}
theorem RV.ext {X S : Nat → Prop} {w w' : World} {x : α} {v : Value} (h : RV E pk w S x v) (he : Ext X w w') (hS : ∀ k, S k → ¬ X k) : RV E pk w' S x v := by
  obtain ⟨cs, hv, hc⟩ := h; exact ⟨cs, hv, E.ext he hS hc⟩
theorem RV.grow {S : Nat → Prop} {w w' : World} {x : α} {v : Value} (h : RV E pk w S x v) (hg : Grow w w') : RV E pk w' S x v := h.ext hg (fun _ _ h => h)
theorem RV.mono {S T : Nat → Prop} {w : World} {x : α} {v : Value} (h : RV E pk w S x v) (hS : ∀ k, S k → T k) : RV E pk w T x v := by
  obtain ⟨cs, hv, hc⟩ := h; exact ⟨cs, hv, E.mono hS hc⟩
theorem RV.any {S : Nat → Prop} {w : World} {x : α} {v : Value} (h : RV E pk w S x v) : RV E pk w any x v := h.mono (fun _ _ => trivial)
theorem FV.keep {w w' : World} {x : α} {v : Value} {fp : List Nat} (h : FV E pk w x v fp) (hk : ∀ b ∈ fp, ∀ o, w'.cell? ⟨b, o, none⟩ = w.cell? ⟨b, o, none⟩) : FV E pk w' x v fp := by
  obtain ⟨cs, hv, hc⟩ := h; exact ⟨cs, hv, E.keep hc hk⟩
theorem FV.rv {w : World} {x : α} {v : Value} {fp : List Nat} (h : FV E pk w x v fp) : RV E pk w Go.Proofs.YtfjaobfaepjfnaaDoor.any x v := by
  obtain ⟨cs, hv, hc⟩ := h; exact ⟨cs, hv, E.toR hc (fun _ _ => trivial)⟩
theorem FV.grow {w w' : World} {x : α} {v : Value} {fp : List Nat} {A Z : Nat} (h : FV E pk w x v fp) (hs : Seg A Z w fp) (hg : Grow w w') : FV E pk w' x v fp := h.keep (hg.keeps hs.1 (fun _ _ h => h))
theorem Seg.rv {A Z Y : Nat} {w0 w w' : World} {fp : List Nat} {x : α} {v : Value} (h : Seg A Z w0 fp) (hs : RV E pk w (fun k => k < Y) x v) (he : Ext (inl fp) w w') (hd : Y ≤ A) : RV E pk w' (fun k => k < Y) x v :=
  hs.ext he (fun k hk hi => by have h4 := (h.1.2 k hi).1; omega)
end
end Go.Proofs.YtfjaobfaepjfnaaDoor
namespace Go.Proofs.YtfjaobfaepjfnaaDoor.Eng
open Go Go.RowKit
structure Lb where
  kind : Int
  num : Int
  text : ByteArray
  names : List ByteArray
  nb : Nat
  kids : List Lb
  kb : Nat
theorem Lb.ind' (P : Lb → Prop) (h : ∀ n : Lb, (∀ k ∈ n.kids, P k) → P n) : ∀ n, P n := by
  intro n
  refine Lb.rec (motive_1 := P) (motive_2 := fun l => ∀ k ∈ l, P k) ?_ ?_ ?_ n
  · intro kind num text names nb kids kb ih
    exact h _ ih
  · intro k hk; cases hk
  · intro k ks h1 h2 x hx
    rcases List.mem_cons.1 hx with rfl | hx
    · exact h1
    · exact h2 _ hx
mutual
def Lb.nd : Lb → Nd
  | ⟨kind, num, text, names, _, kids, _⟩ => ⟨kind, num, text, names, Lb.nds kids⟩
def Lb.nds : List Lb → List Nd
  | [] => []
  | k :: ks => Lb.nd k :: Lb.nds ks
end
theorem nds_map : ∀ (ks : List Lb), Lb.nds ks = ks.map Lb.nd
  | [] => by unfold Lb.nds; rfl
  | k :: ks => by unfold Lb.nds; rw [nds_map ks]; rfl
theorem nd_eq (n : Lb) : n.nd = ⟨n.kind, n.num, n.text, n.names, n.kids.map Lb.nd⟩ := by cases n; unfold Lb.nd; rw [nds_map]
mutual
def labL : Lb → List AV
  | ⟨kind, num, text, names, nb, kids, kb⟩ => [.int .i64 kind, .int .i64 num, .str text, .view (.fr nb) 1 (strsE names), .view (.fr kb) 5 (labsL kids)]
def labsL : List Lb → List (List AV)
  | [] => []
  | k :: ks => labL k :: labsL ks
end
def labA (n : Lb) : AV := .agg (labL n)
theorem labsL_map : ∀ (ks : List Lb), labsL ks = ks.map labL
  | [] => by unfold labsL; rfl
  | k :: ks => by unfold labsL; rw [labsL_map ks]; rfl
theorem labL_eq (n : Lb) : labL n = [.int .i64 n.kind, .int .i64 n.num, .str n.text, .view (.fr n.nb) 1 (strsE n.names), .view (.fr n.kb) 5 (n.kids.map labL)] := by
  cases n; unfold labL; rw [labsL_map]
theorem labL_len (n : Lb) : (labL n).length = 5 := by rw [labL_eq]; rfl
theorem labL_pur : ∀ (n : Lb), ∀ c ∈ labL n, Pur c := Lb.ind' _ (fun n ih c hc => by
  rw [labL_eq] at hc
  simp only [List.mem_cons, List.not_mem_nil, or_false] at hc
  rcases hc with rfl | rfl | rfl | rfl | rfl
  · exact pur_int
  · exact pur_int
  · exact pur_str
  · exact pur_view (by simp) (strsE_pur _)
  · refine pur_view (by simp) (fun e he c hc => ?_)
    rw [List.mem_map] at he
    obtain ⟨k, hk, rfl⟩ := he
    exact ih k hk c hc)
theorem lab_pur (n : Lb) : Pur (labA n) := pur_agg (labL_pur n)
theorem lab_clo (n : Lb) : Clo (labA n) := (lab_pur n).clo
theorem labsE_pur (ks : List Lb) : ∀ e ∈ ks.map labL, ∀ c ∈ e, Pur c := fun e he c hc => by
  rw [List.mem_map] at he
  obtain ⟨k, hk, rfl⟩ := he
  exact labL_pur k c hc
theorem labL_in {U : Nat → Bool} : ∀ (n : Lb), ∀ c ∈ labL n, AV.In U c := Lb.ind' _ (fun n ih c hc => by
  rw [labL_eq] at hc
  simp only [List.mem_cons, List.not_mem_nil, or_false] at hc
  rcases hc with rfl | rfl | rfl | rfl | rfl
  · exact in_int
  · exact in_int
  · exact in_str
  · exact in_view.2 (strsE_in _)
  · refine in_view.2 (fun e he c hc => ?_)
    rw [List.mem_map] at he
    obtain ⟨k, hk, rfl⟩ := he
    exact ih k hk c hc)
theorem lab_in {U : Nat → Bool} (n : Lb) : AV.In U (labA n) := in_agg.2 (labL_in n)
theorem labsE_in {U : Nat → Bool} (ks : List Lb) : ∀ e ∈ ks.map labL, ∀ c ∈ e, AV.In U c := fun e he c hc => by
  rw [List.mem_map] at he
  obtain ⟨k, hk, rfl⟩ := he
  exact labL_in k c hc
theorem labL_sub {id m : Nat} {c : AV} (n : Lb) : AV.subL id m c (labL n) = labL n := by rw [labL_eq]; simp [AV.subL, AV.sub]
theorem labsE_sub {id m : Nat} {c : AV} (ks : List Lb) : (ks.map labL).map (AV.subL id m c) = ks.map labL := by
  rw [List.map_map]; exact List.map_congr_left (fun k _ => labL_sub k)
def Lb.fp (n : Lb) : List Nat := atL (labL n)
theorem at_strsE : ∀ (xs : List ByteArray), atE (strsE xs) = []
  | [] => by unfold strsE; rw [List.map_nil, atE_nil]
  | x :: xs => by
    have := at_strsE xs
    unfold strsE at this ⊢
    rw [List.map_cons, atE_cons, this, atL_cons, at_str, atL_nil]; rfl
theorem atE_labs : ∀ (ks : List Lb), atE (ks.map labL) = ks.flatMap Lb.fp
  | [] => by rw [List.map_nil, atE_nil]; rfl
  | k :: ks => by rw [List.map_cons, atE_cons, atE_labs ks]; rfl
theorem fp_eq (n : Lb) : n.fp = frB (.fr n.nb) n.names.isEmpty ++ (frB (.fr n.kb) n.kids.isEmpty ++ n.kids.flatMap Lb.fp) := by
  have e1 : (strsE n.names).isEmpty = n.names.isEmpty := by unfold strsE; cases n.names <;> rfl
  have e2 : (n.kids.map labL).isEmpty = n.kids.isEmpty := by cases n.kids <;> rfl
  show atL (labL n) = _
  rw [labL_eq, atL_cons, atL_cons, atL_cons, atL_cons, atL_cons, atL_nil, at_int, at_int, at_str, at_view, at_view, at_strsE, atE_labs, e1, e2]
  simp
theorem at_lab (n : Lb) : atB (labA n) = n.fp := by unfold labA Lb.fp; rw [at_agg]
theorem labL_wk : ∀ (n : Lb), WkL (labL n) (nodeL n.nd) := Lb.ind' _ (fun n ih => by
  rw [labL_eq, nd_eq, nodeL_eq]
  dsimp only
  refine .cons (Wk.refl _) (.cons (Wk.refl _) (.cons (Wk.refl _) (.cons (Wk.loose (by simp)) (.cons (Wk.view (by simp) ?_) .nil))))
  have aux : ∀ ks : List Lb, (∀ k ∈ ks, WkL (labL k) (nodeL k.nd)) → WkE (ks.map labL) ((ks.map Lb.nd).map nodeL) := fun ks h => by
    induction ks with
    | nil => exact .nil
    | cons k ks ih2 => exact .cons (h k (by simp)) (ih2 (fun x hx => h x (by simp [hx])))
  exact aux _ (fun k hk => ih k hk))
section
variable {w : World} {ρ : Cx}
end
end Go.Proofs.YtfjaobfaepjfnaaDoor.Eng
-- EV: fresh
namespace Go.Proofs.YtfjaobfaepjfnaaDoor.Eng
open Go Go.RowKit
attribute [local simp] big size_mk ASt.pay Option.map_map Function.comp_def awant aop acall ado aev ofVal ofVal0 ASt.put ASt.add ASt.turn ASt.kill abox aalloc astore aload aloadD astoreD idOf ASt.at cellsTo afieldAddr afield aindexAddr aindex alen abin aint acmp astr aun apick aextract anil aslice abound abuild afill abuildSlice asCells aps avCells over upd aappend asrc amax amin aconv mkSt slots rowsOf_cons rowsOf_nil usedOf_cons usedOf_nil ZK.av List.replicate ASt.back ASt.addL ASt.killL nodeA nodeT nodeTL_eq nodeL_eq strsE_get strsE_len intsE_get intsE_len strsE_at intsE_at tab2 tab3 tab4 tab5 tab6 tab7 tab8 tab9 tab10 tab11 tab12 tab13 tab14 tab15 tab16 tab17 tab18 tab19 tab21 tab22 tab23 tab24 tab25 tab26 tab28 tab29 tab30 tab31 tab42 tab43 tab44 tab46 tab63 tab64 tab67 tab68 tab75 tab98 tab100 tab101 tab105 tab106 tab107 tab122 tab123 tab125 tab128 tab138 tab144 tab151 tab152 tab157 tab158 tab160 tab161 tab162
def labsR (ks : List Lb) : Row := ⟨false, 26, 5, ks.map labL⟩
def rLab (n : Nd) (r : AV) : Prop := ∃ l : Lb, l.nd = n ∧ l.fp.Nodup ∧ r = labA l
def rLabX (n : Nd) (r : AV) : Prop := ∃ l : Lb, l.nd = n ∧ l.fp.Nodup ∧ r = .agg [.int .i64 l.kind, .int .i64 l.num, .str l.text, .view (.fr l.nb) 1 (strsE l.names), .view (.fr l.kb) 5 (l.kids.map labL)]
theorem rLab_X {n : Nd} {r : AV} (h : rLab n r) : rLabX n r := by
  obtain ⟨l, h1, h2, rfl⟩ := h
  exact ⟨l, h1, h2, by unfold labA; rw [labL_eq]⟩
def partF (ls : List Lb) (m : Nat) : List (List AV) := ls.map labL ++ List.replicate (m - ls.length) zeroN
theorem partF_len (ls : List Lb) (m : Nat) (h : ls.length ≤ m) : (partF ls m).length = m := by unfold partF; simp; omega
theorem partF_get (ls : List Lb) (m : Nat) (h : ls.length < m) : (partF ls m)[ls.length]? = some [.int .i64 0, .int .i64 0, .str ⟨#[]⟩, .view .tight 0 [], .view .tight 0 []] := by
  unfold partF
  rw [List.getElem?_append_right (by simp), List.length_map, Nat.sub_self, List.getElem?_replicate, if_pos (by omega)]
  rfl
theorem partF_set (ls : List Lb) (m : Nat) (h : ls.length < m) (l : Lb) : (partF ls m).set ls.length (labL l) = partF (ls ++ [l]) m := by
  unfold partF
  rw [List.set_append_right _ _ (by simp), List.length_map, Nat.sub_self]
  have : m - ls.length = (m - (ls ++ [l]).length) + 1 := by rw [List.length_append, List.length_singleton]; omega
  rw [this, List.replicate_succ, List.set_cons_zero, List.map_append, List.append_assoc]
  rfl
theorem partF_in {U : Nat → Bool} (ls : List Lb) (m : Nat) : ∀ e ∈ partF ls m, ∀ c ∈ e, AV.In U c := by
  intro e he c hc
  unfold partF at he
  rcases List.mem_append.1 he with he | he
  · exact labsE_in ls e he c hc
  · rw [List.eq_of_mem_replicate he] at hc
    simp only [zeroN, List.mem_cons, List.not_mem_nil, or_false] at hc
    rcases hc with rfl | rfl | rfl | rfl | rfl
    · exact in_int
    · exact in_int
    · exact in_str
    · exact in_vnil
    · exact in_vnil
theorem at_zeroN : atL zeroN = [] := by
  unfold zeroN
  simp only [atL_cons, atL_nil, at_int, at_str, at_view, atE_nil, frB_tight, List.append_nil]
theorem at_partF (ls : List Lb) (m : Nat) : atE (partF ls m) = ls.flatMap Lb.fp := by
  unfold partF
  rw [atE_app, atE_labs]
  have : ∀ k, atE (List.replicate k zeroN) = [] := fun k => by
    induction k with
    | zero => rw [List.replicate_zero, atE_nil]
    | succ k ih => rw [List.replicate_succ, atE_cons, ih, at_zeroN]; rfl
  rw [this, List.append_nil]
theorem fp_nodup {l : Lb} (h : (l.kids.flatMap Lb.fp).Nodup) (f1 : ∀ b ∈ l.kids.flatMap Lb.fp, l.nb ≠ b) (f2 : ∀ b ∈ l.kids.flatMap Lb.fp, l.kb ≠ b) (f3 : l.names ≠ [] → l.kids ≠ [] → l.kb ≠ l.nb) : l.fp.Nodup := by
  rw [fp_eq, frB_fr, frB_fr]
  refine List.nodup_append.2 ⟨by split <;> simp, List.nodup_append.2 ⟨by split <;> simp, h, fun a ha b hb e => ?_⟩, fun a ha b hb e => ?_⟩
  · split at ha <;> simp at ha
    exact f2 b hb (by rw [← ha, e])
  · rcases List.mem_append.1 hb with hb | hb
    · split at ha <;> split at hb <;> simp at ha hb
      rename_i q1 q2
      exact f3 (fun h => by rw [h] at q1; simp at q1) (fun h => by rw [h] at q2; simp at q2) (by rw [← ha, ← hb, e])
    · split at ha <;> simp at ha
      exact f1 b hb (by rw [← ha, e])
theorem fp_ge {l : Lb} {B : Nat} (h : ∀ b ∈ l.kids.flatMap Lb.fp, B ≤ b) (g1 : B ≤ l.nb) (g2 : B ≤ l.kb) : ∀ b ∈ l.fp, B ≤ b := by
  intro b hb
  rw [fp_eq, frB_fr, frB_fr] at hb
  rcases List.mem_append.1 hb with hb | hb
  · split at hb <;> simp at hb
    rw [hb]; exact g1
  · rcases List.mem_append.1 hb with hb | hb
    · split at hb <;> simp at hb
      rw [hb]; exact g2
    · exact h b hb
theorem lab_ex : ∀ (n : Nd) (N : Nat), ∃ (l : Lb) (M : Nat), l.nd = n ∧ l.fp.Nodup ∧ N ≤ M ∧ ∀ b ∈ l.fp, N ≤ b ∧ b < M := Nd.ind' _ (fun n ih N => by
  have aux : ∀ (ks : List Nd), (∀ k ∈ ks, ∀ N, ∃ (l : Lb) (M : Nat), l.nd = k ∧ l.fp.Nodup ∧ N ≤ M ∧ ∀ b ∈ l.fp, N ≤ b ∧ b < M) → ∀ N, ∃ (ls : List Lb) (M : Nat), ls.map Lb.nd = ks ∧ (ls.flatMap Lb.fp).Nodup ∧ N ≤ M ∧ ∀ b ∈ ls.flatMap Lb.fp, N ≤ b ∧ b < M := by
    intro ks
    induction ks with
    | nil => exact fun _ N => ⟨[], N, rfl, by simp, Nat.le_refl _, by simp⟩
    | cons k ks ih2 =>
      intro h N
      obtain ⟨l, M, h1, h2, h3, h4⟩ := h k (by simp) N
      obtain ⟨ls, M', g1, g2, g3, g4⟩ := ih2 (fun x hx => h x (by simp [hx])) M
      refine ⟨l :: ls, M', by rw [List.map_cons, h1, g1], ?_, by omega, ?_⟩
      · rw [List.flatMap_cons]
        exact List.nodup_append.2 ⟨h2, g2, fun a ha b hb e => by have := (h4 a ha).2; have := (g4 b hb).1; omega⟩
      · intro b hb
        rw [List.flatMap_cons] at hb
        rcases List.mem_append.1 hb with hb | hb
        · have := h4 b hb; omega
        · have := g4 b hb; omega
  obtain ⟨ls, M, h1, h2, h3, h4⟩ := aux n.kids ih (N + 2)
  refine ⟨⟨n.kind, n.num, n.text, n.names, N, ls, N + 1⟩, M, by rw [nd_eq]; dsimp only; rw [h1]; cases n; rfl, ?_, by omega, ?_⟩
  · rw [fp_eq, frB_fr, frB_fr]
    dsimp only
    refine List.nodup_append.2 ⟨by split <;> simp, List.nodup_append.2 ⟨by split <;> simp, h2, fun a ha b hb e => ?_⟩, fun a ha b hb e => ?_⟩
    · have := (h4 b hb).1
      split at ha <;> simp at ha
      omega
    · rcases List.mem_append.1 hb with hb | hb
      · split at ha <;> split at hb <;> simp at ha hb
        omega
      · have := (h4 b hb).1
        split at ha <;> simp at ha
        omega
  · intro b hb
    rw [fp_eq, frB_fr, frB_fr] at hb
    dsimp only at hb
    rcases List.mem_append.1 hb with hb | hb
    · split at hb <;> simp at hb
      omega
    · rcases List.mem_append.1 hb with hb | hb
      · split at hb <;> simp at hb
        omega
      · have := h4 b hb; omega)
theorem rLabX_ex (n : Nd) {A : Nat → Prop} {N : Nat} (hN : ∀ b, A b → b < N) : ∃ r, (rLabX n r ∧ ∀ b ∈ atB r, ¬ A b) ∧ NoId r := by
  obtain ⟨l, M, h1, h2, _, h4⟩ := lab_ex n N
  have hr : rLab n (labA l) := ⟨l, h1, h2, rfl⟩
  exact ⟨labA l, ⟨rLab_X hr, fun b hb ha => by rw [at_lab] at hb; have := (h4 b hb).1; have := hN b ha; omega⟩, lab_in l⟩
theorem nodup_snoc {ls : List Lb} {l : Lb} (h : (ls.flatMap Lb.fp).Nodup) (k : l.fp.Nodup) (ha : ∀ b ∈ l.fp, ¬ b ∈ ls.flatMap Lb.fp) : ((ls ++ [l]).flatMap Lb.fp).Nodup := by
  rw [List.flatMap_append, List.flatMap_cons, List.flatMap_nil, List.append_nil]
  exact List.nodup_append.2 ⟨h, k, fun a h1 b h2 e => ha b h2 (e ▸ h1)⟩
theorem implCopyF_step (n : Nd) (hs : Sml n) (ih : ∀ k ∈ n.kids, ACF Tryd.prog 60 [nodeA k] 0 (rLabX k)) : ACM Tryd.prog 60 [nodeA n] 0 (fun r l => ∃ ks : List Lb, ks.map Lb.nd = n.kids ∧ (ks.flatMap Lb.fp).Nodup ∧ r = nodeRR n 20 34 ∧ l = [(20, namesR n.names), (34, labsR ks)]) := by
  have hs1 := hs.names
  have hs2 := hs.kids
  unfold nodeA at ih ⊢
  rw [nodeL_eq]
  refine ACM.of tab_ok mixed_ok Tryd.func60 (by rfl) (by kernel_rfl) ?_; rintro ⟨P, T, hT, hm, w0, S0, rd0, k0⟩ hP hTT hN; dsimp only at hP hTT hN; subst hP hTT; dsimp only; unfold initStG; rw [Tryd.ntmps60]
  refine AW.seq ?_
  (refine AW.regionK [] (fun K hK => ?_); (repeat (refine arun_ks 4 rfl (fun C hC => ?_); (repeat ((conv => whnf); simp)); refine hC _ ?_; clear hC C; simp only [List.drop_succ_cons, List.drop_zero, List.drop_nil])); refine arun_nil ?_; refine hK _ ?_; clear hK K; simp only [thenA_normal, inBlockA_normal, endQ_normal, endR_normal])
  refine AW.seq ?_
  (refine AW.regionK [] (fun K hK => ?_); (repeat (refine arun_ks 4 rfl (fun C hC => ?_); (repeat ((conv => whnf); simp)); refine hC _ ?_; clear hC C; simp only [List.drop_succ_cons, List.drop_zero, List.drop_nil])); refine arun_nil ?_; refine hK _ ?_; clear hK K; simp only [thenA_normal, inBlockA_normal, endQ_normal, endR_normal])
  refine AW.seq ?_
  refine AW.cutN (fun (_ : Unit) => mkSt (slots 0 52 [(1, .ptr true 5 1 1 0 0), (2, .ptr true 5 1 2 0 0), (3, .ptr true 5 1 3 0 0)]) [(1, ⟨true, 26, 5, [[.int .i64 n.kind, .int .i64 n.num, .str n.text, .view .loose 1 (strsE n.names), .view .loose 5 (n.kids.map nodeL)]]⟩), (2, ⟨true, 26, 5, [zeroN]⟩), (3, ⟨true, 26, 5, [[.int .i64 n.kind, .int .i64 n.num, .str n.text, .own 20 n.names.length, .view .tight 0 []]]⟩), (20, namesR n.names)] [1, 2, 3, 20] (rd0.map fun _ => 0)) (fun _ => True) ?_ ?_
  · by_cases hn0 : 0 < n.names.length
    · (repeat (first | with_reducible refine AW.seq ?_ | ((first | refine arun_kn 4 rfl (fun C hC => ?_) | refine arunD_kn 4 rfl (fun C hC => ?_)); (repeat ((conv => whnf); simp [hn0])); refine hC _ ?_; clear hC C; simp only [List.drop, Nat.reduceAdd]) | ((first | refine arun_kn 1 rfl (fun C hC => ?_) | refine arunD_kn 1 rfl (fun C hC => ?_)); (repeat ((conv => whnf); simp [hn0])); refine hC _ ?_; clear hC C; simp only [List.drop, Nat.reduceAdd]) | (refine arun_skip ?_ ?_; (focus (simp [awant, hn0]; done))) | (refine AW.regionK [] (fun K hK => ?_)) | (refine AW.regionDK [] (pcs [] []) (by kernel_rfl) (by kernel_rfl) (fun K hK => ?_)) | (refine AW.condT ?_ ?_; (focus (simp [aev, hn0]; done))) | (refine AW.condF ?_ ?_; (focus (simp [aev, hn0]; done))) | with_reducible refine AW.block ?_ | ((first | ((first | refine arun_nil ?_ | refine arunD_nil ?_); refine hK _ ?_; clear hK K) | refine AW.skip ?_ | refine AW.exit ?_ | refine AW.ret ?_); simp only [thenA_exit, inBlockA_exit, if_true, if_false, Nat.reduceEqDiff, thenA_normal, inBlockA_normal, reduceIte, thenA_ret, inBlockA_ret, endQ_ret, endR_ret, endG_ret, endQ_normal, endR_normal, endG_normal, endF_ret, endF_normal])))
      refine arun_make 20 rfl (by simp [awant]) rfl tab23 tab9 (by decide) rfl (by dsimp only; omega) (by unfold maxLen; omega) (by simp [upd]) ?_
      (repeat (first | with_reducible refine AW.seq ?_ | ((first | refine arun_kn 4 rfl (fun C hC => ?_) | refine arunD_kn 4 rfl (fun C hC => ?_)); (repeat ((conv => whnf); simp [hn0])); refine hC _ ?_; clear hC C; simp only [List.drop, Nat.reduceAdd]) | ((first | refine arun_kn 1 rfl (fun C hC => ?_) | refine arunD_kn 1 rfl (fun C hC => ?_)); (repeat ((conv => whnf); simp [hn0])); refine hC _ ?_; clear hC C; simp only [List.drop, Nat.reduceAdd]) | (refine arun_skip ?_ ?_; (focus (simp [awant, hn0]; done))) | (refine AW.regionK [] (fun K hK => ?_)) | (refine AW.regionDK [] (pcs [] []) (by kernel_rfl) (by kernel_rfl) (fun K hK => ?_)) | (refine AW.condT ?_ ?_; (focus (simp [aev, hn0]; done))) | (refine AW.condF ?_ ?_; (focus (simp [aev, hn0]; done))) | with_reducible refine AW.block ?_ | ((first | ((first | refine arun_nil ?_ | refine arunD_nil ?_); refine hK _ ?_; clear hK K) | refine AW.skip ?_ | refine AW.exit ?_ | refine AW.ret ?_); simp only [thenA_exit, inBlockA_exit, if_true, if_false, Nat.reduceEqDiff, thenA_normal, inBlockA_normal, reduceIte, thenA_ret, inBlockA_ret, endQ_ret, endR_ret, endG_ret, endQ_normal, endR_normal, endG_normal, endF_ret, endF_normal])))
      refine arun_copyAll (r := ⟨false, 9, 1, List.replicate n.names.length [AV.str ⟨#[]⟩]⟩) rfl (by simp [awant]) rfl (by simp [upd]) rfl rfl List.length_replicate rfl (strsE_len _) tab23 tab9 rfl ?_
      (repeat (first | with_reducible refine AW.seq ?_ | ((first | refine arun_kn 4 rfl (fun C hC => ?_) | refine arunD_kn 4 rfl (fun C hC => ?_)); (repeat ((conv => whnf); simp [hn0])); refine hC _ ?_; clear hC C; simp only [List.drop, Nat.reduceAdd]) | ((first | refine arun_kn 1 rfl (fun C hC => ?_) | refine arunD_kn 1 rfl (fun C hC => ?_)); (repeat ((conv => whnf); simp [hn0])); refine hC _ ?_; clear hC C; simp only [List.drop, Nat.reduceAdd]) | (refine arun_skip ?_ ?_; (focus (simp [awant, hn0]; done))) | (refine AW.regionK [] (fun K hK => ?_)) | (refine AW.regionDK [] (pcs [] []) (by kernel_rfl) (by kernel_rfl) (fun K hK => ?_)) | (refine AW.condT ?_ ?_; (focus (simp [aev, hn0]; done))) | (refine AW.condF ?_ ?_; (focus (simp [aev, hn0]; done))) | with_reducible refine AW.block ?_ | ((first | ((first | refine arun_nil ?_ | refine arunD_nil ?_); refine hK _ ?_; clear hK K) | refine AW.skip ?_ | refine AW.exit ?_ | refine AW.ret ?_); simp only [thenA_exit, inBlockA_exit, if_true, if_false, Nat.reduceEqDiff, thenA_normal, inBlockA_normal, reduceIte, thenA_ret, inBlockA_ret, endQ_ret, endR_ret, endG_ret, endQ_normal, endR_normal, endG_normal, endF_ret, endF_normal])))
      exact ⟨(), trivial, (less_of (by simp [lessL, mkSt, slots, namesR, zeroN]) (by simp [upd, mkSt, rowsOf_cons, namesR, zeroN]) (by simp [upd, mkSt, usedOf_cons, namesR, zeroN]) (by first | exact rd_less (by omega) | simp [mkSt, namesR, zeroN]) (by simp [slots, in_any, in_int, in_bool, in_str, in_ptr, in_own, in_agg, in_vnil, in_rdr, usedOf_cons, usedOf_nil, strs_in, ints_in, nodes_in, in_tup, namesR, zeroN]) (by simp only [List.forall_mem_cons, List.not_mem_nil, false_implies, implies_true, and_true, true_and, namesR, zeroN]; (repeat (first | with_reducible exact trivial | with_reducible refine And.intro ?_ ?_ | with_reducible exact in_int | with_reducible exact in_str | with_reducible exact in_bool | with_reducible exact strs_in _ | with_reducible exact nodes_in _ | with_reducible exact items_in _ | with_reducible exact in_vnil | with_reducible exact in_any | exact hin _ | with_reducible refine take_in ?_ | with_reducible exact strsE_in _ | with_reducible exact nodesE_in _ | with_reducible exact nodeL_in _ | with_reducible exact itemsE_in _ | with_reducible exact itemL_in _ | with_reducible refine app_in ?_ ?_ | with_reducible refine sing_in ?_ | (focus (simp [in_any, in_int, in_bool, in_str, in_ptr, in_own, in_agg, in_vnil, in_rdr, usedOf_cons, usedOf_nil, strs_in, ints_in, nodes_in, namesR, zeroN]; done)))); done))⟩
    · have hl0 : n.names.length = 0 := by omega
      have he0 : n.names = [] := List.length_eq_zero_iff.1 hl0
      refine AW.adoptB 3 3 20 9 1 ⟨_, tab9, rfl⟩ (by simp [upd]; rfl) rfl rfl (by simp [upd]) ?_
      simp only [ASt.adoptB]
      (repeat (first | with_reducible refine AW.seq ?_ | ((first | refine arun_kn 4 rfl (fun C hC => ?_) | refine arunD_kn 4 rfl (fun C hC => ?_)); (repeat ((conv => whnf); simp [hl0])); refine hC _ ?_; clear hC C; simp only [List.drop, Nat.reduceAdd]) | ((first | refine arun_kn 1 rfl (fun C hC => ?_) | refine arunD_kn 1 rfl (fun C hC => ?_)); (repeat ((conv => whnf); simp [hl0])); refine hC _ ?_; clear hC C; simp only [List.drop, Nat.reduceAdd]) | (refine arun_skip ?_ ?_; (focus (simp [awant, hl0]; done))) | (refine AW.regionK [] (fun K hK => ?_)) | (refine AW.regionDK [] (pcs [] []) (by kernel_rfl) (by kernel_rfl) (fun K hK => ?_)) | (refine AW.condT ?_ ?_; (focus (simp [aev, hl0]; done))) | (refine AW.condF ?_ ?_; (focus (simp [aev, hl0]; done))) | with_reducible refine AW.block ?_ | ((first | ((first | refine arun_nil ?_ | refine arunD_nil ?_); refine hK _ ?_; clear hK K) | refine AW.skip ?_ | refine AW.exit ?_ | refine AW.ret ?_); simp only [thenA_exit, inBlockA_exit, if_true, if_false, Nat.reduceEqDiff, thenA_normal, inBlockA_normal, reduceIte, thenA_ret, inBlockA_ret, endQ_ret, endR_ret, endG_ret, endQ_normal, endR_normal, endG_normal, endF_ret, endF_normal])))
      exact ⟨(), trivial, (less_of (by simp [lessL, mkSt, slots, namesR, zeroN, he0, strsE]) (by simp [upd, mkSt, rowsOf_cons, namesR, zeroN, he0, strsE]) (by simp [upd, mkSt, usedOf_cons, namesR, zeroN, he0, strsE]) (by first | exact rd_less (by omega) | simp [mkSt, namesR, zeroN, he0, strsE]) (by simp [slots, in_any, in_int, in_bool, in_str, in_ptr, in_own, in_agg, in_vnil, in_rdr, usedOf_cons, usedOf_nil, strs_in, ints_in, nodes_in, in_tup, namesR, zeroN, he0, strsE]) (by simp only [List.forall_mem_cons, List.not_mem_nil, false_implies, implies_true, and_true, true_and, namesR, zeroN, he0, strsE]; (repeat (first | with_reducible exact trivial | with_reducible refine And.intro ?_ ?_ | with_reducible exact in_int | with_reducible exact in_str | with_reducible exact in_bool | with_reducible exact strs_in _ | with_reducible exact nodes_in _ | with_reducible exact items_in _ | with_reducible exact in_vnil | with_reducible exact in_any | exact hin _ | with_reducible refine take_in ?_ | with_reducible exact strsE_in _ | with_reducible exact nodesE_in _ | with_reducible exact nodeL_in _ | with_reducible exact itemsE_in _ | with_reducible exact itemL_in _ | with_reducible refine app_in ?_ ?_ | with_reducible refine sing_in ?_ | (focus (simp [in_any, in_int, in_bool, in_str, in_ptr, in_own, in_agg, in_vnil, in_rdr, usedOf_cons, usedOf_nil, strs_in, ints_in, nodes_in, namesR, zeroN, he0, strsE]; done)))); done))⟩
  rintro ⟨⟩ s' - hls
  refine AW.less _ hls ?_
  clear hls s'
  refine AW.seq ?_
  refine AW.cutN (fun (ks : List Lb) => mkSt (slots 0 52 [(2, .ptr true 5 1 2 0 0), (3, .ptr true 5 1 3 0 0)]) [(2, ⟨true, 26, 5, [zeroN]⟩), (3, ⟨true, 26, 5, [[.int .i64 n.kind, .int .i64 n.num, .str n.text, .own 20 n.names.length, .own 34 n.kids.length]]⟩), (20, namesR n.names), (34, labsR ks)] [2, 3, 20, 34] (rd0.map fun _ => 0)) (fun ks => ks.map Lb.nd = n.kids ∧ (ks.flatMap Lb.fp).Nodup ∧ ∀ b ∈ ks.flatMap Lb.fp, w0.wd.heap.size ≤ b) ?_ ?_
  · by_cases hn0 : 0 < n.kids.length
    · (repeat (first | with_reducible refine AW.seq ?_ | ((first | refine arun_kn 4 rfl (fun C hC => ?_) | refine arunD_kn 4 rfl (fun C hC => ?_)); (repeat ((conv => whnf); simp [hn0])); refine hC _ ?_; clear hC C; simp only [List.drop, Nat.reduceAdd]) | ((first | refine arun_kn 1 rfl (fun C hC => ?_) | refine arunD_kn 1 rfl (fun C hC => ?_)); (repeat ((conv => whnf); simp [hn0])); refine hC _ ?_; clear hC C; simp only [List.drop, Nat.reduceAdd]) | (refine arun_skip ?_ ?_; (focus (simp [awant, hn0]; done))) | (refine AW.regionK [] (fun K hK => ?_)) | (refine AW.regionDK [] (pcs [] []) (by kernel_rfl) (by kernel_rfl) (fun K hK => ?_)) | (refine AW.condT ?_ ?_; (focus (simp [aev, hn0]; done))) | (refine AW.condF ?_ ?_; (focus (simp [aev, hn0]; done))) | with_reducible refine AW.block ?_ | ((first | ((first | refine arun_nil ?_ | refine arunD_nil ?_); refine hK _ ?_; clear hK K) | refine AW.skip ?_ | refine AW.exit ?_ | refine AW.ret ?_); simp only [thenA_exit, inBlockA_exit, if_true, if_false, Nat.reduceEqDiff, thenA_normal, inBlockA_normal, reduceIte, thenA_ret, inBlockA_ret, endQ_ret, endR_ret, endG_ret, endQ_normal, endR_normal, endG_normal, endF_ret, endF_normal])))
      refine arun_make 34 rfl (by simp [awant]) rfl tab24 tab26 (by decide) rfl (by dsimp only; omega) (by unfold maxLen; omega) (by simp [upd]) ?_
      (repeat (first | with_reducible refine AW.seq ?_ | ((first | refine arun_kn 4 rfl (fun C hC => ?_) | refine arunD_kn 4 rfl (fun C hC => ?_)); (repeat ((conv => whnf); simp [hn0])); refine hC _ ?_; clear hC C; simp only [List.drop, Nat.reduceAdd]) | ((first | refine arun_kn 1 rfl (fun C hC => ?_) | refine arunD_kn 1 rfl (fun C hC => ?_)); (repeat ((conv => whnf); simp [hn0])); refine hC _ ?_; clear hC C; simp only [List.drop, Nat.reduceAdd]) | (refine arun_skip ?_ ?_; (focus (simp [awant, hn0]; done))) | (refine AW.regionK [] (fun K hK => ?_)) | (refine AW.regionDK [] (pcs [] []) (by kernel_rfl) (by kernel_rfl) (fun K hK => ?_)) | (refine AW.condT ?_ ?_; (focus (simp [aev, hn0]; done))) | (refine AW.condF ?_ ?_; (focus (simp [aev, hn0]; done))) | with_reducible refine AW.block ?_ | ((first | ((first | refine arun_nil ?_ | refine arunD_nil ?_); refine hK _ ?_; clear hK K) | refine AW.skip ?_ | refine AW.exit ?_ | refine AW.ret ?_); simp only [thenA_exit, inBlockA_exit, if_true, if_false, Nat.reduceEqDiff, thenA_normal, inBlockA_normal, reduceIte, thenA_ret, inBlockA_ret, endQ_ret, endR_ret, endG_ret, endQ_normal, endR_normal, endG_normal, endF_ret, endF_normal])))
      refine AW.loopS (fun (ls : List Lb) => mkSt (slots 0 52 [(1, .ptr true 5 1 1 0 0), (2, .ptr true 5 1 2 0 0), (3, .ptr true 5 1 3 0 0), (37, .view .loose 5 (n.kids.map nodeL)), (38, .int .i64 n.kids.length), (39, .int .i64 ls.length)]) [(1, ⟨true, 26, 5, [[.int .i64 n.kind, .int .i64 n.num, .str n.text, .view .loose 1 (strsE n.names), .view .loose 5 (n.kids.map nodeL)]]⟩), (2, ⟨true, 26, 5, [zeroN]⟩), (3, ⟨true, 26, 5, [[.int .i64 n.kind, .int .i64 n.num, .str n.text, .own 20 n.names.length, .own 34 n.kids.length]]⟩), (20, namesR n.names), (34, ⟨false, 26, 5, partF ls n.kids.length⟩)] [1, 2, 3, 20, 34] (rd0.map fun _ => 0)) (fun ls => n.kids.length - ls.length) (fun ls => ls.map Lb.nd = n.kids.take ls.length ∧ ls.length ≤ n.kids.length ∧ (ls.flatMap Lb.fp).Nodup ∧ ∀ b ∈ ls.flatMap Lb.fp, w0.wd.heap.size ≤ b) [] ?_ ⟨rfl, Nat.zero_le _, List.nodup_nil, fun b hb => by cases hb⟩ ?_
      · have hin : ∀ U : Nat → Bool, ∀ e ∈ partF [] n.kids.length, ∀ c ∈ e, AV.In U c := fun U => partF_in _ _
        have e0 : partF [] n.kids.length = List.replicate n.kids.length zeroN := rfl
        rw [e0] at hin ⊢
        exact (less_of (by simp [lessL, mkSt, slots, namesR, zeroN]) (by simp [upd, mkSt, rowsOf_cons, namesR, zeroN]) (by simp [upd, mkSt, usedOf_cons, namesR, zeroN]) (by first | exact rd_less (by omega) | simp [mkSt, namesR, zeroN]) (by simp [slots, in_any, in_int, in_bool, in_str, in_ptr, in_own, in_agg, in_vnil, in_rdr, usedOf_cons, usedOf_nil, strs_in, ints_in, nodes_in, in_tup, namesR, zeroN]) (by simp only [List.forall_mem_cons, List.not_mem_nil, false_implies, implies_true, and_true, true_and, namesR, zeroN]; (repeat (first | with_reducible exact trivial | with_reducible refine And.intro ?_ ?_ | with_reducible exact in_int | with_reducible exact in_str | with_reducible exact in_bool | with_reducible exact strs_in _ | with_reducible exact nodes_in _ | with_reducible exact items_in _ | with_reducible exact in_vnil | with_reducible exact in_any | exact hin _ | with_reducible refine take_in ?_ | with_reducible exact strsE_in _ | with_reducible exact nodesE_in _ | with_reducible exact nodeL_in _ | with_reducible exact itemsE_in _ | with_reducible exact itemL_in _ | with_reducible refine app_in ?_ ?_ | with_reducible refine sing_in ?_ | (focus (simp [in_any, in_int, in_bool, in_str, in_ptr, in_own, in_agg, in_vnil, in_rdr, usedOf_cons, usedOf_nil, strs_in, ints_in, nodes_in, namesR, zeroN]; done)))); done))
      · rintro ls ⟨hnd, hi, hnp, hge⟩
        have hpl := partF_len ls n.kids.length hi
        by_cases hlt : ls.length < n.kids.length
        · have hw : IntKind.i64.wrap ((ls.length : Int) + 1) = ((ls.length + 1 : Nat) : Int) := by rw [i64_nat (by omega) (by omega)]; simp
          have hg := partF_get ls n.kids.length hlt
          have hgd : ∀ h, (partF ls n.kids.length)[ls.length]'h = [.int .i64 0, .int .i64 0, .str ⟨#[]⟩, .view .tight 0 [], .view .tight 0 []] := fun h => by
            rw [List.getElem?_eq_getElem h] at hg; exact Option.some.inj hg
          have hik := ih n.kids[ls.length] (List.getElem_mem hlt)
          have hck := node_clo n.kids[ls.length]
          unfold nodeA at hck
          rw [nodeL_eq n.kids[ls.length]] at hik hck
          have x1 : (n.kids.map nodeL)[ls.length]? = some [.int .i64 n.kids[ls.length].kind, .int .i64 n.kids[ls.length].num, .str n.kids[ls.length].text, .view .loose 1 (strsE n.kids[ls.length].names), .view .loose 5 (n.kids[ls.length].kids.map nodeL)] := by rw [List.getElem?_map, List.getElem?_eq_getElem hlt, ← nodeL_eq]; rfl
          refine AW.noteR 34 (r := ⟨false, 26, 5, partF ls n.kids.length⟩) (by simp [mkSt, rowsOf_cons]) ?_
          have hN' := hN.note (atE (partF ls n.kids.length))
          refine AW.bound (fun N hNb => ?_)
          (repeat (first | with_reducible refine AW.seq ?_ | ((first | refine arun_kn 4 rfl (fun C hC => ?_) | refine arunD_kn 4 rfl (fun C hC => ?_)); (repeat ((conv => whnf); simp [hlt, hw, hpl, hg, hgd, x1])); refine hC _ ?_; clear hC C; simp only [List.drop, Nat.reduceAdd]) | ((first | refine arun_kn 1 rfl (fun C hC => ?_) | refine arunD_kn 1 rfl (fun C hC => ?_)); (repeat ((conv => whnf); simp [hlt, hw, hpl, hg, hgd, x1])); refine hC _ ?_; clear hC C; simp only [List.drop, Nat.reduceAdd]) | (refine arun_skip ?_ ?_; (focus (simp [awant, hlt, hw, hpl, hg, hgd, x1]; done))) | (refine AW.regionK [] (fun K hK => ?_)) | (refine AW.condT ?_ ?_; (focus (simp [aev, hlt, hw, hpl, hg, hgd, x1]; done))) | (refine AW.condF ?_ ?_; (focus (simp [aev, hlt, hw, hpl, hg, hgd, x1]; done))) | with_reducible refine AW.block ?_ | ((first | ((first | refine arun_nil ?_ | refine arunD_nil ?_); refine hK _ ?_; clear hK K) | refine AW.skip ?_ | refine AW.exit ?_ | refine AW.ret ?_); simp only [thenA_exit, inBlockA_exit, if_true, if_false, Nat.reduceEqDiff, thenA_normal, inBlockA_normal, reduceIte, thenA_ret, inBlockA_ret, endQ_ret, endR_ret, endG_ret, endQ_normal, endR_normal, endG_normal, endF_ret, endF_normal])))
          refine AW.regionDK [] (pcs [(4, 0, fun r => rLabX n.kids[ls.length] r ∧ ∀ b ∈ atB r, ¬ (w0.note (atE (partF ls n.kids.length))).A b)] []) (by kernel_rfl) (by kernel_rfl) (fun K hK => ?_)
          (repeat (first | with_reducible refine AW.seq ?_ | ((first | refine arun_kn 4 rfl (fun C hC => ?_) | refine arunD_kn 4 rfl (fun C hC => ?_)); (repeat ((conv => whnf); simp [hlt, hw, hpl, hg, hgd, x1])); refine hC _ ?_; clear hC C; simp only [List.drop, Nat.reduceAdd]) | ((first | refine arun_kn 1 rfl (fun C hC => ?_) | refine arunD_kn 1 rfl (fun C hC => ?_)); (repeat ((conv => whnf); simp [hlt, hw, hpl, hg, hgd, x1])); refine hC _ ?_; clear hC C; simp only [List.drop, Nat.reduceAdd]) | (refine arun_skip ?_ ?_; (focus (simp [awant, hlt, hw, hpl, hg, hgd, x1]; done))) | (refine arun_cF (0) (hik) ?_; (rintro _ ⟨l, hl, hlp, rfl⟩ hA)) | (refine arunD_cF (0) (hik) (by exact rLabX_ex _ hNb) ?_; (rintro _ ⟨l, hl, hlp, rfl⟩ hA); intro _) | (refine AW.regionK [] (fun K hK => ?_)) | (refine AW.regionDK [] (pcs [] []) (by kernel_rfl) (by kernel_rfl) (fun K hK => ?_)) | (refine AW.condT ?_ ?_; (focus (simp [aev, hlt, hw, hpl, hg, hgd, x1]; done))) | (refine AW.condF ?_ ?_; (focus (simp [aev, hlt, hw, hpl, hg, hgd, x1]; done))) | with_reducible refine AW.block ?_ | ((first | ((first | refine arun_nil ?_ | refine arunD_nil ?_); refine hK _ ?_; clear hK K) | refine AW.skip ?_ | refine AW.exit ?_ | refine AW.ret ?_); simp only [thenA_exit, inBlockA_exit, if_true, if_false, Nat.reduceEqDiff, thenA_normal, inBlockA_normal, reduceIte, thenA_ret, inBlockA_ret, endQ_ret, endR_ret, endG_ret, endQ_normal, endR_normal, endG_normal, endF_ret, endF_normal])))
          have hA' : ∀ b ∈ l.fp, ¬ (w0.A b ∨ b ∈ atE (partF ls n.kids.length)) := fun b hb => hA b (by rw [at_agg, ← labL_eq]; exact hb)
          have hset := partF_set ls n.kids.length hlt l
          rw [labL_eq] at hset
          have hin : ∀ U : Nat → Bool, ∀ e ∈ partF (ls ++ [l]) n.kids.length, ∀ c ∈ e, AV.In U c := fun U => partF_in _ _
          have hll : (ls ++ [l]).length = ls.length + 1 := by rw [List.length_append]; rfl
          refine ⟨ls ++ [l], by rw [hll]; omega, ⟨?_, by rw [hll]; omega, nodup_snoc hnp hlp (fun b hb hm => hA' b hb (.inr (by rw [at_partF]; exact hm))), fun b hb => ?_⟩, ?_⟩
          · rw [hll, List.take_add_one, List.getElem?_eq_getElem hlt, List.map_append, hnd, List.map_cons, List.map_nil, hl]; rfl
          · rw [List.flatMap_append, List.flatMap_cons, List.flatMap_nil, List.append_nil] at hb
            rcases List.mem_append.1 hb with hb | hb
            · exact hge b hb
            · rcases Nat.lt_or_ge b w0.wd.heap.size with h | h
              · exact absurd (.inl (hN.A b h)) (hA' b hb)
              · exact h
          · rw [hll]
            exact (less_of (by simp [lessL, mkSt, slots, namesR, zeroN, hset]) (by simp [upd, mkSt, rowsOf_cons, namesR, zeroN, hset]) (by simp [upd, mkSt, usedOf_cons, namesR, zeroN, hset]) (by first | exact rd_less (by omega) | simp [mkSt, namesR, zeroN, hset]) (by simp [slots, in_any, in_int, in_bool, in_str, in_ptr, in_own, in_agg, in_vnil, in_rdr, usedOf_cons, usedOf_nil, strs_in, ints_in, nodes_in, in_tup, namesR, zeroN, hset]) (by simp only [List.forall_mem_cons, List.not_mem_nil, false_implies, implies_true, and_true, true_and, namesR, zeroN, hset]; (repeat (first | with_reducible exact trivial | with_reducible refine And.intro ?_ ?_ | with_reducible exact in_int | with_reducible exact in_str | with_reducible exact in_bool | with_reducible exact strs_in _ | with_reducible exact nodes_in _ | with_reducible exact items_in _ | with_reducible exact in_vnil | with_reducible exact in_any | exact hin _ | with_reducible refine take_in ?_ | with_reducible exact strsE_in _ | with_reducible exact nodesE_in _ | with_reducible exact nodeL_in _ | with_reducible exact itemsE_in _ | with_reducible exact itemL_in _ | with_reducible refine app_in ?_ ?_ | with_reducible refine sing_in ?_ | (focus (simp [in_any, in_int, in_bool, in_str, in_ptr, in_own, in_agg, in_vnil, in_rdr, usedOf_cons, usedOf_nil, strs_in, ints_in, nodes_in, namesR, zeroN, hset]; done)))); done))
        · have hl : ls.length = n.kids.length := by omega
          have hpa : partF ls n.kids.length = ls.map labL := by unfold partF; rw [hl, Nat.sub_self]; simp
          rw [hpa, hl]
          (repeat (first | with_reducible refine AW.seq ?_ | ((first | refine arun_kn 4 rfl (fun C hC => ?_) | refine arunD_kn 4 rfl (fun C hC => ?_)); (repeat ((conv => whnf); simp)); refine hC _ ?_; clear hC C; simp only [List.drop, Nat.reduceAdd]) | ((first | refine arun_kn 1 rfl (fun C hC => ?_) | refine arunD_kn 1 rfl (fun C hC => ?_)); (repeat ((conv => whnf); simp)); refine hC _ ?_; clear hC C; simp only [List.drop, Nat.reduceAdd]) | (refine arun_skip ?_ ?_; (focus (simp [awant]; done))) | (refine AW.regionK [] (fun K hK => ?_)) | (refine AW.regionDK [] (pcs [] []) (by kernel_rfl) (by kernel_rfl) (fun K hK => ?_)) | (refine AW.condT ?_ ?_; (focus (simp [aev]; done))) | (refine AW.condF ?_ ?_; (focus (simp [aev]; done))) | with_reducible refine AW.block ?_ | ((first | ((first | refine arun_nil ?_ | refine arunD_nil ?_); refine hK _ ?_; clear hK K) | refine AW.skip ?_ | refine AW.exit ?_ | refine AW.ret ?_); simp only [thenA_exit, inBlockA_exit, if_true, if_false, Nat.reduceEqDiff, thenA_normal, inBlockA_normal, reduceIte, thenA_ret, inBlockA_ret, endQ_ret, endR_ret, endG_ret, endQ_normal, endR_normal, endG_normal, endF_ret, endF_normal])))
          refine ⟨ls, ⟨by rw [hnd, hl, List.take_of_length_le (Nat.le_refl _)], hnp, hge⟩, ?_⟩
          have hin : ∀ U : Nat → Bool, ∀ e ∈ ls.map labL, ∀ c ∈ e, AV.In U c := fun U => labsE_in _
          exact (less_of (by simp [lessL, mkSt, slots, namesR, labsR, zeroN]) (by simp [upd, mkSt, rowsOf_cons, namesR, labsR, zeroN]) (by simp [upd, mkSt, usedOf_cons, namesR, labsR, zeroN]) (by first | exact rd_less (by omega) | simp [mkSt, namesR, labsR, zeroN]) (by simp [slots, in_any, in_int, in_bool, in_str, in_ptr, in_own, in_agg, in_vnil, in_rdr, usedOf_cons, usedOf_nil, strs_in, ints_in, nodes_in, in_tup, namesR, labsR, zeroN]) (by simp only [List.forall_mem_cons, List.not_mem_nil, false_implies, implies_true, and_true, true_and, namesR, labsR, zeroN]; (repeat (first | with_reducible exact trivial | with_reducible refine And.intro ?_ ?_ | with_reducible exact in_int | with_reducible exact in_str | with_reducible exact in_bool | with_reducible exact strs_in _ | with_reducible exact nodes_in _ | with_reducible exact items_in _ | with_reducible exact in_vnil | with_reducible exact in_any | exact hin _ | with_reducible refine take_in ?_ | with_reducible exact strsE_in _ | with_reducible exact nodesE_in _ | with_reducible exact nodeL_in _ | with_reducible exact itemsE_in _ | with_reducible exact itemL_in _ | with_reducible refine app_in ?_ ?_ | with_reducible refine sing_in ?_ | (focus (simp [in_any, in_int, in_bool, in_str, in_ptr, in_own, in_agg, in_vnil, in_rdr, usedOf_cons, usedOf_nil, strs_in, ints_in, nodes_in, namesR, labsR, zeroN]; done)))); done))
    · have hl0 : n.kids.length = 0 := by omega
      have he0 : n.kids = [] := List.length_eq_zero_iff.1 hl0
      refine AW.adoptB 3 4 34 26 5 ⟨_, tab26, rfl⟩ (by simp [mkSt, rowsOf_cons]; rfl) rfl rfl (by simp [mkSt, usedOf_cons, usedOf_nil]) ?_
      simp only [ASt.adoptB]
      (repeat (first | with_reducible refine AW.seq ?_ | ((first | refine arun_kn 4 rfl (fun C hC => ?_) | refine arunD_kn 4 rfl (fun C hC => ?_)); (repeat ((conv => whnf); simp [hl0])); refine hC _ ?_; clear hC C; simp only [List.drop, Nat.reduceAdd]) | ((first | refine arun_kn 1 rfl (fun C hC => ?_) | refine arunD_kn 1 rfl (fun C hC => ?_)); (repeat ((conv => whnf); simp [hl0])); refine hC _ ?_; clear hC C; simp only [List.drop, Nat.reduceAdd]) | (refine arun_skip ?_ ?_; (focus (simp [awant, hl0]; done))) | (refine AW.regionK [] (fun K hK => ?_)) | (refine AW.regionDK [] (pcs [] []) (by kernel_rfl) (by kernel_rfl) (fun K hK => ?_)) | (refine AW.condT ?_ ?_; (focus (simp [aev, hl0]; done))) | (refine AW.condF ?_ ?_; (focus (simp [aev, hl0]; done))) | with_reducible refine AW.block ?_ | ((first | ((first | refine arun_nil ?_ | refine arunD_nil ?_); refine hK _ ?_; clear hK K) | refine AW.skip ?_ | refine AW.exit ?_ | refine AW.ret ?_); simp only [thenA_exit, inBlockA_exit, if_true, if_false, Nat.reduceEqDiff, thenA_normal, inBlockA_normal, reduceIte, thenA_ret, inBlockA_ret, endQ_ret, endR_ret, endG_ret, endQ_normal, endR_normal, endG_normal, endF_ret, endF_normal])))
      refine ⟨[], ⟨by rw [he0]; rfl, List.nodup_nil, fun b hb => by cases hb⟩, ?_⟩
      exact (less_of (by simp [lessL, mkSt, slots, namesR, labsR, zeroN, he0]) (by simp [upd, mkSt, rowsOf_cons, namesR, labsR, zeroN, he0]) (by simp [upd, mkSt, usedOf_cons, namesR, labsR, zeroN, he0]) (by first | exact rd_less (by omega) | simp [mkSt, namesR, labsR, zeroN, he0]) (by simp [slots, in_any, in_int, in_bool, in_str, in_ptr, in_own, in_agg, in_vnil, in_rdr, usedOf_cons, usedOf_nil, strs_in, ints_in, nodes_in, in_tup, namesR, labsR, zeroN, he0]) (by simp only [List.forall_mem_cons, List.not_mem_nil, false_implies, implies_true, and_true, true_and, namesR, labsR, zeroN, he0]; (repeat (first | with_reducible exact trivial | with_reducible refine And.intro ?_ ?_ | with_reducible exact in_int | with_reducible exact in_str | with_reducible exact in_bool | with_reducible exact strs_in _ | with_reducible exact nodes_in _ | with_reducible exact items_in _ | with_reducible exact in_vnil | with_reducible exact in_any | exact hin _ | with_reducible refine take_in ?_ | with_reducible exact strsE_in _ | with_reducible exact nodesE_in _ | with_reducible exact nodeL_in _ | with_reducible exact itemsE_in _ | with_reducible exact itemL_in _ | with_reducible refine app_in ?_ ?_ | with_reducible refine sing_in ?_ | (focus (simp [in_any, in_int, in_bool, in_str, in_ptr, in_own, in_agg, in_vnil, in_rdr, usedOf_cons, usedOf_nil, strs_in, ints_in, nodes_in, namesR, labsR, zeroN, he0]; done)))); done))
  rintro ks s' ⟨hk1, hk2, hk3⟩ hls
  refine AW.less _ hls ?_
  clear hls s'
  have hlk : ks.length = n.kids.length := by rw [← hk1, List.length_map]
  (repeat (first | with_reducible refine AW.seq ?_ | ((first | refine arun_kn 4 rfl (fun C hC => ?_) | refine arunD_kn 4 rfl (fun C hC => ?_)); (repeat ((conv => whnf); simp [zeroN])); refine hC _ ?_; clear hC C; simp only [List.drop, Nat.reduceAdd]) | ((first | refine arun_kn 1 rfl (fun C hC => ?_) | refine arunD_kn 1 rfl (fun C hC => ?_)); (repeat ((conv => whnf); simp [zeroN])); refine hC _ ?_; clear hC C; simp only [List.drop, Nat.reduceAdd]) | (refine arun_skip ?_ ?_; (focus (simp [awant, zeroN]; done))) | (refine AW.regionK [] (fun K hK => ?_)) | (refine AW.regionDK [] (pcs [] []) (by kernel_rfl) (by kernel_rfl) (fun K hK => ?_)) | (refine AW.condT ?_ ?_; (focus (simp [aev, zeroN]; done))) | (refine AW.condF ?_ ?_; (focus (simp [aev, zeroN]; done))) | with_reducible refine AW.block ?_ | ((first | ((first | refine arun_nil ?_ | refine arunD_nil ?_); refine hK _ ?_; clear hK K) | refine AW.skip ?_ | refine AW.exit ?_ | refine AW.ret ?_); simp only [thenA_exit, inBlockA_exit, if_true, if_false, Nat.reduceEqDiff, thenA_normal, inBlockA_normal, reduceIte, thenA_ret, inBlockA_ret, endQ_ret, endR_ret, endG_ret, endQ_normal, endR_normal, endG_normal, endF_ret, endF_normal])))
  refine ⟨nodeRR n 20 34, [(20, namesR n.names), (34, labsR ks)], by simp [ares, aresL, upd, rowsOf_cons, nodeRR], by simp [mkSt, rowsOf_cons, upd], ?_, ?_, ?_, ⟨ks, hk1, hk2, rfl, rfl⟩, ?_⟩
  · refine purR_agg ?_
    simp only [List.forall_mem_cons, List.not_mem_nil, false_implies, implies_true, and_true]
    exact ⟨pur_int.purR, pur_int.purR, pur_str.purR, purR_own, purR_own⟩
  · simp only [List.forall_mem_cons, List.not_mem_nil, false_implies, implies_true, and_true]
    exact ⟨fun e he c hc => (strsE_pur _ e he c hc).purR, fun e he c hc => (labsE_pur _ e he c hc).purR⟩
  · refine ⟨by simp [nodeRR, in_agg, in_int, in_str, in_own, rowsOf_cons], ?_⟩
    simp only [List.forall_mem_cons, List.not_mem_nil, false_implies, implies_true, and_true]
    exact ⟨fun e he c hc => strsE_in _ e he c hc, fun e he c hc => labsE_in _ e he c hc⟩
  · intro b hb
    rcases hb with hb | ⟨p, hp, hb⟩
    · simp [nodeRR, at_agg, atL_cons, atL_nil, at_int, at_str, at_own] at hb
    · simp only [List.mem_cons, List.not_mem_nil, or_false] at hp
      rcases hp with rfl | rfl
      · simp [namesR, at_strsE] at hb
      · refine hk3 b ?_
        rw [← atE_labs]; exact hb
theorem implCopyF_hold (n : Nd) (hs : Sml n) (ih : ∀ k ∈ n.kids, ACF Tryd.prog 60 [nodeA k] 0 (rLabX k)) : ACF Tryd.prog 60 [nodeA n] 0 (rLabX n) := by
  have hs1 := hs.names
  have hs2 := hs.kids
  unfold nodeA at ih ⊢
  rw [nodeL_eq]
  refine ACF.of tab_ok mixed_ok Tryd.func60 (by rfl) (by kernel_rfl) ?_; rintro ⟨P, T, hT, hm, w0, S0, rd0, k0⟩ hP hTT hN; dsimp only at hP hTT hN; subst hP hTT; dsimp only; unfold initSt; rw [Tryd.ntmps60]
  refine AW.seq ?_
  (refine AW.regionK [] (fun K hK => ?_); (repeat (refine arun_ks 4 rfl (fun C hC => ?_); (repeat ((conv => whnf); simp)); refine hC _ ?_; clear hC C; simp only [List.drop_succ_cons, List.drop_zero, List.drop_nil])); refine arun_nil ?_; refine hK _ ?_; clear hK K; simp only [thenA_normal, inBlockA_normal, endQ_normal, endR_normal])
  refine AW.seq ?_
  (refine AW.regionK [] (fun K hK => ?_); (repeat (refine arun_ks 4 rfl (fun C hC => ?_); (repeat ((conv => whnf); simp)); refine hC _ ?_; clear hC C; simp only [List.drop_succ_cons, List.drop_zero, List.drop_nil])); refine arun_nil ?_; refine hK _ ?_; clear hK K; simp only [thenA_normal, inBlockA_normal, endQ_normal, endR_normal])
  refine AW.seq ?_
  refine AW.cutN (fun (_ : Unit) => mkSt (slots 0 52 [(1, .ptr true 5 1 1 0 0), (2, .ptr true 5 1 2 0 0), (3, .ptr true 5 1 3 0 0)]) [(1, ⟨true, 26, 5, [[.int .i64 n.kind, .int .i64 n.num, .str n.text, .view .loose 1 (strsE n.names), .view .loose 5 (n.kids.map nodeL)]]⟩), (2, ⟨true, 26, 5, [zeroN]⟩), (3, ⟨true, 26, 5, [[.int .i64 n.kind, .int .i64 n.num, .str n.text, .own 20 n.names.length, .view .tight 0 []]]⟩), (20, namesR n.names)] [1, 2, 3, 20] (rd0.map fun _ => 0)) (fun _ => True) ?_ ?_
  · by_cases hn0 : 0 < n.names.length
    · (repeat (first | with_reducible refine AW.seq ?_ | ((first | refine arun_kn 4 rfl (fun C hC => ?_) | refine arunD_kn 4 rfl (fun C hC => ?_)); (repeat ((conv => whnf); simp [hn0])); refine hC _ ?_; clear hC C; simp only [List.drop, Nat.reduceAdd]) | ((first | refine arun_kn 1 rfl (fun C hC => ?_) | refine arunD_kn 1 rfl (fun C hC => ?_)); (repeat ((conv => whnf); simp [hn0])); refine hC _ ?_; clear hC C; simp only [List.drop, Nat.reduceAdd]) | (refine arun_skip ?_ ?_; (focus (simp [awant, hn0]; done))) | (refine AW.regionK [] (fun K hK => ?_)) | (refine AW.regionDK [] (pcs [] []) (by kernel_rfl) (by kernel_rfl) (fun K hK => ?_)) | (refine AW.condT ?_ ?_; (focus (simp [aev, hn0]; done))) | (refine AW.condF ?_ ?_; (focus (simp [aev, hn0]; done))) | with_reducible refine AW.block ?_ | ((first | ((first | refine arun_nil ?_ | refine arunD_nil ?_); refine hK _ ?_; clear hK K) | refine AW.skip ?_ | refine AW.exit ?_ | refine AW.ret ?_); simp only [thenA_exit, inBlockA_exit, if_true, if_false, Nat.reduceEqDiff, thenA_normal, inBlockA_normal, reduceIte, thenA_ret, inBlockA_ret, endQ_ret, endR_ret, endG_ret, endQ_normal, endR_normal, endG_normal, endF_ret, endF_normal])))
      refine arun_make 20 rfl (by simp [awant]) rfl tab23 tab9 (by decide) rfl (by dsimp only; omega) (by unfold maxLen; omega) (by simp [upd]) ?_
      (repeat (first | with_reducible refine AW.seq ?_ | ((first | refine arun_kn 4 rfl (fun C hC => ?_) | refine arunD_kn 4 rfl (fun C hC => ?_)); (repeat ((conv => whnf); simp [hn0])); refine hC _ ?_; clear hC C; simp only [List.drop, Nat.reduceAdd]) | ((first | refine arun_kn 1 rfl (fun C hC => ?_) | refine arunD_kn 1 rfl (fun C hC => ?_)); (repeat ((conv => whnf); simp [hn0])); refine hC _ ?_; clear hC C; simp only [List.drop, Nat.reduceAdd]) | (refine arun_skip ?_ ?_; (focus (simp [awant, hn0]; done))) | (refine AW.regionK [] (fun K hK => ?_)) | (refine AW.regionDK [] (pcs [] []) (by kernel_rfl) (by kernel_rfl) (fun K hK => ?_)) | (refine AW.condT ?_ ?_; (focus (simp [aev, hn0]; done))) | (refine AW.condF ?_ ?_; (focus (simp [aev, hn0]; done))) | with_reducible refine AW.block ?_ | ((first | ((first | refine arun_nil ?_ | refine arunD_nil ?_); refine hK _ ?_; clear hK K) | refine AW.skip ?_ | refine AW.exit ?_ | refine AW.ret ?_); simp only [thenA_exit, inBlockA_exit, if_true, if_false, Nat.reduceEqDiff, thenA_normal, inBlockA_normal, reduceIte, thenA_ret, inBlockA_ret, endQ_ret, endR_ret, endG_ret, endQ_normal, endR_normal, endG_normal, endF_ret, endF_normal])))
      refine arun_copyAll (r := ⟨false, 9, 1, List.replicate n.names.length [AV.str ⟨#[]⟩]⟩) rfl (by simp [awant]) rfl (by simp [upd]) rfl rfl List.length_replicate rfl (strsE_len _) tab23 tab9 rfl ?_
      (repeat (first | with_reducible refine AW.seq ?_ | ((first | refine arun_kn 4 rfl (fun C hC => ?_) | refine arunD_kn 4 rfl (fun C hC => ?_)); (repeat ((conv => whnf); simp [hn0])); refine hC _ ?_; clear hC C; simp only [List.drop, Nat.reduceAdd]) | ((first | refine arun_kn 1 rfl (fun C hC => ?_) | refine arunD_kn 1 rfl (fun C hC => ?_)); (repeat ((conv => whnf); simp [hn0])); refine hC _ ?_; clear hC C; simp only [List.drop, Nat.reduceAdd]) | (refine arun_skip ?_ ?_; (focus (simp [awant, hn0]; done))) | (refine AW.regionK [] (fun K hK => ?_)) | (refine AW.regionDK [] (pcs [] []) (by kernel_rfl) (by kernel_rfl) (fun K hK => ?_)) | (refine AW.condT ?_ ?_; (focus (simp [aev, hn0]; done))) | (refine AW.condF ?_ ?_; (focus (simp [aev, hn0]; done))) | with_reducible refine AW.block ?_ | ((first | ((first | refine arun_nil ?_ | refine arunD_nil ?_); refine hK _ ?_; clear hK K) | refine AW.skip ?_ | refine AW.exit ?_ | refine AW.ret ?_); simp only [thenA_exit, inBlockA_exit, if_true, if_false, Nat.reduceEqDiff, thenA_normal, inBlockA_normal, reduceIte, thenA_ret, inBlockA_ret, endQ_ret, endR_ret, endG_ret, endQ_normal, endR_normal, endG_normal, endF_ret, endF_normal])))
      exact ⟨(), trivial, (less_of (by simp [lessL, mkSt, slots, namesR, zeroN]) (by simp [upd, mkSt, rowsOf_cons, namesR, zeroN]) (by simp [upd, mkSt, usedOf_cons, namesR, zeroN]) (by first | exact rd_less (by omega) | simp [mkSt, namesR, zeroN]) (by simp [slots, in_any, in_int, in_bool, in_str, in_ptr, in_own, in_agg, in_vnil, in_rdr, usedOf_cons, usedOf_nil, strs_in, ints_in, nodes_in, in_tup, namesR, zeroN]) (by simp only [List.forall_mem_cons, List.not_mem_nil, false_implies, implies_true, and_true, true_and, namesR, zeroN]; (repeat (first | with_reducible exact trivial | with_reducible refine And.intro ?_ ?_ | with_reducible exact in_int | with_reducible exact in_str | with_reducible exact in_bool | with_reducible exact strs_in _ | with_reducible exact nodes_in _ | with_reducible exact items_in _ | with_reducible exact in_vnil | with_reducible exact in_any | exact hin _ | with_reducible refine take_in ?_ | with_reducible exact strsE_in _ | with_reducible exact nodesE_in _ | with_reducible exact nodeL_in _ | with_reducible exact itemsE_in _ | with_reducible exact itemL_in _ | with_reducible refine app_in ?_ ?_ | with_reducible refine sing_in ?_ | (focus (simp [in_any, in_int, in_bool, in_str, in_ptr, in_own, in_agg, in_vnil, in_rdr, usedOf_cons, usedOf_nil, strs_in, ints_in, nodes_in, namesR, zeroN]; done)))); done))⟩
    · have hl0 : n.names.length = 0 := by omega
      have he0 : n.names = [] := List.length_eq_zero_iff.1 hl0
      refine AW.adoptB 3 3 20 9 1 ⟨_, tab9, rfl⟩ (by simp [upd]; rfl) rfl rfl (by simp [upd]) ?_
      simp only [ASt.adoptB]
      (repeat (first | with_reducible refine AW.seq ?_ | ((first | refine arun_kn 4 rfl (fun C hC => ?_) | refine arunD_kn 4 rfl (fun C hC => ?_)); (repeat ((conv => whnf); simp [hl0])); refine hC _ ?_; clear hC C; simp only [List.drop, Nat.reduceAdd]) | ((first | refine arun_kn 1 rfl (fun C hC => ?_) | refine arunD_kn 1 rfl (fun C hC => ?_)); (repeat ((conv => whnf); simp [hl0])); refine hC _ ?_; clear hC C; simp only [List.drop, Nat.reduceAdd]) | (refine arun_skip ?_ ?_; (focus (simp [awant, hl0]; done))) | (refine AW.regionK [] (fun K hK => ?_)) | (refine AW.regionDK [] (pcs [] []) (by kernel_rfl) (by kernel_rfl) (fun K hK => ?_)) | (refine AW.condT ?_ ?_; (focus (simp [aev, hl0]; done))) | (refine AW.condF ?_ ?_; (focus (simp [aev, hl0]; done))) | with_reducible refine AW.block ?_ | ((first | ((first | refine arun_nil ?_ | refine arunD_nil ?_); refine hK _ ?_; clear hK K) | refine AW.skip ?_ | refine AW.exit ?_ | refine AW.ret ?_); simp only [thenA_exit, inBlockA_exit, if_true, if_false, Nat.reduceEqDiff, thenA_normal, inBlockA_normal, reduceIte, thenA_ret, inBlockA_ret, endQ_ret, endR_ret, endG_ret, endQ_normal, endR_normal, endG_normal, endF_ret, endF_normal])))
      exact ⟨(), trivial, (less_of (by simp [lessL, mkSt, slots, namesR, zeroN, he0, strsE]) (by simp [upd, mkSt, rowsOf_cons, namesR, zeroN, he0, strsE]) (by simp [upd, mkSt, usedOf_cons, namesR, zeroN, he0, strsE]) (by first | exact rd_less (by omega) | simp [mkSt, namesR, zeroN, he0, strsE]) (by simp [slots, in_any, in_int, in_bool, in_str, in_ptr, in_own, in_agg, in_vnil, in_rdr, usedOf_cons, usedOf_nil, strs_in, ints_in, nodes_in, in_tup, namesR, zeroN, he0, strsE]) (by simp only [List.forall_mem_cons, List.not_mem_nil, false_implies, implies_true, and_true, true_and, namesR, zeroN, he0, strsE]; (repeat (first | with_reducible exact trivial | with_reducible refine And.intro ?_ ?_ | with_reducible exact in_int | with_reducible exact in_str | with_reducible exact in_bool | with_reducible exact strs_in _ | with_reducible exact nodes_in _ | with_reducible exact items_in _ | with_reducible exact in_vnil | with_reducible exact in_any | exact hin _ | with_reducible refine take_in ?_ | with_reducible exact strsE_in _ | with_reducible exact nodesE_in _ | with_reducible exact nodeL_in _ | with_reducible exact itemsE_in _ | with_reducible exact itemL_in _ | with_reducible refine app_in ?_ ?_ | with_reducible refine sing_in ?_ | (focus (simp [in_any, in_int, in_bool, in_str, in_ptr, in_own, in_agg, in_vnil, in_rdr, usedOf_cons, usedOf_nil, strs_in, ints_in, nodes_in, namesR, zeroN, he0, strsE]; done)))); done))⟩
  rintro ⟨⟩ s' - hls
  refine AW.less _ hls ?_
  clear hls s'
  refine AW.seq ?_
  refine AW.cutN (fun (ks : List Lb) => mkSt (slots 0 52 [(2, .ptr true 5 1 2 0 0), (3, .ptr true 5 1 3 0 0)]) [(2, ⟨true, 26, 5, [zeroN]⟩), (3, ⟨true, 26, 5, [[.int .i64 n.kind, .int .i64 n.num, .str n.text, .own 20 n.names.length, .own 34 n.kids.length]]⟩), (20, namesR n.names), (34, labsR ks)] [2, 3, 20, 34] (rd0.map fun _ => 0)) (fun ks => ks.map Lb.nd = n.kids ∧ (ks.flatMap Lb.fp).Nodup ∧ ∀ b ∈ ks.flatMap Lb.fp, w0.wd.heap.size ≤ b) ?_ ?_
  · by_cases hn0 : 0 < n.kids.length
    · (repeat (first | with_reducible refine AW.seq ?_ | ((first | refine arun_kn 4 rfl (fun C hC => ?_) | refine arunD_kn 4 rfl (fun C hC => ?_)); (repeat ((conv => whnf); simp [hn0])); refine hC _ ?_; clear hC C; simp only [List.drop, Nat.reduceAdd]) | ((first | refine arun_kn 1 rfl (fun C hC => ?_) | refine arunD_kn 1 rfl (fun C hC => ?_)); (repeat ((conv => whnf); simp [hn0])); refine hC _ ?_; clear hC C; simp only [List.drop, Nat.reduceAdd]) | (refine arun_skip ?_ ?_; (focus (simp [awant, hn0]; done))) | (refine AW.regionK [] (fun K hK => ?_)) | (refine AW.regionDK [] (pcs [] []) (by kernel_rfl) (by kernel_rfl) (fun K hK => ?_)) | (refine AW.condT ?_ ?_; (focus (simp [aev, hn0]; done))) | (refine AW.condF ?_ ?_; (focus (simp [aev, hn0]; done))) | with_reducible refine AW.block ?_ | ((first | ((first | refine arun_nil ?_ | refine arunD_nil ?_); refine hK _ ?_; clear hK K) | refine AW.skip ?_ | refine AW.exit ?_ | refine AW.ret ?_); simp only [thenA_exit, inBlockA_exit, if_true, if_false, Nat.reduceEqDiff, thenA_normal, inBlockA_normal, reduceIte, thenA_ret, inBlockA_ret, endQ_ret, endR_ret, endG_ret, endQ_normal, endR_normal, endG_normal, endF_ret, endF_normal])))
      refine arun_make 34 rfl (by simp [awant]) rfl tab24 tab26 (by decide) rfl (by dsimp only; omega) (by unfold maxLen; omega) (by simp [upd]) ?_
      (repeat (first | with_reducible refine AW.seq ?_ | ((first | refine arun_kn 4 rfl (fun C hC => ?_) | refine arunD_kn 4 rfl (fun C hC => ?_)); (repeat ((conv => whnf); simp [hn0])); refine hC _ ?_; clear hC C; simp only [List.drop, Nat.reduceAdd]) | ((first | refine arun_kn 1 rfl (fun C hC => ?_) | refine arunD_kn 1 rfl (fun C hC => ?_)); (repeat ((conv => whnf); simp [hn0])); refine hC _ ?_; clear hC C; simp only [List.drop, Nat.reduceAdd]) | (refine arun_skip ?_ ?_; (focus (simp [awant, hn0]; done))) | (refine AW.regionK [] (fun K hK => ?_)) | (refine AW.regionDK [] (pcs [] []) (by kernel_rfl) (by kernel_rfl) (fun K hK => ?_)) | (refine AW.condT ?_ ?_; (focus (simp [aev, hn0]; done))) | (refine AW.condF ?_ ?_; (focus (simp [aev, hn0]; done))) | with_reducible refine AW.block ?_ | ((first | ((first | refine arun_nil ?_ | refine arunD_nil ?_); refine hK _ ?_; clear hK K) | refine AW.skip ?_ | refine AW.exit ?_ | refine AW.ret ?_); simp only [thenA_exit, inBlockA_exit, if_true, if_false, Nat.reduceEqDiff, thenA_normal, inBlockA_normal, reduceIte, thenA_ret, inBlockA_ret, endQ_ret, endR_ret, endG_ret, endQ_normal, endR_normal, endG_normal, endF_ret, endF_normal])))
      refine AW.loopS (fun (ls : List Lb) => mkSt (slots 0 52 [(1, .ptr true 5 1 1 0 0), (2, .ptr true 5 1 2 0 0), (3, .ptr true 5 1 3 0 0), (37, .view .loose 5 (n.kids.map nodeL)), (38, .int .i64 n.kids.length), (39, .int .i64 ls.length)]) [(1, ⟨true, 26, 5, [[.int .i64 n.kind, .int .i64 n.num, .str n.text, .view .loose 1 (strsE n.names), .view .loose 5 (n.kids.map nodeL)]]⟩), (2, ⟨true, 26, 5, [zeroN]⟩), (3, ⟨true, 26, 5, [[.int .i64 n.kind, .int .i64 n.num, .str n.text, .own 20 n.names.length, .own 34 n.kids.length]]⟩), (20, namesR n.names), (34, ⟨false, 26, 5, partF ls n.kids.length⟩)] [1, 2, 3, 20, 34] (rd0.map fun _ => 0)) (fun ls => n.kids.length - ls.length) (fun ls => ls.map Lb.nd = n.kids.take ls.length ∧ ls.length ≤ n.kids.length ∧ (ls.flatMap Lb.fp).Nodup ∧ ∀ b ∈ ls.flatMap Lb.fp, w0.wd.heap.size ≤ b) [] ?_ ⟨rfl, Nat.zero_le _, List.nodup_nil, fun b hb => by cases hb⟩ ?_
      · have hin : ∀ U : Nat → Bool, ∀ e ∈ partF [] n.kids.length, ∀ c ∈ e, AV.In U c := fun U => partF_in _ _
        have e0 : partF [] n.kids.length = List.replicate n.kids.length zeroN := rfl
        rw [e0] at hin ⊢
        exact (less_of (by simp [lessL, mkSt, slots, namesR, zeroN]) (by simp [upd, mkSt, rowsOf_cons, namesR, zeroN]) (by simp [upd, mkSt, usedOf_cons, namesR, zeroN]) (by first | exact rd_less (by omega) | simp [mkSt, namesR, zeroN]) (by simp [slots, in_any, in_int, in_bool, in_str, in_ptr, in_own, in_agg, in_vnil, in_rdr, usedOf_cons, usedOf_nil, strs_in, ints_in, nodes_in, in_tup, namesR, zeroN]) (by simp only [List.forall_mem_cons, List.not_mem_nil, false_implies, implies_true, and_true, true_and, namesR, zeroN]; (repeat (first | with_reducible exact trivial | with_reducible refine And.intro ?_ ?_ | with_reducible exact in_int | with_reducible exact in_str | with_reducible exact in_bool | with_reducible exact strs_in _ | with_reducible exact nodes_in _ | with_reducible exact items_in _ | with_reducible exact in_vnil | with_reducible exact in_any | exact hin _ | with_reducible refine take_in ?_ | with_reducible exact strsE_in _ | with_reducible exact nodesE_in _ | with_reducible exact nodeL_in _ | with_reducible exact itemsE_in _ | with_reducible exact itemL_in _ | with_reducible refine app_in ?_ ?_ | with_reducible refine sing_in ?_ | (focus (simp [in_any, in_int, in_bool, in_str, in_ptr, in_own, in_agg, in_vnil, in_rdr, usedOf_cons, usedOf_nil, strs_in, ints_in, nodes_in, namesR, zeroN]; done)))); done))
      · rintro ls ⟨hnd, hi, hnp, hge⟩
        have hpl := partF_len ls n.kids.length hi
        by_cases hlt : ls.length < n.kids.length
        · have hw : IntKind.i64.wrap ((ls.length : Int) + 1) = ((ls.length + 1 : Nat) : Int) := by rw [i64_nat (by omega) (by omega)]; simp
          have hg := partF_get ls n.kids.length hlt
          have hgd : ∀ h, (partF ls n.kids.length)[ls.length]'h = [.int .i64 0, .int .i64 0, .str ⟨#[]⟩, .view .tight 0 [], .view .tight 0 []] := fun h => by
            rw [List.getElem?_eq_getElem h] at hg; exact Option.some.inj hg
          have hik := ih n.kids[ls.length] (List.getElem_mem hlt)
          have hck := node_clo n.kids[ls.length]
          unfold nodeA at hck
          rw [nodeL_eq n.kids[ls.length]] at hik hck
          have x1 : (n.kids.map nodeL)[ls.length]? = some [.int .i64 n.kids[ls.length].kind, .int .i64 n.kids[ls.length].num, .str n.kids[ls.length].text, .view .loose 1 (strsE n.kids[ls.length].names), .view .loose 5 (n.kids[ls.length].kids.map nodeL)] := by rw [List.getElem?_map, List.getElem?_eq_getElem hlt, ← nodeL_eq]; rfl
          refine AW.noteR 34 (r := ⟨false, 26, 5, partF ls n.kids.length⟩) (by simp [mkSt, rowsOf_cons]) ?_
          have hN' := hN.note (atE (partF ls n.kids.length))
          refine AW.bound (fun N hNb => ?_)
          (repeat (first | with_reducible refine AW.seq ?_ | ((first | refine arun_kn 4 rfl (fun C hC => ?_) | refine arunD_kn 4 rfl (fun C hC => ?_)); (repeat ((conv => whnf); simp [hlt, hw, hpl, hg, hgd, x1])); refine hC _ ?_; clear hC C; simp only [List.drop, Nat.reduceAdd]) | ((first | refine arun_kn 1 rfl (fun C hC => ?_) | refine arunD_kn 1 rfl (fun C hC => ?_)); (repeat ((conv => whnf); simp [hlt, hw, hpl, hg, hgd, x1])); refine hC _ ?_; clear hC C; simp only [List.drop, Nat.reduceAdd]) | (refine arun_skip ?_ ?_; (focus (simp [awant, hlt, hw, hpl, hg, hgd, x1]; done))) | (refine AW.regionK [] (fun K hK => ?_)) | (refine AW.condT ?_ ?_; (focus (simp [aev, hlt, hw, hpl, hg, hgd, x1]; done))) | (refine AW.condF ?_ ?_; (focus (simp [aev, hlt, hw, hpl, hg, hgd, x1]; done))) | with_reducible refine AW.block ?_ | ((first | ((first | refine arun_nil ?_ | refine arunD_nil ?_); refine hK _ ?_; clear hK K) | refine AW.skip ?_ | refine AW.exit ?_ | refine AW.ret ?_); simp only [thenA_exit, inBlockA_exit, if_true, if_false, Nat.reduceEqDiff, thenA_normal, inBlockA_normal, reduceIte, thenA_ret, inBlockA_ret, endQ_ret, endR_ret, endG_ret, endQ_normal, endR_normal, endG_normal, endF_ret, endF_normal])))
          refine AW.regionDK [] (pcs [(4, 0, fun r => rLabX n.kids[ls.length] r ∧ ∀ b ∈ atB r, ¬ (w0.note (atE (partF ls n.kids.length))).A b)] []) (by kernel_rfl) (by kernel_rfl) (fun K hK => ?_)
          (repeat (first | with_reducible refine AW.seq ?_ | ((first | refine arun_kn 4 rfl (fun C hC => ?_) | refine arunD_kn 4 rfl (fun C hC => ?_)); (repeat ((conv => whnf); simp [hlt, hw, hpl, hg, hgd, x1])); refine hC _ ?_; clear hC C; simp only [List.drop, Nat.reduceAdd]) | ((first | refine arun_kn 1 rfl (fun C hC => ?_) | refine arunD_kn 1 rfl (fun C hC => ?_)); (repeat ((conv => whnf); simp [hlt, hw, hpl, hg, hgd, x1])); refine hC _ ?_; clear hC C; simp only [List.drop, Nat.reduceAdd]) | (refine arun_skip ?_ ?_; (focus (simp [awant, hlt, hw, hpl, hg, hgd, x1]; done))) | (refine arun_cF (0) (hik) ?_; (rintro _ ⟨l, hl, hlp, rfl⟩ hA)) | (refine arunD_cF (0) (hik) (by exact rLabX_ex _ hNb) ?_; (rintro _ ⟨l, hl, hlp, rfl⟩ hA); intro _) | (refine AW.regionK [] (fun K hK => ?_)) | (refine AW.regionDK [] (pcs [] []) (by kernel_rfl) (by kernel_rfl) (fun K hK => ?_)) | (refine AW.condT ?_ ?_; (focus (simp [aev, hlt, hw, hpl, hg, hgd, x1]; done))) | (refine AW.condF ?_ ?_; (focus (simp [aev, hlt, hw, hpl, hg, hgd, x1]; done))) | with_reducible refine AW.block ?_ | ((first | ((first | refine arun_nil ?_ | refine arunD_nil ?_); refine hK _ ?_; clear hK K) | refine AW.skip ?_ | refine AW.exit ?_ | refine AW.ret ?_); simp only [thenA_exit, inBlockA_exit, if_true, if_false, Nat.reduceEqDiff, thenA_normal, inBlockA_normal, reduceIte, thenA_ret, inBlockA_ret, endQ_ret, endR_ret, endG_ret, endQ_normal, endR_normal, endG_normal, endF_ret, endF_normal])))
          have hA' : ∀ b ∈ l.fp, ¬ (w0.A b ∨ b ∈ atE (partF ls n.kids.length)) := fun b hb => hA b (by rw [at_agg, ← labL_eq]; exact hb)
          have hset := partF_set ls n.kids.length hlt l
          rw [labL_eq] at hset
          have hin : ∀ U : Nat → Bool, ∀ e ∈ partF (ls ++ [l]) n.kids.length, ∀ c ∈ e, AV.In U c := fun U => partF_in _ _
          have hll : (ls ++ [l]).length = ls.length + 1 := by rw [List.length_append]; rfl
          refine ⟨ls ++ [l], by rw [hll]; omega, ⟨?_, by rw [hll]; omega, nodup_snoc hnp hlp (fun b hb hm => hA' b hb (.inr (by rw [at_partF]; exact hm))), fun b hb => ?_⟩, ?_⟩
          · rw [hll, List.take_add_one, List.getElem?_eq_getElem hlt, List.map_append, hnd, List.map_cons, List.map_nil, hl]; rfl
          · rw [List.flatMap_append, List.flatMap_cons, List.flatMap_nil, List.append_nil] at hb
            rcases List.mem_append.1 hb with hb | hb
            · exact hge b hb
            · rcases Nat.lt_or_ge b w0.wd.heap.size with h | h
              · exact absurd (.inl (hN.A b h)) (hA' b hb)
              · exact h
          · rw [hll]
            exact (less_of (by simp [lessL, mkSt, slots, namesR, zeroN, hset]) (by simp [upd, mkSt, rowsOf_cons, namesR, zeroN, hset]) (by simp [upd, mkSt, usedOf_cons, namesR, zeroN, hset]) (by first | exact rd_less (by omega) | simp [mkSt, namesR, zeroN, hset]) (by simp [slots, in_any, in_int, in_bool, in_str, in_ptr, in_own, in_agg, in_vnil, in_rdr, usedOf_cons, usedOf_nil, strs_in, ints_in, nodes_in, in_tup, namesR, zeroN, hset]) (by simp only [List.forall_mem_cons, List.not_mem_nil, false_implies, implies_true, and_true, true_and, namesR, zeroN, hset]; (repeat (first | with_reducible exact trivial | with_reducible refine And.intro ?_ ?_ | with_reducible exact in_int | with_reducible exact in_str | with_reducible exact in_bool | with_reducible exact strs_in _ | with_reducible exact nodes_in _ | with_reducible exact items_in _ | with_reducible exact in_vnil | with_reducible exact in_any | exact hin _ | with_reducible refine take_in ?_ | with_reducible exact strsE_in _ | with_reducible exact nodesE_in _ | with_reducible exact nodeL_in _ | with_reducible exact itemsE_in _ | with_reducible exact itemL_in _ | with_reducible refine app_in ?_ ?_ | with_reducible refine sing_in ?_ | (focus (simp [in_any, in_int, in_bool, in_str, in_ptr, in_own, in_agg, in_vnil, in_rdr, usedOf_cons, usedOf_nil, strs_in, ints_in, nodes_in, namesR, zeroN, hset]; done)))); done))
        · have hl : ls.length = n.kids.length := by omega
          have hpa : partF ls n.kids.length = ls.map labL := by unfold partF; rw [hl, Nat.sub_self]; simp
          rw [hpa, hl]
          (repeat (first | with_reducible refine AW.seq ?_ | ((first | refine arun_kn 4 rfl (fun C hC => ?_) | refine arunD_kn 4 rfl (fun C hC => ?_)); (repeat ((conv => whnf); simp)); refine hC _ ?_; clear hC C; simp only [List.drop, Nat.reduceAdd]) | ((first | refine arun_kn 1 rfl (fun C hC => ?_) | refine arunD_kn 1 rfl (fun C hC => ?_)); (repeat ((conv => whnf); simp)); refine hC _ ?_; clear hC C; simp only [List.drop, Nat.reduceAdd]) | (refine arun_skip ?_ ?_; (focus (simp [awant]; done))) | (refine AW.regionK [] (fun K hK => ?_)) | (refine AW.regionDK [] (pcs [] []) (by kernel_rfl) (by kernel_rfl) (fun K hK => ?_)) | (refine AW.condT ?_ ?_; (focus (simp [aev]; done))) | (refine AW.condF ?_ ?_; (focus (simp [aev]; done))) | with_reducible refine AW.block ?_ | ((first | ((first | refine arun_nil ?_ | refine arunD_nil ?_); refine hK _ ?_; clear hK K) | refine AW.skip ?_ | refine AW.exit ?_ | refine AW.ret ?_); simp only [thenA_exit, inBlockA_exit, if_true, if_false, Nat.reduceEqDiff, thenA_normal, inBlockA_normal, reduceIte, thenA_ret, inBlockA_ret, endQ_ret, endR_ret, endG_ret, endQ_normal, endR_normal, endG_normal, endF_ret, endF_normal])))
          refine ⟨ls, ⟨by rw [hnd, hl, List.take_of_length_le (Nat.le_refl _)], hnp, hge⟩, ?_⟩
          have hin : ∀ U : Nat → Bool, ∀ e ∈ ls.map labL, ∀ c ∈ e, AV.In U c := fun U => labsE_in _
          exact (less_of (by simp [lessL, mkSt, slots, namesR, labsR, zeroN]) (by simp [upd, mkSt, rowsOf_cons, namesR, labsR, zeroN]) (by simp [upd, mkSt, usedOf_cons, namesR, labsR, zeroN]) (by first | exact rd_less (by omega) | simp [mkSt, namesR, labsR, zeroN]) (by simp [slots, in_any, in_int, in_bool, in_str, in_ptr, in_own, in_agg, in_vnil, in_rdr, usedOf_cons, usedOf_nil, strs_in, ints_in, nodes_in, in_tup, namesR, labsR, zeroN]) (by simp only [List.forall_mem_cons, List.not_mem_nil, false_implies, implies_true, and_true, true_and, namesR, labsR, zeroN]; (repeat (first | with_reducible exact trivial | with_reducible refine And.intro ?_ ?_ | with_reducible exact in_int | with_reducible exact in_str | with_reducible exact in_bool | with_reducible exact strs_in _ | with_reducible exact nodes_in _ | with_reducible exact items_in _ | with_reducible exact in_vnil | with_reducible exact in_any | exact hin _ | with_reducible refine take_in ?_ | with_reducible exact strsE_in _ | with_reducible exact nodesE_in _ | with_reducible exact nodeL_in _ | with_reducible exact itemsE_in _ | with_reducible exact itemL_in _ | with_reducible refine app_in ?_ ?_ | with_reducible refine sing_in ?_ | (focus (simp [in_any, in_int, in_bool, in_str, in_ptr, in_own, in_agg, in_vnil, in_rdr, usedOf_cons, usedOf_nil, strs_in, ints_in, nodes_in, namesR, labsR, zeroN]; done)))); done))
    · have hl0 : n.kids.length = 0 := by omega
      have he0 : n.kids = [] := List.length_eq_zero_iff.1 hl0
      refine AW.adoptB 3 4 34 26 5 ⟨_, tab26, rfl⟩ (by simp [mkSt, rowsOf_cons]; rfl) rfl rfl (by simp [mkSt, usedOf_cons, usedOf_nil]) ?_
      simp only [ASt.adoptB]
      (repeat (first | with_reducible refine AW.seq ?_ | ((first | refine arun_kn 4 rfl (fun C hC => ?_) | refine arunD_kn 4 rfl (fun C hC => ?_)); (repeat ((conv => whnf); simp [hl0])); refine hC _ ?_; clear hC C; simp only [List.drop, Nat.reduceAdd]) | ((first | refine arun_kn 1 rfl (fun C hC => ?_) | refine arunD_kn 1 rfl (fun C hC => ?_)); (repeat ((conv => whnf); simp [hl0])); refine hC _ ?_; clear hC C; simp only [List.drop, Nat.reduceAdd]) | (refine arun_skip ?_ ?_; (focus (simp [awant, hl0]; done))) | (refine AW.regionK [] (fun K hK => ?_)) | (refine AW.regionDK [] (pcs [] []) (by kernel_rfl) (by kernel_rfl) (fun K hK => ?_)) | (refine AW.condT ?_ ?_; (focus (simp [aev, hl0]; done))) | (refine AW.condF ?_ ?_; (focus (simp [aev, hl0]; done))) | with_reducible refine AW.block ?_ | ((first | ((first | refine arun_nil ?_ | refine arunD_nil ?_); refine hK _ ?_; clear hK K) | refine AW.skip ?_ | refine AW.exit ?_ | refine AW.ret ?_); simp only [thenA_exit, inBlockA_exit, if_true, if_false, Nat.reduceEqDiff, thenA_normal, inBlockA_normal, reduceIte, thenA_ret, inBlockA_ret, endQ_ret, endR_ret, endG_ret, endQ_normal, endR_normal, endG_normal, endF_ret, endF_normal])))
      refine ⟨[], ⟨by rw [he0]; rfl, List.nodup_nil, fun b hb => by cases hb⟩, ?_⟩
      exact (less_of (by simp [lessL, mkSt, slots, namesR, labsR, zeroN, he0]) (by simp [upd, mkSt, rowsOf_cons, namesR, labsR, zeroN, he0]) (by simp [upd, mkSt, usedOf_cons, namesR, labsR, zeroN, he0]) (by first | exact rd_less (by omega) | simp [mkSt, namesR, labsR, zeroN, he0]) (by simp [slots, in_any, in_int, in_bool, in_str, in_ptr, in_own, in_agg, in_vnil, in_rdr, usedOf_cons, usedOf_nil, strs_in, ints_in, nodes_in, in_tup, namesR, labsR, zeroN, he0]) (by simp only [List.forall_mem_cons, List.not_mem_nil, false_implies, implies_true, and_true, true_and, namesR, labsR, zeroN, he0]; (repeat (first | with_reducible exact trivial | with_reducible refine And.intro ?_ ?_ | with_reducible exact in_int | with_reducible exact in_str | with_reducible exact in_bool | with_reducible exact strs_in _ | with_reducible exact nodes_in _ | with_reducible exact items_in _ | with_reducible exact in_vnil | with_reducible exact in_any | exact hin _ | with_reducible refine take_in ?_ | with_reducible exact strsE_in _ | with_reducible exact nodesE_in _ | with_reducible exact nodeL_in _ | with_reducible exact itemsE_in _ | with_reducible exact itemL_in _ | with_reducible refine app_in ?_ ?_ | with_reducible refine sing_in ?_ | (focus (simp [in_any, in_int, in_bool, in_str, in_ptr, in_own, in_agg, in_vnil, in_rdr, usedOf_cons, usedOf_nil, strs_in, ints_in, nodes_in, namesR, labsR, zeroN, he0]; done)))); done))
  rintro ks s' ⟨hk1, hk2, hk3⟩ hls
  refine AW.less _ hls ?_
  clear hls s'
  have hlk : ks.length = n.kids.length := by rw [← hk1, List.length_map]
  refine AW.holdF 20 hN (fun g1 hg1 ht1 hr1 => ?_)
  have f1 := hr1 34 (labsR ks) (by simp [mkSt, rowsOf_cons])
  refine AW.holdF 34 hN (fun g2 hg2 ht2 hr2 => ?_)
  have f2 := hr2 34 (labsR ks) (by simp [mkSt, ASt.holdF, rowsOf_cons, upd, namesR, labsR, Row.sub, labsE_sub]; exact fun a _ => labL_sub a)
  have f3 := hr2 3 ⟨true, 26, 5, [[.int .i64 n.kind, .int .i64 n.num, .str n.text, .view (.fr g1) 1 (strsE n.names), .own 34 n.kids.length]]⟩ (by simp [mkSt, ASt.holdF, rowsOf_cons, upd, namesR, AV.subL, AV.sub, Row.sub, strsE_len])
  clear ht1 hr1 ht2 hr2
  (repeat (first | with_reducible refine AW.seq ?_ | ((first | refine arun_kn 4 rfl (fun C hC => ?_) | refine arunD_kn 4 rfl (fun C hC => ?_)); (repeat ((conv => whnf); simp [zeroN, ASt.holdF, namesR, labsR, AV.subL, AV.sub, Row.sub, rowsOf_cons, upd, labsE_sub, strsE_len, hlk])); refine hC _ ?_; clear hC C; simp only [List.drop, Nat.reduceAdd]) | ((first | refine arun_kn 1 rfl (fun C hC => ?_) | refine arunD_kn 1 rfl (fun C hC => ?_)); (repeat ((conv => whnf); simp [zeroN, ASt.holdF, namesR, labsR, AV.subL, AV.sub, Row.sub, rowsOf_cons, upd, labsE_sub, strsE_len, hlk])); refine hC _ ?_; clear hC C; simp only [List.drop, Nat.reduceAdd]) | (refine arun_skip ?_ ?_; (focus (simp [awant, zeroN, ASt.holdF, namesR, labsR, AV.subL, AV.sub, Row.sub, rowsOf_cons, upd, labsE_sub, strsE_len, hlk]; done))) | (refine AW.regionK [] (fun K hK => ?_)) | (refine AW.regionDK [] (pcs [] []) (by kernel_rfl) (by kernel_rfl) (fun K hK => ?_)) | (refine AW.condT ?_ ?_; (focus (simp [aev, zeroN, ASt.holdF, namesR, labsR, AV.subL, AV.sub, Row.sub, rowsOf_cons, upd, labsE_sub, strsE_len, hlk]; done))) | (refine AW.condF ?_ ?_; (focus (simp [aev, zeroN, ASt.holdF, namesR, labsR, AV.subL, AV.sub, Row.sub, rowsOf_cons, upd, labsE_sub, strsE_len, hlk]; done))) | with_reducible refine AW.block ?_ | ((first | ((first | refine arun_nil ?_ | refine arunD_nil ?_); refine hK _ ?_; clear hK K) | refine AW.skip ?_ | refine AW.exit ?_ | refine AW.ret ?_); simp only [thenA_exit, inBlockA_exit, if_true, if_false, Nat.reduceEqDiff, thenA_normal, inBlockA_normal, reduceIte, thenA_ret, inBlockA_ret, endQ_ret, endR_ret, endG_ret, endQ_normal, endR_normal, endG_normal, endF_ret, endF_normal])))
  have e2 : atE (labsR ks).es = ks.flatMap Lb.fp := atE_labs ks
  rw [e2] at f1 f2
  refine ⟨labA ⟨n.kind, n.num, n.text, n.names, g1, ks, g2⟩, by unfold labA; rw [labL_eq]; simp [ares, aresL, upd, rowsOf_cons, labL_sub], lab_pur _, fun b hb => ?_, rLab_X ⟨_, ?_, fp_nodup hk2 f1 f2 (fun h1 _ => f3 g1 ?_), rfl⟩⟩
  · rw [at_lab] at hb
    exact fp_ge (l := ⟨n.kind, n.num, n.text, n.names, g1, ks, g2⟩) hk3 hg1 hg2 b hb
  · rw [nd_eq]; dsimp only; rw [hk1]; cases n; rfl
  · dsimp only at h1
    have : (strsE n.names).isEmpty = false := by unfold strsE; cases hh : n.names with | nil => exact absurd hh h1 | cons _ _ => rfl
    simp [atE_cons, atE_nil, atL_cons, atL_nil, at_int, at_str, at_own, at_view, frB_fr, this]
theorem implCopyF_ACF : ∀ n, Sml n → ACF Tryd.prog 60 [nodeA n] 0 (rLabX n) :=
  sml_ind fun n hs ih => implCopyF_hold n hs ih
theorem implCopyF_ACM (n : Nd) (hs : Sml n) : ACM Tryd.prog 60 [nodeA n] 0 (fun r l => ∃ ks : List Lb, ks.map Lb.nd = n.kids ∧ (ks.flatMap Lb.fp).Nodup ∧ r = nodeRR n 20 34 ∧ l = [(20, namesR n.names), (34, labsR ks)]) :=
  implCopyF_step n hs (fun k hk => implCopyF_ACF k (hs.kid hk))
end Go.Proofs.YtfjaobfaepjfnaaDoor.Eng
-- EV: fresh
namespace Go.Proofs.YtfjaobfaepjfnaaDoor
open Go.RowKit
namespace Eng
def rNB (m : Nd) (b : Bool) (r : AV) : Prop := ∃ l : Lb, l.nd = m ∧ l.fp.Nodup ∧ r = .tup [labA l, .bool b]
theorem rNB_none {r : AV} (h : r = .tup [node0 0 0 ⟨#[]⟩, .bool false]) : Pur r ∧ (∀ B : Nat, ∀ b ∈ atB r, B ≤ b) ∧ ∃ r', Wk r r' ∧ (∀ b ∈ atB r', b ∈ atB r) ∧ rNB Nd.zero false r' := by
  subst h
  refine ⟨tup2_pur (node0_pur _ _ _) pur_bool, ?_, .tup [labA ⟨0, 0, ⟨#[]⟩, [], 0, [], 0⟩, .bool false], Wk.tup (.cons ?_ (.cons (Wk.refl _) .nil)), ?_, ⟨0, 0, ⟨#[]⟩, [], 0, [], 0⟩, by rw [nd_eq]; rfl, by rw [fp_eq]; simp [frB_fr], rfl⟩
  · intro B b hb
    simp [node0, at_tup, at_agg, atL_cons, atL_nil, at_int, at_str, at_bool, at_view, atE_nil, frB_tight] at hb
  · unfold node0 labA
    rw [labL_eq]
    exact .agg (.cons (Wk.refl _) (.cons (Wk.refl _) (.cons (Wk.refl _) (.cons (Wk.nil (fun h => by cases h)) (.cons (Wk.nil (fun h => by cases h)) .nil)))))
  · intro b hb
    rw [at_tup, atL_cons, at_lab, fp_eq] at hb
    simp [frB_fr, atL_cons, atL_nil, at_bool] at hb
theorem ACF.weak {P : Program} {f : FuncId} {args : List AV} {c : Nat} {Q : AV → Prop} (h : ACF P f args c (fun r => ∃ r', Wk r r' ∧ (∀ b ∈ atB r', b ∈ atB r) ∧ Q r')) : ACF P f args c Q :=
  ⟨h.1, fun w L S rb k vs h0 h1 h2 h3 => (h.2 w L S rb k vs h0 h1 h2 h3).mono fun e w' ⟨v, r, S', k1, k2, k3, k4, k5, k6, ⟨r', q1, q2, q3⟩, k8⟩ => ⟨v, r', S', k1, k2, k3, k4, k5, q1 _ _ _ k6, q3, fun b hb => k8 b (q2 b hb)⟩⟩
theorem at_tup2 (l : Lb) (b : Bool) : atB (.tup [labA l, .bool b]) = l.fp := by
  rw [at_tup, atL_cons, atL_cons, atL_nil, at_lab, at_bool]; simp
end Eng
end Go.Proofs.YtfjaobfaepjfnaaDoor
namespace Go.Proofs.YtfjaobfaepjfnaaDoor.Eng
open Go Go.RowKit
attribute [local simp] big size_mk ASt.pay Option.map_map Function.comp_def awant aop acall ado aev ofVal ofVal0 ASt.put ASt.add ASt.turn ASt.kill abox aalloc astore aload aloadD astoreD idOf ASt.at cellsTo afieldAddr afield aindexAddr aindex alen abin aint acmp astr aun apick aextract anil aslice abound abuild afill abuildSlice asCells aps avCells over upd aappend asrc amax amin aconv mkSt slots rowsOf_cons rowsOf_nil usedOf_cons usedOf_nil ZK.av List.replicate ASt.back ASt.addL ASt.killL nodeA nodeT nodeTL_eq nodeL_eq strsE_get strsE_len intsE_get intsE_len strsE_at intsE_at tab2 tab3 tab4 tab5 tab6 tab7 tab8 tab9 tab10 tab11 tab12 tab13 tab14 tab15 tab16 tab17 tab18 tab19 tab21 tab22 tab23 tab24 tab25 tab26 tab28 tab29 tab30 tab31 tab42 tab43 tab44 tab46 tab63 tab64 tab67 tab68 tab75 tab98 tab100 tab101 tab105 tab106 tab107 tab122 tab123 tab125 tab128 tab138 tab144 tab151 tab152 tab157 tab158 tab160 tab161 tab162
theorem dig_cut (k : Nat) (h : k < 10) : (⟨#[48, 49, 50, 51, 52, 53, 54, 55, 56, 57, 97, 98, 99, 100, 101, 102, 103, 104, 105, 106, 107, 108, 109, 110, 111, 112, 113, 114, 115, 116, 117, 118, 119, 120, 121, 122]⟩ : ByteArray).extract k (k + 1) = txt (dig1 k) := by
  have : ∀ k, k < 10 → (⟨#[48, 49, 50, 51, 52, 53, 54, 55, 56, 57, 97, 98, 99, 100, 101, 102, 103, 104, 105, 106, 107, 108, 109, 110, 111, 112, 113, 114, 115, 116, 117, 118, 119, 120, 121, 122]⟩ : ByteArray).extract k (k + 1) = txt (dig1 k) := by decide +kernel
  exact this k h
theorem small_AC (k : Nat) (hk : k < 10) : AC Tryd.prog 145 [.int .i64 (k : Int)] 0 (fun r => r = .str (txt (dig1 k))) := by
  have h10 : (k : Int) < 10 := by omega
  have hw : IntKind.i64.wrap ((k : Int) + 1) = (k : Int) + 1 := i64_nat (by omega) (by omega)
  have h1 : (0 : Int) ≤ (k : Int) + 1 := by omega
  have h2 : (k : Int) + 1 ≤ 36 := by omega
  have h3 : (k : Int) ≤ (k : Int) + 1 := by omega
  have h4 : ((k : Int) + 1).toNat = k + 1 := by omega
  have h5 : (0 : Int) ≤ (k : Int) := by omega
  refine AC.of tab_ok mixed_ok Tryd.func145 (by rfl) (by kernel_rfl) ?_; rintro ⟨P, T, hT, hm, w0, S0, rd0, k0⟩ hP hTT; dsimp only at hP hTT; subst hP hTT; unfold initSt; rw [Tryd.ntmps145]
  (repeat (first | with_reducible refine AW.seq ?_ | ((first | refine arun_kn 4 rfl (fun C hC => ?_) | refine arunD_kn 4 rfl (fun C hC => ?_)); (repeat ((conv => whnf); simp [h10, hw, h1, h2, h3, h4, h5, dig_cut k hk])); refine hC _ ?_; clear hC C; simp only [List.drop, Nat.reduceAdd]) | ((first | refine arun_kn 1 rfl (fun C hC => ?_) | refine arunD_kn 1 rfl (fun C hC => ?_)); (repeat ((conv => whnf); simp [h10, hw, h1, h2, h3, h4, h5, dig_cut k hk])); refine hC _ ?_; clear hC C; simp only [List.drop, Nat.reduceAdd]) | (refine arun_skip ?_ ?_; (focus (simp [awant, h10, hw, h1, h2, h3, h4, h5, dig_cut k hk]; done))) | (refine AW.regionK [] (fun K hK => ?_)) | (refine AW.regionDK [] (pcs [] []) (by kernel_rfl) (by kernel_rfl) (fun K hK => ?_)) | (refine AW.condT ?_ ?_; (focus (simp [aev, h10, hw, h1, h2, h3, h4, h5, dig_cut k hk]; done))) | (refine AW.condF ?_ ?_; (focus (simp [aev, h10, hw, h1, h2, h3, h4, h5, dig_cut k hk]; done))) | with_reducible refine AW.block ?_ | ((first | ((first | refine arun_nil ?_ | refine arunD_nil ?_); refine hK _ ?_; clear hK K) | refine AW.skip ?_ | refine AW.exit ?_ | refine AW.ret ?_); simp only [thenA_exit, inBlockA_exit, if_true, if_false, Nat.reduceEqDiff, thenA_normal, inBlockA_normal, reduceIte, thenA_ret, inBlockA_ret, endQ_ret, endR_ret, endG_ret, endQ_normal, endR_normal, endG_normal])))
  exact ⟨.str (txt (dig1 k)), by simp [ares, aresL], pur_str, rfl⟩
theorem FormatInt_AC (k : Nat) (hk : k < 10) : AC Tryd.prog 141 [.int .i64 (k : Int), .int .i64 10] 0 (fun r => r = .str (txt (dig1 k))) := by
  have h10 : (k : Int) < 100 := by omega
  have h5 : (0 : Int) ≤ (k : Int) := by omega
  refine AC.of tab_ok mixed_ok Tryd.func141 (by rfl) (by kernel_rfl) ?_; rintro ⟨P, T, hT, hm, w0, S0, rd0, k0⟩ hP hTT; dsimp only at hP hTT; subst hP hTT; unfold initSt; rw [Tryd.ntmps141]
  (repeat (first | with_reducible refine AW.seq ?_ | ((first | refine arun_kn 4 rfl (fun C hC => ?_) | refine arunD_kn 4 rfl (fun C hC => ?_)); (repeat ((conv => whnf); simp [h10, h5])); refine hC _ ?_; clear hC C; simp only [List.drop, Nat.reduceAdd]) | ((first | refine arun_kn 1 rfl (fun C hC => ?_) | refine arunD_kn 1 rfl (fun C hC => ?_)); (repeat ((conv => whnf); simp [h10, h5])); refine hC _ ?_; clear hC C; simp only [List.drop, Nat.reduceAdd]) | (refine arun_skip ?_ ?_; (focus (simp [awant, h10, h5]; done))) | (refine arun_c0 (small_AC k hk) ?_; rintro _ rfl) | (refine AW.regionK [] (fun K hK => ?_)) | (refine AW.regionDK [] (pcs [] []) (by kernel_rfl) (by kernel_rfl) (fun K hK => ?_)) | (refine AW.condT ?_ ?_; (focus (simp [aev, h10, h5]; done))) | (refine AW.condF ?_ ?_; (focus (simp [aev, h10, h5]; done))) | with_reducible refine AW.block ?_ | ((first | ((first | refine arun_nil ?_ | refine arunD_nil ?_); refine hK _ ?_; clear hK K) | refine AW.skip ?_ | refine AW.exit ?_ | refine AW.ret ?_); simp only [thenA_exit, inBlockA_exit, if_true, if_false, Nat.reduceEqDiff, thenA_normal, inBlockA_normal, reduceIte, thenA_ret, inBlockA_ret, endQ_ret, endR_ret, endG_ret, endQ_normal, endR_normal, endG_normal])))
  exact ⟨.str (txt (dig1 k)), by simp [ares, aresL], pur_str, rfl⟩
theorem Itoa0_AC (k : Nat) (hk : k < 10) : AC Tryd.prog 129 [.int .i64 (k : Int)] 0 (fun r => r = .str (txt (dig1 k))) := by
  refine AC.of tab_ok mixed_ok Tryd.func129 (by rfl) (by kernel_rfl) ?_; rintro ⟨P, T, hT, hm, w0, S0, rd0, k0⟩ hP hTT; dsimp only at hP hTT; subst hP hTT; unfold initSt; rw [Tryd.ntmps129]
  (repeat (first | with_reducible refine AW.seq ?_ | ((first | refine arun_kn 4 rfl (fun C hC => ?_) | refine arunD_kn 4 rfl (fun C hC => ?_)); (repeat ((conv => whnf); simp)); refine hC _ ?_; clear hC C; simp only [List.drop, Nat.reduceAdd]) | ((first | refine arun_kn 1 rfl (fun C hC => ?_) | refine arunD_kn 1 rfl (fun C hC => ?_)); (repeat ((conv => whnf); simp)); refine hC _ ?_; clear hC C; simp only [List.drop, Nat.reduceAdd]) | (refine arun_skip ?_ ?_; (focus (simp [awant]; done))) | (refine arun_c0 (FormatInt_AC k hk) ?_; rintro _ rfl) | (refine AW.regionK [] (fun K hK => ?_)) | (refine AW.regionDK [] (pcs [] []) (by kernel_rfl) (by kernel_rfl) (fun K hK => ?_)) | (refine AW.condT ?_ ?_; (focus (simp [aev]; done))) | (refine AW.condF ?_ ?_; (focus (simp [aev]; done))) | with_reducible refine AW.block ?_ | ((first | ((first | refine arun_nil ?_ | refine arunD_nil ?_); refine hK _ ?_; clear hK K) | refine AW.skip ?_ | refine AW.exit ?_ | refine AW.ret ?_); simp only [thenA_exit, inBlockA_exit, if_true, if_false, Nat.reduceEqDiff, thenA_normal, inBlockA_normal, reduceIte, thenA_ret, inBlockA_ret, endQ_ret, endR_ret, endG_ret, endQ_normal, endR_normal, endG_normal])))
  exact ⟨.str (txt (dig1 k)), by simp [ares, aresL], pur_str, rfl⟩
theorem Itoa_AC (k : Nat) (hk : k < 10) : AC Tryd.prog 100 [.int .i64 (k : Int)] 0 (fun r => r = .str (txt (dig1 k))) := by
  refine AC.of tab_ok mixed_ok Tryd.func100 (by rfl) (by kernel_rfl) ?_; rintro ⟨P, T, hT, hm, w0, S0, rd0, k0⟩ hP hTT; dsimp only at hP hTT; subst hP hTT; unfold initSt; rw [Tryd.ntmps100]
  (repeat (first | with_reducible refine AW.seq ?_ | ((first | refine arun_kn 4 rfl (fun C hC => ?_) | refine arunD_kn 4 rfl (fun C hC => ?_)); (repeat ((conv => whnf); simp)); refine hC _ ?_; clear hC C; simp only [List.drop, Nat.reduceAdd]) | ((first | refine arun_kn 1 rfl (fun C hC => ?_) | refine arunD_kn 1 rfl (fun C hC => ?_)); (repeat ((conv => whnf); simp)); refine hC _ ?_; clear hC C; simp only [List.drop, Nat.reduceAdd]) | (refine arun_skip ?_ ?_; (focus (simp [awant]; done))) | (refine arun_c0 (Itoa0_AC k hk) ?_; rintro _ rfl) | (refine AW.regionK [] (fun K hK => ?_)) | (refine AW.regionDK [] (pcs [] []) (by kernel_rfl) (by kernel_rfl) (fun K hK => ?_)) | (refine AW.condT ?_ ?_; (focus (simp [aev]; done))) | (refine AW.condF ?_ ?_; (focus (simp [aev]; done))) | with_reducible refine AW.block ?_ | ((first | ((first | refine arun_nil ?_ | refine arunD_nil ?_); refine hK _ ?_; clear hK K) | refine AW.skip ?_ | refine AW.exit ?_ | refine AW.ret ?_); simp only [thenA_exit, inBlockA_exit, if_true, if_false, Nat.reduceEqDiff, thenA_normal, inBlockA_normal, reduceIte, thenA_ret, inBlockA_ret, endQ_ret, endR_ret, endG_ret, endQ_normal, endR_normal, endG_normal])))
  exact ⟨.str (txt (dig1 k)), by simp [ares, aresL], pur_str, rfl⟩
end Go.Proofs.YtfjaobfaepjfnaaDoor.Eng
namespace Go.Proofs.YtfjaobfaepjfnaaDoor.Eng
open Go Go.RowKit
def stp (kind : Int) (names : List ByteArray) (i : Nat) : ByteArray := if kind = 4 then (names[i]?).getD ⟨#[]⟩ else txt (dig1 i)
mutual
def allS : Nd → List (List ByteArray)
  | ⟨k, _, _, ns, ks⟩ => [] :: allL k ns ks 0
def allL (k : Int) (ns : List ByteArray) : List Nd → Nat → List (List ByteArray)
  | [], _ => []
  | x :: xs, i => (allS x).map (stp k ns i :: ·) ++ allL k ns xs (i + 1)
end
theorem allS_eq (n : Nd) : allS n = [] :: allL n.kind n.names n.kids 0 := by cases n; rw [allS]
theorem allL_drop {k : Int} {ns : List ByteArray} {ks : List Nd} {i : Nat} (h : i < ks.length) : allL k ns (ks.drop i) i = (allS ks[i]).map (stp k ns i :: ·) ++ allL k ns (ks.drop (i + 1)) (i + 1) := by
  rw [List.drop_eq_getElem_cons h, allL]
theorem allL_end {k : Int} {ns : List ByteArray} {ks : List Nd} {i : Nat} (h : ¬ i < ks.length) : allL k ns (ks.drop i) i = [] := by
  rw [List.drop_eq_nil_of_le (by omega), allL]
mutual
theorem allS_len : ∀ n : Nd, (allS n).length = n.count
  | ⟨k, _, _, ns, ks⟩ => by rw [allS, Nd.count, List.length_cons, allL_len k ns ks 0]; omega
theorem allL_len (k : Int) (ns : List ByteArray) : ∀ (ks : List Nd) (i : Nat), (allL k ns ks i).length = countL ks
  | [], _ => by rw [allL, countL]; rfl
  | x :: xs, i => by rw [allL, countL, List.length_append, List.length_map, allS_len x, allL_len k ns xs (i + 1)]
end
inductive Way : Nd → Prop where
  | mk (n : Nd) (h1 : n.kind = 4 → n.kids.length ≤ n.names.length) (h2 : n.kids.length ≤ 6) (h3 : ∀ k ∈ n.kids, Way k) : Way n
theorem Way.names {n : Nd} : Way n → n.kind = 4 → n.kids.length ≤ n.names.length | .mk _ h _ _ => h
theorem Way.kids {n : Nd} : Way n → n.kids.length ≤ 6 | .mk _ _ h _ => h
theorem Way.kid {n : Nd} : Way n → ∀ k ∈ n.kids, Way k | .mk _ _ _ h => h
theorem count_mem : ∀ {ks : List Nd} {k : Nd}, k ∈ ks → k.count ≤ countL ks
  | [], _, h => by cases h
  | x :: xs, k, h => by
    rw [countL]
    rcases List.mem_cons.1 h with rfl | h
    · omega
    · have := count_mem h; omega
end Go.Proofs.YtfjaobfaepjfnaaDoor.Eng
namespace Go.Proofs.YtfjaobfaepjfnaaDoor.Eng
open Go Go.RowKit
attribute [local simp] big size_mk ASt.pay Option.map_map Function.comp_def awant aop acall ado aev ofVal ofVal0 ASt.put ASt.add ASt.turn ASt.kill abox aalloc astore aload aloadD astoreD idOf ASt.at cellsTo afieldAddr afield aindexAddr aindex alen abin aint acmp astr aun apick aextract anil aslice abound abuild afill abuildSlice asCells aps avCells over upd aappend asrc amax amin aconv mkSt slots rowsOf_cons rowsOf_nil usedOf_cons usedOf_nil ZK.av List.replicate ASt.back ASt.addL ASt.killL nodeA nodeT nodeTL_eq nodeL_eq strsE_get strsE_len intsE_get intsE_len strsE_at intsE_at tab2 tab3 tab4 tab5 tab6 tab7 tab8 tab9 tab10 tab11 tab12 tab13 tab14 tab15 tab16 tab17 tab18 tab19 tab21 tab22 tab23 tab24 tab25 tab26 tab28 tab29 tab30 tab31 tab42 tab43 tab44 tab46 tab63 tab64 tab67 tab68 tab75 tab98 tab100 tab101 tab105 tab106 tab107 tab122 tab123 tab125 tab128 tab138 tab144 tab151 tab152 tab157 tab158 tab160 tab161 tab162
def pathsR (l : List (List ByteArray)) : Row := ⟨false, 23, 1, pathsE l⟩
theorem paths_snoc (l : List (List ByteArray)) (p : List ByteArray) : pathsE l ++ [[.view .loose 1 (strsE p)]] = pathsE (l ++ [p]) := by unfold pathsE; rw [List.map_append]; rfl
theorem pathsE_sub {id m : Nat} {c : AV} (l : List (List ByteArray)) : (pathsE l).map (AV.subL id m c) = pathsE l := by
  unfold pathsE
  rw [List.map_map]
  exact List.map_congr_left (fun x _ => by simp [AV.subL, AV.sub])
theorem depth_mem : ∀ {ks : List Nd} {k : Nd}, k ∈ ks → k.depth ≤ depthL ks
  | [], _, h => by cases h
  | x :: xs, k, h => by
    rw [depthL]
    rcases List.mem_cons.1 h with rfl | h
    · omega
    · have := depth_mem h; omega
theorem AC.args {P : Program} {f : FuncId} {args args' : List AV} {c : Nat} {Post : AV → Prop} (h : AC P f args c Post) (hw : ∀ w ρ vs, RepL w ρ args' vs → RepL w ρ args vs) : AC P f args' c Post :=
  ⟨h.1, fun w L S rb k vs h0 h1 h2 h3 => h.2 w L S rb k vs h0 h1 h2 (hw w _ vs h3)⟩
theorem ACR.args {P : Program} {f : FuncId} {args args' : List AV} {c : Nat} {Post0 : AV → Prop} {Post : (Nat → AV) → Row → Prop} (h : ACR P f args c Post0 Post) (hw : ∀ w ρ vs, RepL w ρ args' vs → RepL w ρ args vs) : ACR P f args' c Post0 Post :=
  ⟨h.1, fun w L S rb k vs h0 h1 h2 h3 => h.2 w L S rb k vs h0 h1 h2 (hw w _ vs h3)⟩
theorem shape_way : ∀ n, ∀ d, shapeB n d = true → Way n := Nd.ind' _ (fun n ih d h => by
  rw [shapeB_eq] at h
  simp only [Bool.and_eq_true] at h
  have hp := parts_len h.1.2
  refine .mk n (fun h4 => ?_) hp.2 (fun k hk => ih k hk (d - 1) (shapeL_mem h.2 k hk))
  have h12 := h.1.2
  unfold partsB at h12
  simp only [Bool.and_eq_true] at h12
  have := h12.2
  rw [h4] at this
  simp at this
  omega)
theorem valid_way {n : Nd} (h : validB n = true) : Way n ∧ n.depth ≤ 5 ∧ n.count ≤ 40 := by
  unfold validB at h
  rw [Bool.and_eq_true] at h
  exact ⟨shape_way n 5 h.1, depth_le 5 n h.1, by simpa using h.2⟩
def wayS (n : Nd) : List (List ByteArray) := if validB n then allS n else []
theorem paths_sub (l : List (List ByteArray)) : AV.sub 0 (pathsR l).es.length (.view .loose (pathsR l).sz (pathsR l).es) (.own 0 l.length) = .view .loose 1 (pathsE l) := by
  simp [AV.sub, pathsR, pathsE_len]
theorem AC.ofPaths {f : FuncId} {args : List AV} {c : Nat} {l : List (List ByteArray)} (h : ACR Tryd.prog f args c (fun _ => False) (fun f R => f = (fun id => .own id l.length) ∧ R = pathsR l)) : AC Tryd.prog f args c (fun r => r = .view .loose 1 (pathsE l)) := by
  refine (AC.ofR h ?_).mono ?_
  · rintro r R ⟨rfl, rfl⟩
    rw [paths_sub]; exact paths_in _
  · rintro r (h | ⟨f, R, ⟨rfl, rfl⟩, rfl⟩)
    · exact h.elim
    · exact paths_sub l
theorem Less.hold {s : ASt} (id : Nat) : Less s (s.hold id) := fun _ _ _ _ _ _ _ _ hs => by
  obtain ⟨ρ', h, _⟩ := SR.held hs id
  exact ⟨ρ', h⟩
theorem allL_mem {k : Int} {ns : List ByteArray} {b : List ByteArray} : ∀ {ks : List Nd} {i : Nat}, b ∈ allL k ns ks i → ∃ x ∈ ks, ∃ c ∈ allS x, ∃ j, b = stp k ns j :: c
  | [], _, h => by rw [allL] at h; cases h
  | x :: xs, i, h => by
    rw [allL, List.mem_append] at h
    rcases h with h | h
    · obtain ⟨c, hc, rfl⟩ := List.mem_map.1 h
      exact ⟨x, by simp, c, hc, i, rfl⟩
    · obtain ⟨y, hy, c, hc, j, rfl⟩ := allL_mem h
      exact ⟨y, by simp [hy], c, hc, j, rfl⟩
theorem allS_short : ∀ n : Nd, ∀ b ∈ allS n, b.length < n.depth := Nd.ind' _ (fun n ih b hb => by
  rw [allS_eq] at hb
  have hd := n.depth_eq
  rcases List.mem_cons.1 hb with rfl | hb
  · simp; omega
  · obtain ⟨x, hx, c, hc, j, rfl⟩ := allL_mem hb
    have h1 := ih x hx c hc
    have h2 := depth_mem hx
    rw [List.length_cons]; omega)
theorem allW_step (n : Nd) (hn : Way n) (hc : n.count ≤ 1000) (hd : n.depth ≤ 500) (ih : ∀ k ∈ n.kids, k.count ≤ 1000 → k.depth ≤ 500 → AC Tryd.prog 66 [nodeA k] 0 (fun r => r = .view .loose 1 (pathsE (allS k)))) : ACR Tryd.prog 66 [nodeA n] 0 (fun _ => False) (fun f R => f = (fun id => .own id (allS n).length) ∧ R = pathsR (allS n)) := by
  have hcnt := n.count_eq
  have hdep := n.depth_eq
  have hk6 := hn.kids
  have hin : ∀ (L : List (List ByteArray)) (U : Nat → Bool), ∀ e ∈ pathsE L, ∀ c ∈ e, AV.In U c := fun L U => pathsE_in L
  unfold nodeA
  rw [nodeL_eq]
  refine ACR.of tab_ok mixed_ok Tryd.func66 (by rfl) (by kernel_rfl) ?_; rintro ⟨P, T, hT, hm, w0, S0, rd0, k0⟩ hP hTT; dsimp only at hP hTT; subst hP hTT; unfold initSt; rw [Tryd.ntmps66]
  (repeat (first | with_reducible refine AW.seq ?_ | ((first | refine arun_knb 4 rfl (fun C hC => ?_) | refine arunD_kn 4 rfl (fun C hC => ?_)); (repeat ((conv => whnf); simp)); refine hC _ ?_; clear hC C; simp only [List.drop, Nat.reduceAdd]) | ((first | refine arun_knb 1 rfl (fun C hC => ?_) | refine arunD_kn 1 rfl (fun C hC => ?_)); (repeat ((conv => whnf); simp)); refine hC _ ?_; clear hC C; simp only [List.drop, Nat.reduceAdd]) | (refine arun_skip ?_ ?_; (focus (simp [awant]; done))) | (refine AW.regionK [] (fun K hK => ?_)) | (refine AW.regionDK [] (pcs [] []) (by kernel_rfl) (by kernel_rfl) (fun K hK => ?_)) | (refine AW.condT ?_ ?_; (focus (simp [aev]; done))) | (refine AW.condF ?_ ?_; (focus (simp [aev]; done))) | with_reducible refine AW.block ?_ | ((first | ((first | refine arun_nil ?_ | refine arunD_nil ?_); refine hK _ ?_; clear hK K) | refine AW.skip ?_ | refine AW.exit ?_ | refine AW.ret ?_); simp only [thenA_exit, inBlockA_exit, if_true, if_false, Nat.reduceEqDiff, thenA_normal, inBlockA_normal, reduceIte, thenA_ret, inBlockA_ret, endQ_ret, endR_ret, endG_ret, endQ_normal, endR_normal, endG_normal])))
  refine arun_ownSlice 8 rfl (by simp [awant]) tab23 (by simp; exact ⟨rfl, rfl⟩) (by simp [upd]) ?_
  (repeat (first | with_reducible refine AW.seq ?_ | ((first | refine arun_knb 4 rfl (fun C hC => ?_) | refine arunD_kn 4 rfl (fun C hC => ?_)); (repeat ((conv => whnf); simp)); refine hC _ ?_; clear hC C; simp only [List.drop, Nat.reduceAdd]) | ((first | refine arun_knb 1 rfl (fun C hC => ?_) | refine arunD_kn 1 rfl (fun C hC => ?_)); (repeat ((conv => whnf); simp)); refine hC _ ?_; clear hC C; simp only [List.drop, Nat.reduceAdd]) | (refine arun_skip ?_ ?_; (focus (simp [awant]; done))) | (refine AW.regionK [] (fun K hK => ?_)) | (refine AW.regionDK [] (pcs [] []) (by kernel_rfl) (by kernel_rfl) (fun K hK => ?_)) | (refine AW.condT ?_ ?_; (focus (simp [aev]; done))) | (refine AW.condF ?_ ?_; (focus (simp [aev]; done))) | with_reducible refine AW.block ?_ | ((first | ((first | refine arun_nil ?_ | refine arunD_nil ?_); refine hK _ ?_; clear hK K) | refine AW.skip ?_ | refine AW.exit ?_ | refine AW.ret ?_); simp only [thenA_exit, inBlockA_exit, if_true, if_false, Nat.reduceEqDiff, thenA_normal, inBlockA_normal, reduceIte, thenA_ret, inBlockA_ret, endQ_ret, endR_ret, endG_ret, endQ_normal, endR_normal, endG_normal])))
  refine arun_ownSlice 9 rfl (by simp [awant]) tab46 (by simp; exact ⟨rfl, rfl⟩) (by simp [upd]) ?_
  (repeat (first | with_reducible refine AW.seq ?_ | ((first | refine arun_knb 4 rfl (fun C hC => ?_) | refine arunD_kn 4 rfl (fun C hC => ?_)); (repeat ((conv => whnf); simp)); refine hC _ ?_; clear hC C; simp only [List.drop, Nat.reduceAdd]) | ((first | refine arun_knb 1 rfl (fun C hC => ?_) | refine arunD_kn 1 rfl (fun C hC => ?_)); (repeat ((conv => whnf); simp)); refine hC _ ?_; clear hC C; simp only [List.drop, Nat.reduceAdd]) | (refine arun_skip ?_ ?_; (focus (simp [awant]; done))) | (refine AW.regionK [] (fun K hK => ?_)) | (refine AW.regionDK [] (pcs [] []) (by kernel_rfl) (by kernel_rfl) (fun K hK => ?_)) | (refine AW.condT ?_ ?_; (focus (simp [aev]; done))) | (refine AW.condF ?_ ?_; (focus (simp [aev]; done))) | with_reducible refine AW.block ?_ | ((first | ((first | refine arun_nil ?_ | refine arunD_nil ?_); refine hK _ ?_; clear hK K) | refine AW.skip ?_ | refine AW.exit ?_ | refine AW.ret ?_); simp only [thenA_exit, inBlockA_exit, if_true, if_false, Nat.reduceEqDiff, thenA_normal, inBlockA_normal, reduceIte, thenA_ret, inBlockA_ret, endQ_ret, endR_ret, endG_ret, endQ_normal, endR_normal, endG_normal])))
  refine AW.hold 8 ?_
  refine AW.loopS (fun (x : Nat × List (List ByteArray)) => mkSt (slots 0 50 [(1, .ptr true 5 1 1 0 0), (3, .own 9 x.2.length), (4, .int .i64 x.1)]) [(1, ⟨true, 26, 5, [nodeL n]⟩), (9, pathsR x.2)] [1, 9] (rd0.map fun _ => 0)) (fun x => n.kids.length - x.1) (fun x => x.1 ≤ n.kids.length ∧ x.2 ++ allL n.kind n.names (n.kids.drop x.1) x.1 = allS n) (0, [[]]) ?_ ⟨Nat.zero_le _, by rw [allS_eq]; simp⟩ ?_
  · have hp0 : pathsE [[]] = [[AV.view .loose 1 []]] := rfl
    dsimp only
    rw [nodeL_eq]
    exact (less_of (by simp [lessL, mkSt, slots, ASt.hold, pathsR, hp0, AV.subL, AV.sub, Row.sub, rowsOf_nil]) (by simp [upd, mkSt, rowsOf_cons, ASt.hold, pathsR, hp0, AV.subL, AV.sub, Row.sub, rowsOf_nil]) (by simp [upd, mkSt, usedOf_cons, ASt.hold, pathsR, hp0, AV.subL, AV.sub, Row.sub, rowsOf_nil]) (by first | exact rd_less (by omega) | simp [mkSt, ASt.hold, pathsR, hp0, AV.subL, AV.sub, Row.sub, rowsOf_nil]) (by simp [slots, in_any, in_int, in_bool, in_str, in_ptr, in_own, in_agg, in_vnil, in_rdr, usedOf_cons, usedOf_nil, strs_in, ints_in, nodes_in, in_tup, ASt.hold, pathsR, hp0, AV.subL, AV.sub, Row.sub, rowsOf_nil]) (by simp only [List.forall_mem_cons, List.not_mem_nil, false_implies, implies_true, and_true, true_and, ASt.hold, pathsR, hp0, AV.subL, AV.sub, Row.sub, rowsOf_nil]; (repeat (first | with_reducible exact trivial | with_reducible refine And.intro ?_ ?_ | with_reducible exact in_int | with_reducible exact in_str | with_reducible exact in_bool | with_reducible exact strs_in _ | with_reducible exact nodes_in _ | with_reducible exact items_in _ | with_reducible exact in_vnil | with_reducible exact in_any | exact hin _ | with_reducible refine take_in ?_ | with_reducible exact strsE_in _ | with_reducible exact nodesE_in _ | with_reducible exact nodeL_in _ | with_reducible exact itemsE_in _ | with_reducible exact itemL_in _ | with_reducible refine app_in ?_ ?_ | with_reducible refine sing_in ?_ | (focus (simp [in_any, in_int, in_bool, in_str, in_ptr, in_own, in_agg, in_vnil, in_rdr, usedOf_cons, usedOf_nil, strs_in, ints_in, nodes_in, ASt.hold, pathsR, hp0, AV.subL, AV.sub, Row.sub, rowsOf_nil]; done)))); done))
  · rintro ⟨i, L⟩ ⟨hi, hf⟩
    dsimp only at hi hf ⊢
    have hlen := congrArg List.length hf
    simp only [List.length_append, allL_len, allS_len] at hlen
    rw [nodeL_eq]
    by_cases hlt : i < n.kids.length
    · have hw : IntKind.i64.wrap ((i : Int) + 1) = (i : Int) + 1 := i64_nat (by omega) (by omega)
      have hmem := List.getElem_mem hlt
      have hcm := count_mem (show n.kids[i] ∈ n.kids.drop i by rw [List.drop_eq_getElem_cons hlt]; exact List.mem_cons_self)
      have hkl := allS_len n.kids[i]
      have hdm := depth_mem hmem
      have pk := ih n.kids[i] hmem (by omega) (by omega)
      have hB : ∀ b ∈ allS n.kids[i], b.length ≤ 500 := fun b hb => by have := allS_short _ b hb; omega
      have pd := decimal_AC i (by omega)
      rw [allL_drop hlt, ← List.append_assoc] at hf
      unfold nodeA at pk
      rw [nodeL_eq] at pk
      have hLb : L.length + (allS n.kids[i]).length ≤ 2000 := by omega
      generalize allS n.kids[i] = B at *
      by_cases hk : n.kind = 4
      · have hnl := hn.names hk
        have hni : i < n.names.length := by omega
        have hst : stp n.kind n.names i = n.names[i] := by unfold stp; rw [if_pos hk, List.getElem?_eq_getElem hni]; rfl
        rw [hst] at hf
        (repeat (first | with_reducible refine AW.seq ?_ | ((first | refine arun_kn 4 rfl (fun C hC => ?_) | refine arunD_kn 4 rfl (fun C hC => ?_)); (repeat ((conv => whnf); simp [hlt, hk, hni])); refine hC _ ?_; clear hC C; simp only [List.drop, Nat.reduceAdd]) | ((first | refine arun_kn 1 rfl (fun C hC => ?_) | refine arunD_kn 1 rfl (fun C hC => ?_)); (repeat ((conv => whnf); simp [hlt, hk, hni])); refine hC _ ?_; clear hC C; simp only [List.drop, Nat.reduceAdd]) | (refine arun_skip ?_ ?_; (focus (simp [awant, hlt, hk, hni]; done))) | (refine arun_c0 (pd) ?_; rintro _ rfl) | (refine arun_c0 (pk) ?_; rintro _ rfl) | (refine AW.regionK [] (fun K hK => ?_)) | (refine AW.regionDK [] (pcs [] []) (by kernel_rfl) (by kernel_rfl) (fun K hK => ?_)) | (refine AW.condT ?_ ?_; (focus (simp [aev, hlt, hk, hni]; done))) | (refine AW.condF ?_ ?_; (focus (simp [aev, hlt, hk, hni]; done))) | with_reducible refine AW.block ?_ | ((first | ((first | refine arun_nil ?_ | refine arunD_nil ?_); refine hK _ ?_; clear hK K) | refine AW.skip ?_ | refine AW.exit ?_ | refine AW.ret ?_); simp only [thenA_exit, inBlockA_exit, if_true, if_false, Nat.reduceEqDiff, thenA_normal, inBlockA_normal, reduceIte, thenA_ret, inBlockA_ret, endQ_ret, endR_ret, endG_ret, endQ_normal, endR_normal, endG_normal])))
        refine AW.loopS (fun (y : Nat × List (List ByteArray)) => mkSt (slots 0 50 [(1, .ptr true 5 1 1 0 0), (3, .own 9 y.2.length), (4, .int .i64 i), (5, .str n.names[i]), (6, .view .loose 1 (pathsE B)), (7, .int .i64 y.1)]) [(1, ⟨true, 26, 5, [[.int .i64 n.kind, .int .i64 n.num, .str n.text, .view .loose 1 (strsE n.names), .view .loose 5 (n.kids.map nodeL)]]⟩), (9, pathsR y.2)] [1, 9] (rd0.map fun _ => 0)) (fun y => B.length - y.1) (fun y => y.1 ≤ B.length ∧ y.2 ++ (B.drop y.1).map (n.names[i] :: ·) = L ++ B.map (n.names[i] :: ·)) (0, L) ?_ ⟨Nat.zero_le _, rfl⟩ ?_
        · have hin := hin L
          exact (less_of (by simp [lessL, mkSt, slots, in_paths, pathsR, hk]) (by simp [upd, mkSt, rowsOf_cons, in_paths, pathsR, hk]) (by simp [upd, mkSt, usedOf_cons, in_paths, pathsR, hk]) (by first | exact rd_less (by omega) | simp [mkSt, in_paths, pathsR, hk]) (by simp [slots, in_any, in_int, in_bool, in_str, in_ptr, in_own, in_agg, in_vnil, in_rdr, usedOf_cons, usedOf_nil, strs_in, ints_in, nodes_in, in_tup, in_paths, pathsR, hk]) (by simp only [List.forall_mem_cons, List.not_mem_nil, false_implies, implies_true, and_true, true_and, in_paths, pathsR, hk]; (repeat (first | with_reducible exact trivial | with_reducible refine And.intro ?_ ?_ | with_reducible exact in_int | with_reducible exact in_str | with_reducible exact in_bool | with_reducible exact strs_in _ | with_reducible exact nodes_in _ | with_reducible exact items_in _ | with_reducible exact in_vnil | with_reducible exact in_any | exact hin _ | with_reducible refine take_in ?_ | with_reducible exact strsE_in _ | with_reducible exact nodesE_in _ | with_reducible exact nodeL_in _ | with_reducible exact itemsE_in _ | with_reducible exact itemL_in _ | with_reducible refine app_in ?_ ?_ | with_reducible refine sing_in ?_ | (focus (simp [in_any, in_int, in_bool, in_str, in_ptr, in_own, in_agg, in_vnil, in_rdr, usedOf_cons, usedOf_nil, strs_in, ints_in, nodes_in, in_paths, pathsR, hk]; done)))); done))
        · rintro ⟨j, M⟩ ⟨hj, hg⟩
          dsimp only at hj hg ⊢
          have hgl := congrArg List.length hg
          simp only [List.length_append, List.length_map, List.length_drop] at hgl
          by_cases hjt : j < B.length
          · have hjw : IntKind.i64.wrap ((j : Int) + 1) = (j : Int) + 1 := i64_nat (by omega) (by omega)
            have hbl := hB _ (List.getElem_mem hjt)
            have hb1 : (M.length + 1) * 24 ≤ 140737488355328 := by omega
            have hb2 : M.length + 1 ≤ 140737488355328 := by omega
            have hb3 : (1 + B[j].length) * 16 ≤ 140737488355328 := by omega
            have hb4 : 1 + B[j].length ≤ 140737488355328 := by omega
            rw [List.drop_eq_getElem_cons hjt, List.map_cons, List.append_cons] at hg
            (repeat (first | with_reducible refine AW.seq ?_ | ((first | refine arun_knb 4 rfl (fun C hC => ?_) | refine arunD_kn 4 rfl (fun C hC => ?_)); (repeat ((conv => whnf); simp [hjt, pathsE_len, pathsE_get, pathsE_at])); refine hC _ ?_; clear hC C; simp only [List.drop, Nat.reduceAdd]) | ((first | refine arun_knb 1 rfl (fun C hC => ?_) | refine arunD_kn 1 rfl (fun C hC => ?_)); (repeat ((conv => whnf); simp [hjt, pathsE_len, pathsE_get, pathsE_at])); refine hC _ ?_; clear hC C; simp only [List.drop, Nat.reduceAdd]) | (refine arun_skip ?_ ?_; (focus (simp [awant, hjt, pathsE_len, pathsE_get, pathsE_at]; done))) | (refine AW.regionK [] (fun K hK => ?_)) | (refine AW.regionDK [] (pcs [] []) (by kernel_rfl) (by kernel_rfl) (fun K hK => ?_)) | (refine AW.condT ?_ ?_; (focus (simp [aev, hjt, pathsE_len, pathsE_get, pathsE_at]; done))) | (refine AW.condF ?_ ?_; (focus (simp [aev, hjt, pathsE_len, pathsE_get, pathsE_at]; done))) | with_reducible refine AW.block ?_ | ((first | ((first | refine arun_nil ?_ | refine arunD_nil ?_); refine hK _ ?_; clear hK K) | refine AW.skip ?_ | refine AW.exit ?_ | refine AW.ret ?_); simp only [thenA_exit, inBlockA_exit, if_true, if_false, Nat.reduceEqDiff, thenA_normal, inBlockA_normal, reduceIte, thenA_ret, inBlockA_ret, endQ_ret, endR_ret, endG_ret, endQ_normal, endR_normal, endG_normal])))
            refine arun_ownSlice 41 rfl (by simp [awant]) tab23 (by simp; exact ⟨rfl, rfl⟩) (by simp [upd, usedOf_cons, usedOf_nil]) ?_
            (repeat (first | with_reducible refine AW.seq ?_ | ((first | refine arun_kn 4 rfl (fun C hC => ?_) | refine arunD_kn 4 rfl (fun C hC => ?_)); (repeat ((conv => whnf); simp [hjt, hjw, pathsE_len, pathsE_get, pathsE_at, strsE_len, hb1, hb2, hb3, hb4, pathsR])); refine hC _ ?_; clear hC C; simp only [List.drop, Nat.reduceAdd]) | ((first | refine arun_kn 1 rfl (fun C hC => ?_) | refine arunD_kn 1 rfl (fun C hC => ?_)); (repeat ((conv => whnf); simp [hjt, hjw, pathsE_len, pathsE_get, pathsE_at, strsE_len, hb1, hb2, hb3, hb4, pathsR])); refine hC _ ?_; clear hC C; simp only [List.drop, Nat.reduceAdd]) | (refine arun_skip ?_ ?_; (focus (simp [awant, hjt, hjw, pathsE_len, pathsE_get, pathsE_at, strsE_len, hb1, hb2, hb3, hb4, pathsR]; done))) | (refine AW.regionK [] (fun K hK => ?_)) | (refine AW.regionDK [] (pcs [] []) (by kernel_rfl) (by kernel_rfl) (fun K hK => ?_)) | (refine AW.condT ?_ ?_; (focus (simp [aev, hjt, hjw, pathsE_len, pathsE_get, pathsE_at, strsE_len, hb1, hb2, hb3, hb4, pathsR]; done))) | (refine AW.condF ?_ ?_; (focus (simp [aev, hjt, hjw, pathsE_len, pathsE_get, pathsE_at, strsE_len, hb1, hb2, hb3, hb4, pathsR]; done))) | with_reducible refine AW.block ?_ | ((first | ((first | refine arun_nil ?_ | refine arunD_nil ?_); refine hK _ ?_; clear hK K) | refine AW.skip ?_ | refine AW.exit ?_ | refine AW.ret ?_); simp only [thenA_exit, inBlockA_exit, if_true, if_false, Nat.reduceEqDiff, thenA_normal, inBlockA_normal, reduceIte, thenA_ret, inBlockA_ret, endQ_ret, endR_ret, endG_ret, endQ_normal, endR_normal, endG_normal])))
            refine ⟨(j + 1, M ++ [n.names[i] :: B[j]]), by dsimp only; omega, ⟨by dsimp only; omega, hg⟩, ?_⟩
            have hsn : pathsE (M ++ [n.names[i] :: B[j]]) = pathsE M ++ [[.view .loose 1 ([.str n.names[i]] :: strsE B[j])]] := by rw [← paths_snoc]; rfl
            have hin := hin (M ++ [n.names[i] :: B[j]])
            have hml : (M ++ [n.names[i] :: B[j]]).length = M.length + 1 := by simp
            dsimp only
            rw [hml]
            rw [hsn] at hin
            refine Less.trans (Less.hold 41) (less_of (by simp [lessL, mkSt, slots, ASt.hold, in_paths, pathsR, hk, hsn, pathsE_sub, AV.subL, AV.sub, Row.sub, rowsOf_nil, strsE_len]) (by simp [upd, mkSt, rowsOf_cons, ASt.hold, in_paths, pathsR, hk, hsn, pathsE_sub, AV.subL, AV.sub, Row.sub, rowsOf_nil, strsE_len]) (by simp [upd, mkSt, usedOf_cons, ASt.hold, in_paths, pathsR, hk, hsn, pathsE_sub, AV.subL, AV.sub, Row.sub, rowsOf_nil, strsE_len]) (by first | exact rd_less (by omega) | simp [mkSt, ASt.hold, in_paths, pathsR, hk, hsn, pathsE_sub, AV.subL, AV.sub, Row.sub, rowsOf_nil, strsE_len]) (by simp [slots, in_any, in_int, in_bool, in_str, in_ptr, in_own, in_agg, in_vnil, in_rdr, usedOf_cons, usedOf_nil, strs_in, ints_in, nodes_in, in_tup, ASt.hold, in_paths, pathsR, hk, hsn, pathsE_sub, AV.subL, AV.sub, Row.sub, rowsOf_nil, strsE_len]) (by simp only [List.forall_mem_cons, List.not_mem_nil, false_implies, implies_true, and_true, true_and, ASt.hold, in_paths, pathsR, hk, hsn, pathsE_sub, AV.subL, AV.sub, Row.sub, rowsOf_nil, strsE_len]; (repeat (first | with_reducible exact trivial | with_reducible refine And.intro ?_ ?_ | with_reducible exact in_int | with_reducible exact in_str | with_reducible exact in_bool | with_reducible exact strs_in _ | with_reducible exact nodes_in _ | with_reducible exact items_in _ | with_reducible exact in_vnil | with_reducible exact in_any | exact hin _ | with_reducible refine take_in ?_ | with_reducible exact strsE_in _ | with_reducible exact nodesE_in _ | with_reducible exact nodeL_in _ | with_reducible exact itemsE_in _ | with_reducible exact itemL_in _ | with_reducible refine app_in ?_ ?_ | with_reducible refine sing_in ?_ | (focus (simp [in_any, in_int, in_bool, in_str, in_ptr, in_own, in_agg, in_vnil, in_rdr, usedOf_cons, usedOf_nil, strs_in, ints_in, nodes_in, ASt.hold, in_paths, pathsR, hk, hsn, pathsE_sub, AV.subL, AV.sub, Row.sub, rowsOf_nil, strsE_len]; done)))); done))
          · rw [List.drop_eq_nil_of_le (by omega), List.map_nil, List.append_nil] at hg
            (repeat (first | with_reducible refine AW.seq ?_ | ((first | refine arun_kn 4 rfl (fun C hC => ?_) | refine arunD_kn 4 rfl (fun C hC => ?_)); (repeat ((conv => whnf); simp [hjt, pathsE_len, hw])); refine hC _ ?_; clear hC C; simp only [List.drop, Nat.reduceAdd]) | ((first | refine arun_kn 1 rfl (fun C hC => ?_) | refine arunD_kn 1 rfl (fun C hC => ?_)); (repeat ((conv => whnf); simp [hjt, pathsE_len, hw])); refine hC _ ?_; clear hC C; simp only [List.drop, Nat.reduceAdd]) | (refine arun_skip ?_ ?_; (focus (simp [awant, hjt, pathsE_len, hw]; done))) | (refine AW.regionK [] (fun K hK => ?_)) | (refine AW.regionDK [] (pcs [] []) (by kernel_rfl) (by kernel_rfl) (fun K hK => ?_)) | (refine AW.condT ?_ ?_; (focus (simp [aev, hjt, pathsE_len, hw]; done))) | (refine AW.condF ?_ ?_; (focus (simp [aev, hjt, pathsE_len, hw]; done))) | with_reducible refine AW.block ?_ | ((first | ((first | refine arun_nil ?_ | refine arunD_nil ?_); refine hK _ ?_; clear hK K) | refine AW.skip ?_ | refine AW.exit ?_ | refine AW.ret ?_); simp only [thenA_exit, inBlockA_exit, if_true, if_false, Nat.reduceEqDiff, thenA_normal, inBlockA_normal, reduceIte, thenA_ret, inBlockA_ret, endQ_ret, endR_ret, endG_ret, endQ_normal, endR_normal, endG_normal])))
            refine ⟨(i + 1, M), by dsimp only; omega, ⟨by dsimp only; omega, by dsimp only; rw [hg]; exact hf⟩, ?_⟩
            have hin := hin M
            exact (less_of (by simp [lessL, mkSt, slots, in_paths, pathsR, hk]) (by simp [upd, mkSt, rowsOf_cons, in_paths, pathsR, hk]) (by simp [upd, mkSt, usedOf_cons, in_paths, pathsR, hk]) (by first | exact rd_less (by omega) | simp [mkSt, in_paths, pathsR, hk]) (by simp [slots, in_any, in_int, in_bool, in_str, in_ptr, in_own, in_agg, in_vnil, in_rdr, usedOf_cons, usedOf_nil, strs_in, ints_in, nodes_in, in_tup, in_paths, pathsR, hk]) (by simp only [List.forall_mem_cons, List.not_mem_nil, false_implies, implies_true, and_true, true_and, in_paths, pathsR, hk]; (repeat (first | with_reducible exact trivial | with_reducible refine And.intro ?_ ?_ | with_reducible exact in_int | with_reducible exact in_str | with_reducible exact in_bool | with_reducible exact strs_in _ | with_reducible exact nodes_in _ | with_reducible exact items_in _ | with_reducible exact in_vnil | with_reducible exact in_any | exact hin _ | with_reducible refine take_in ?_ | with_reducible exact strsE_in _ | with_reducible exact nodesE_in _ | with_reducible exact nodeL_in _ | with_reducible exact itemsE_in _ | with_reducible exact itemL_in _ | with_reducible refine app_in ?_ ?_ | with_reducible refine sing_in ?_ | (focus (simp [in_any, in_int, in_bool, in_str, in_ptr, in_own, in_agg, in_vnil, in_rdr, usedOf_cons, usedOf_nil, strs_in, ints_in, nodes_in, in_paths, pathsR, hk]; done)))); done))
      · have hk' : (n.kind == 4) = false := by simpa using hk
        have hst : stp n.kind n.names i = txt (dig1 i) := by unfold stp; rw [if_neg hk]
        rw [hst] at hf
        generalize txt (dig1 i) = st at *
        (repeat (first | with_reducible refine AW.seq ?_ | ((first | refine arun_kn 4 rfl (fun C hC => ?_) | refine arunD_kn 4 rfl (fun C hC => ?_)); (repeat ((conv => whnf); simp [hlt, hk, hk'])); refine hC _ ?_; clear hC C; simp only [List.drop, Nat.reduceAdd]) | ((first | refine arun_kn 1 rfl (fun C hC => ?_) | refine arunD_kn 1 rfl (fun C hC => ?_)); (repeat ((conv => whnf); simp [hlt, hk, hk'])); refine hC _ ?_; clear hC C; simp only [List.drop, Nat.reduceAdd]) | (refine arun_skip ?_ ?_; (focus (simp [awant, hlt, hk, hk']; done))) | (refine arun_c0 (pd) ?_; rintro _ rfl) | (refine arun_c0 (pk) ?_; rintro _ rfl) | (refine AW.regionK [] (fun K hK => ?_)) | (refine AW.regionDK [] (pcs [] []) (by kernel_rfl) (by kernel_rfl) (fun K hK => ?_)) | (refine AW.condT ?_ ?_; (focus (simp [aev, hlt, hk, hk']; done))) | (refine AW.condF ?_ ?_; (focus (simp [aev, hlt, hk, hk']; done))) | with_reducible refine AW.block ?_ | ((first | ((first | refine arun_nil ?_ | refine arunD_nil ?_); refine hK _ ?_; clear hK K) | refine AW.skip ?_ | refine AW.exit ?_ | refine AW.ret ?_); simp only [thenA_exit, inBlockA_exit, if_true, if_false, Nat.reduceEqDiff, thenA_normal, inBlockA_normal, reduceIte, thenA_ret, inBlockA_ret, endQ_ret, endR_ret, endG_ret, endQ_normal, endR_normal, endG_normal])))
        refine AW.loopS (fun (y : Nat × List (List ByteArray)) => mkSt (slots 0 50 [(1, .ptr true 5 1 1 0 0), (3, .own 9 y.2.length), (4, .int .i64 i), (5, .str st), (6, .view .loose 1 (pathsE B)), (7, .int .i64 y.1)]) [(1, ⟨true, 26, 5, [[.int .i64 n.kind, .int .i64 n.num, .str n.text, .view .loose 1 (strsE n.names), .view .loose 5 (n.kids.map nodeL)]]⟩), (9, pathsR y.2)] [1, 9] (rd0.map fun _ => 0)) (fun y => B.length - y.1) (fun y => y.1 ≤ B.length ∧ y.2 ++ (B.drop y.1).map (st :: ·) = L ++ B.map (st :: ·)) (0, L) ?_ ⟨Nat.zero_le _, rfl⟩ ?_
        · have hin := hin L
          exact (less_of (by simp [lessL, mkSt, slots, in_paths, pathsR, hk]) (by simp [upd, mkSt, rowsOf_cons, in_paths, pathsR, hk]) (by simp [upd, mkSt, usedOf_cons, in_paths, pathsR, hk]) (by first | exact rd_less (by omega) | simp [mkSt, in_paths, pathsR, hk]) (by simp [slots, in_any, in_int, in_bool, in_str, in_ptr, in_own, in_agg, in_vnil, in_rdr, usedOf_cons, usedOf_nil, strs_in, ints_in, nodes_in, in_tup, in_paths, pathsR, hk]) (by simp only [List.forall_mem_cons, List.not_mem_nil, false_implies, implies_true, and_true, true_and, in_paths, pathsR, hk]; (repeat (first | with_reducible exact trivial | with_reducible refine And.intro ?_ ?_ | with_reducible exact in_int | with_reducible exact in_str | with_reducible exact in_bool | with_reducible exact strs_in _ | with_reducible exact nodes_in _ | with_reducible exact items_in _ | with_reducible exact in_vnil | with_reducible exact in_any | exact hin _ | with_reducible refine take_in ?_ | with_reducible exact strsE_in _ | with_reducible exact nodesE_in _ | with_reducible exact nodeL_in _ | with_reducible exact itemsE_in _ | with_reducible exact itemL_in _ | with_reducible refine app_in ?_ ?_ | with_reducible refine sing_in ?_ | (focus (simp [in_any, in_int, in_bool, in_str, in_ptr, in_own, in_agg, in_vnil, in_rdr, usedOf_cons, usedOf_nil, strs_in, ints_in, nodes_in, in_paths, pathsR, hk]; done)))); done))
        · rintro ⟨j, M⟩ ⟨hj, hg⟩
          dsimp only at hj hg ⊢
          have hgl := congrArg List.length hg
          simp only [List.length_append, List.length_map, List.length_drop] at hgl
          by_cases hjt : j < B.length
          · have hjw : IntKind.i64.wrap ((j : Int) + 1) = (j : Int) + 1 := i64_nat (by omega) (by omega)
            have hbl := hB _ (List.getElem_mem hjt)
            have hb1 : (M.length + 1) * 24 ≤ 140737488355328 := by omega
            have hb2 : M.length + 1 ≤ 140737488355328 := by omega
            have hb3 : (1 + B[j].length) * 16 ≤ 140737488355328 := by omega
            have hb4 : 1 + B[j].length ≤ 140737488355328 := by omega
            rw [List.drop_eq_getElem_cons hjt, List.map_cons, List.append_cons] at hg
            (repeat (first | with_reducible refine AW.seq ?_ | ((first | refine arun_knb 4 rfl (fun C hC => ?_) | refine arunD_kn 4 rfl (fun C hC => ?_)); (repeat ((conv => whnf); simp [hjt, pathsE_len, pathsE_get, pathsE_at])); refine hC _ ?_; clear hC C; simp only [List.drop, Nat.reduceAdd]) | ((first | refine arun_knb 1 rfl (fun C hC => ?_) | refine arunD_kn 1 rfl (fun C hC => ?_)); (repeat ((conv => whnf); simp [hjt, pathsE_len, pathsE_get, pathsE_at])); refine hC _ ?_; clear hC C; simp only [List.drop, Nat.reduceAdd]) | (refine arun_skip ?_ ?_; (focus (simp [awant, hjt, pathsE_len, pathsE_get, pathsE_at]; done))) | (refine AW.regionK [] (fun K hK => ?_)) | (refine AW.regionDK [] (pcs [] []) (by kernel_rfl) (by kernel_rfl) (fun K hK => ?_)) | (refine AW.condT ?_ ?_; (focus (simp [aev, hjt, pathsE_len, pathsE_get, pathsE_at]; done))) | (refine AW.condF ?_ ?_; (focus (simp [aev, hjt, pathsE_len, pathsE_get, pathsE_at]; done))) | with_reducible refine AW.block ?_ | ((first | ((first | refine arun_nil ?_ | refine arunD_nil ?_); refine hK _ ?_; clear hK K) | refine AW.skip ?_ | refine AW.exit ?_ | refine AW.ret ?_); simp only [thenA_exit, inBlockA_exit, if_true, if_false, Nat.reduceEqDiff, thenA_normal, inBlockA_normal, reduceIte, thenA_ret, inBlockA_ret, endQ_ret, endR_ret, endG_ret, endQ_normal, endR_normal, endG_normal])))
            refine arun_ownSlice 41 rfl (by simp [awant]) tab23 (by simp; exact ⟨rfl, rfl⟩) (by simp [upd, usedOf_cons, usedOf_nil]) ?_
            (repeat (first | with_reducible refine AW.seq ?_ | ((first | refine arun_kn 4 rfl (fun C hC => ?_) | refine arunD_kn 4 rfl (fun C hC => ?_)); (repeat ((conv => whnf); simp [hjt, hjw, pathsE_len, pathsE_get, pathsE_at, strsE_len, hb1, hb2, hb3, hb4, pathsR])); refine hC _ ?_; clear hC C; simp only [List.drop, Nat.reduceAdd]) | ((first | refine arun_kn 1 rfl (fun C hC => ?_) | refine arunD_kn 1 rfl (fun C hC => ?_)); (repeat ((conv => whnf); simp [hjt, hjw, pathsE_len, pathsE_get, pathsE_at, strsE_len, hb1, hb2, hb3, hb4, pathsR])); refine hC _ ?_; clear hC C; simp only [List.drop, Nat.reduceAdd]) | (refine arun_skip ?_ ?_; (focus (simp [awant, hjt, hjw, pathsE_len, pathsE_get, pathsE_at, strsE_len, hb1, hb2, hb3, hb4, pathsR]; done))) | (refine AW.regionK [] (fun K hK => ?_)) | (refine AW.regionDK [] (pcs [] []) (by kernel_rfl) (by kernel_rfl) (fun K hK => ?_)) | (refine AW.condT ?_ ?_; (focus (simp [aev, hjt, hjw, pathsE_len, pathsE_get, pathsE_at, strsE_len, hb1, hb2, hb3, hb4, pathsR]; done))) | (refine AW.condF ?_ ?_; (focus (simp [aev, hjt, hjw, pathsE_len, pathsE_get, pathsE_at, strsE_len, hb1, hb2, hb3, hb4, pathsR]; done))) | with_reducible refine AW.block ?_ | ((first | ((first | refine arun_nil ?_ | refine arunD_nil ?_); refine hK _ ?_; clear hK K) | refine AW.skip ?_ | refine AW.exit ?_ | refine AW.ret ?_); simp only [thenA_exit, inBlockA_exit, if_true, if_false, Nat.reduceEqDiff, thenA_normal, inBlockA_normal, reduceIte, thenA_ret, inBlockA_ret, endQ_ret, endR_ret, endG_ret, endQ_normal, endR_normal, endG_normal])))
            refine ⟨(j + 1, M ++ [st :: B[j]]), by dsimp only; omega, ⟨by dsimp only; omega, hg⟩, ?_⟩
            have hsn : pathsE (M ++ [st :: B[j]]) = pathsE M ++ [[.view .loose 1 ([.str st] :: strsE B[j])]] := by rw [← paths_snoc]; rfl
            have hin := hin (M ++ [st :: B[j]])
            have hml : (M ++ [st :: B[j]]).length = M.length + 1 := by simp
            dsimp only
            rw [hml]
            rw [hsn] at hin
            refine Less.trans (Less.hold 41) (less_of (by simp [lessL, mkSt, slots, ASt.hold, in_paths, pathsR, hk, hsn, pathsE_sub, AV.subL, AV.sub, Row.sub, rowsOf_nil, strsE_len]) (by simp [upd, mkSt, rowsOf_cons, ASt.hold, in_paths, pathsR, hk, hsn, pathsE_sub, AV.subL, AV.sub, Row.sub, rowsOf_nil, strsE_len]) (by simp [upd, mkSt, usedOf_cons, ASt.hold, in_paths, pathsR, hk, hsn, pathsE_sub, AV.subL, AV.sub, Row.sub, rowsOf_nil, strsE_len]) (by first | exact rd_less (by omega) | simp [mkSt, ASt.hold, in_paths, pathsR, hk, hsn, pathsE_sub, AV.subL, AV.sub, Row.sub, rowsOf_nil, strsE_len]) (by simp [slots, in_any, in_int, in_bool, in_str, in_ptr, in_own, in_agg, in_vnil, in_rdr, usedOf_cons, usedOf_nil, strs_in, ints_in, nodes_in, in_tup, ASt.hold, in_paths, pathsR, hk, hsn, pathsE_sub, AV.subL, AV.sub, Row.sub, rowsOf_nil, strsE_len]) (by simp only [List.forall_mem_cons, List.not_mem_nil, false_implies, implies_true, and_true, true_and, ASt.hold, in_paths, pathsR, hk, hsn, pathsE_sub, AV.subL, AV.sub, Row.sub, rowsOf_nil, strsE_len]; (repeat (first | with_reducible exact trivial | with_reducible refine And.intro ?_ ?_ | with_reducible exact in_int | with_reducible exact in_str | with_reducible exact in_bool | with_reducible exact strs_in _ | with_reducible exact nodes_in _ | with_reducible exact items_in _ | with_reducible exact in_vnil | with_reducible exact in_any | exact hin _ | with_reducible refine take_in ?_ | with_reducible exact strsE_in _ | with_reducible exact nodesE_in _ | with_reducible exact nodeL_in _ | with_reducible exact itemsE_in _ | with_reducible exact itemL_in _ | with_reducible refine app_in ?_ ?_ | with_reducible refine sing_in ?_ | (focus (simp [in_any, in_int, in_bool, in_str, in_ptr, in_own, in_agg, in_vnil, in_rdr, usedOf_cons, usedOf_nil, strs_in, ints_in, nodes_in, ASt.hold, in_paths, pathsR, hk, hsn, pathsE_sub, AV.subL, AV.sub, Row.sub, rowsOf_nil, strsE_len]; done)))); done))
          · rw [List.drop_eq_nil_of_le (by omega), List.map_nil, List.append_nil] at hg
            (repeat (first | with_reducible refine AW.seq ?_ | ((first | refine arun_kn 4 rfl (fun C hC => ?_) | refine arunD_kn 4 rfl (fun C hC => ?_)); (repeat ((conv => whnf); simp [hjt, pathsE_len, hw])); refine hC _ ?_; clear hC C; simp only [List.drop, Nat.reduceAdd]) | ((first | refine arun_kn 1 rfl (fun C hC => ?_) | refine arunD_kn 1 rfl (fun C hC => ?_)); (repeat ((conv => whnf); simp [hjt, pathsE_len, hw])); refine hC _ ?_; clear hC C; simp only [List.drop, Nat.reduceAdd]) | (refine arun_skip ?_ ?_; (focus (simp [awant, hjt, pathsE_len, hw]; done))) | (refine AW.regionK [] (fun K hK => ?_)) | (refine AW.regionDK [] (pcs [] []) (by kernel_rfl) (by kernel_rfl) (fun K hK => ?_)) | (refine AW.condT ?_ ?_; (focus (simp [aev, hjt, pathsE_len, hw]; done))) | (refine AW.condF ?_ ?_; (focus (simp [aev, hjt, pathsE_len, hw]; done))) | with_reducible refine AW.block ?_ | ((first | ((first | refine arun_nil ?_ | refine arunD_nil ?_); refine hK _ ?_; clear hK K) | refine AW.skip ?_ | refine AW.exit ?_ | refine AW.ret ?_); simp only [thenA_exit, inBlockA_exit, if_true, if_false, Nat.reduceEqDiff, thenA_normal, inBlockA_normal, reduceIte, thenA_ret, inBlockA_ret, endQ_ret, endR_ret, endG_ret, endQ_normal, endR_normal, endG_normal])))
            refine ⟨(i + 1, M), by dsimp only; omega, ⟨by dsimp only; omega, by dsimp only; rw [hg]; exact hf⟩, ?_⟩
            have hin := hin M
            exact (less_of (by simp [lessL, mkSt, slots, in_paths, pathsR, hk]) (by simp [upd, mkSt, rowsOf_cons, in_paths, pathsR, hk]) (by simp [upd, mkSt, usedOf_cons, in_paths, pathsR, hk]) (by first | exact rd_less (by omega) | simp [mkSt, in_paths, pathsR, hk]) (by simp [slots, in_any, in_int, in_bool, in_str, in_ptr, in_own, in_agg, in_vnil, in_rdr, usedOf_cons, usedOf_nil, strs_in, ints_in, nodes_in, in_tup, in_paths, pathsR, hk]) (by simp only [List.forall_mem_cons, List.not_mem_nil, false_implies, implies_true, and_true, true_and, in_paths, pathsR, hk]; (repeat (first | with_reducible exact trivial | with_reducible refine And.intro ?_ ?_ | with_reducible exact in_int | with_reducible exact in_str | with_reducible exact in_bool | with_reducible exact strs_in _ | with_reducible exact nodes_in _ | with_reducible exact items_in _ | with_reducible exact in_vnil | with_reducible exact in_any | exact hin _ | with_reducible refine take_in ?_ | with_reducible exact strsE_in _ | with_reducible exact nodesE_in _ | with_reducible exact nodeL_in _ | with_reducible exact itemsE_in _ | with_reducible exact itemL_in _ | with_reducible refine app_in ?_ ?_ | with_reducible refine sing_in ?_ | (focus (simp [in_any, in_int, in_bool, in_str, in_ptr, in_own, in_agg, in_vnil, in_rdr, usedOf_cons, usedOf_nil, strs_in, ints_in, nodes_in, in_paths, pathsR, hk]; done)))); done))
    · rw [allL_end hlt, List.append_nil] at hf
      subst hf
      (repeat (first | with_reducible refine AW.seq ?_ | ((first | refine arun_kn 4 rfl (fun C hC => ?_) | refine arunD_kn 4 rfl (fun C hC => ?_)); (repeat ((conv => whnf); simp [hlt])); refine hC _ ?_; clear hC C; simp only [List.drop, Nat.reduceAdd]) | ((first | refine arun_kn 1 rfl (fun C hC => ?_) | refine arunD_kn 1 rfl (fun C hC => ?_)); (repeat ((conv => whnf); simp [hlt])); refine hC _ ?_; clear hC C; simp only [List.drop, Nat.reduceAdd]) | (refine arun_skip ?_ ?_; (focus (simp [awant, hlt]; done))) | (refine AW.regionK [] (fun K hK => ?_)) | (refine AW.regionDK [] (pcs [] []) (by kernel_rfl) (by kernel_rfl) (fun K hK => ?_)) | (refine AW.condT ?_ ?_; (focus (simp [aev, hlt]; done))) | (refine AW.condF ?_ ?_; (focus (simp [aev, hlt]; done))) | with_reducible refine AW.block ?_ | ((first | ((first | refine arun_nil ?_ | refine arunD_nil ?_); refine hK _ ?_; clear hK K) | refine AW.skip ?_ | refine AW.exit ?_ | refine AW.ret ?_); simp only [thenA_exit, inBlockA_exit, if_true, if_false, Nat.reduceEqDiff, thenA_normal, inBlockA_normal, reduceIte, thenA_ret, inBlockA_ret, endQ_ret, endR_ret, endG_ret, endQ_normal, endR_normal, endG_normal])))
      exact ⟨.own 9 (allS n).length, by simp [ares, aresL], .inr ⟨fun id => .own id (allS n).length, 9, pathsR (allS n), rfl, by simp [upd, rowsOf_cons], Res1.own _ _, pathsE_pur _, rfl, rfl⟩⟩
theorem all_AC : ∀ n, Way n → n.count ≤ 1000 → n.depth ≤ 500 → AC Tryd.prog 66 [nodeA n] 0 (fun r => r = .view .loose 1 (pathsE (allS n))) :=
  Nd.ind' _ (fun n ih hw hc hd => AC.ofPaths (allW_step n hw hc hd (fun k hk h1 h2 => ih k hk (hw.kid k hk) h1 h2)))
theorem specAllPaths_yes (n : Nd) (h : validB n = true) : AC Tryd.prog 22 [nodeA n] 0 (fun r => r = .view .loose 1 (pathsE (allS n))) := by
  obtain ⟨hw, hd, hc⟩ := valid_way h
  have p1 := validNode_AC n .loose
  rw [h] at p1
  have p2 := all_AC n hw (by omega) (by omega)
  unfold nodeA at p2 ⊢
  rw [nodeL_eq] at p2 ⊢
  have hcl := paths_clo (t := .loose) (allS n)
  refine AC.of tab_ok mixed_ok Tryd.func22 (by rfl) (by kernel_rfl) ?_; rintro ⟨P, T, hT, hm, w0, S0, rd0, k0⟩ hP hTT; dsimp only at hP hTT; subst hP hTT; unfold initSt; rw [Tryd.ntmps22]
  (repeat (first | with_reducible refine AW.seq ?_ | ((first | refine arun_kn 4 rfl (fun C hC => ?_) | refine arunD_kn 4 rfl (fun C hC => ?_)); (repeat ((conv => whnf); simp)); refine hC _ ?_; clear hC C; simp only [List.drop, Nat.reduceAdd]) | ((first | refine arun_kn 1 rfl (fun C hC => ?_) | refine arunD_kn 1 rfl (fun C hC => ?_)); (repeat ((conv => whnf); simp)); refine hC _ ?_; clear hC C; simp only [List.drop, Nat.reduceAdd]) | (refine arun_skip ?_ ?_; (focus (simp [awant]; done))) | (refine arun_c0 (p1) ?_; rintro _ rfl) | (refine arun_c0 (p2) ?_; rintro _ rfl) | (refine AW.regionK [] (fun K hK => ?_)) | (refine AW.regionDK [] (pcs [] []) (by kernel_rfl) (by kernel_rfl) (fun K hK => ?_)) | (refine AW.condT ?_ ?_; (focus (simp [aev]; done))) | (refine AW.condF ?_ ?_; (focus (simp [aev]; done))) | with_reducible refine AW.block ?_ | ((first | ((first | refine arun_nil ?_ | refine arunD_nil ?_); refine hK _ ?_; clear hK K) | refine AW.skip ?_ | refine AW.exit ?_ | refine AW.ret ?_); simp only [thenA_exit, inBlockA_exit, if_true, if_false, Nat.reduceEqDiff, thenA_normal, inBlockA_normal, reduceIte, thenA_ret, inBlockA_ret, endQ_ret, endR_ret, endG_ret, endQ_normal, endR_normal, endG_normal])))
  exact ⟨.view .loose 1 (pathsE (allS n)), by simp [ares, aresL], paths_pur _ (by decide), rfl⟩
theorem specAllPaths_no (n : Nd) (h : validB n = false) : AC Tryd.prog 22 [nodeA n] 0 (fun r => r = .view .loose 1 (pathsE [])) := by
  have p1 := validNode_AC n .loose
  rw [h] at p1
  refine AC.weak ?_
  unfold nodeA
  rw [nodeL_eq]
  refine AC.of tab_ok mixed_ok Tryd.func22 (by rfl) (by kernel_rfl) ?_; rintro ⟨P, T, hT, hm, w0, S0, rd0, k0⟩ hP hTT; dsimp only at hP hTT; subst hP hTT; unfold initSt; rw [Tryd.ntmps22]
  (repeat (first | with_reducible refine AW.seq ?_ | ((first | refine arun_kn 4 rfl (fun C hC => ?_) | refine arunD_kn 4 rfl (fun C hC => ?_)); (repeat ((conv => whnf); simp)); refine hC _ ?_; clear hC C; simp only [List.drop, Nat.reduceAdd]) | ((first | refine arun_kn 1 rfl (fun C hC => ?_) | refine arunD_kn 1 rfl (fun C hC => ?_)); (repeat ((conv => whnf); simp)); refine hC _ ?_; clear hC C; simp only [List.drop, Nat.reduceAdd]) | (refine arun_skip ?_ ?_; (focus (simp [awant]; done))) | (refine arun_c0 (p1) ?_; rintro _ rfl) | (refine AW.regionK [] (fun K hK => ?_)) | (refine AW.regionDK [] (pcs [] []) (by kernel_rfl) (by kernel_rfl) (fun K hK => ?_)) | (refine AW.condT ?_ ?_; (focus (simp [aev]; done))) | (refine AW.condF ?_ ?_; (focus (simp [aev]; done))) | with_reducible refine AW.block ?_ | ((first | ((first | refine arun_nil ?_ | refine arunD_nil ?_); refine hK _ ?_; clear hK K) | refine AW.skip ?_ | refine AW.exit ?_ | refine AW.ret ?_); simp only [thenA_exit, inBlockA_exit, if_true, if_false, Nat.reduceEqDiff, thenA_normal, inBlockA_normal, reduceIte, thenA_ret, inBlockA_ret, endQ_ret, endR_ret, endG_ret, endQ_normal, endR_normal, endG_normal])))
  exact ⟨.view .tight 0 [], by simp [ares, aresL], pur_view (by decide) (fun e he => by cases he), _, Wk.nil (fun h => by cases h), rfl⟩
theorem specAllPaths_AC (n : Nd) : AC Tryd.prog 22 [nodeA n] 0 (fun r => r = .view .loose 1 (pathsE (wayS n))) := by
  cases h : validB n
  · have := specAllPaths_no n h
    unfold wayS; rw [h]; exact this
  · have := specAllPaths_yes n h
    unfold wayS; rw [h]; exact this
end Go.Proofs.YtfjaobfaepjfnaaDoor.Eng
namespace Go.Proofs.YtfjaobfaepjfnaaDoor.Eng
open Go Go.RowKit
inductive Dst : Nd → Prop where
  | mk (n : Nd) (h1 : ∀ i j, i < j → j < n.kids.length → stp n.kind n.names i ≠ stp n.kind n.names j) (h2 : ∀ k ∈ n.kids, Dst k) : Dst n
theorem Dst.step {n : Nd} : Dst n → ∀ i j, i < j → j < n.kids.length → stp n.kind n.names i ≠ stp n.kind n.names j | .mk _ h _ => h
theorem Dst.kid {n : Nd} : Dst n → ∀ k ∈ n.kids, Dst k | .mk _ _ h => h
end Go.Proofs.YtfjaobfaepjfnaaDoor.Eng
namespace Go.Proofs.YtfjaobfaepjfnaaDoor
open Go.RowKit
def pathB (p : List ByteArray) : Bool := decide (p.length ≤ 5) && p.all plainT
theorem allD_step {α : Type} {p : α → Bool} (xs : List α) (k : Nat) (h : k < xs.length) : (xs.drop k).all p = (p xs[k] && (xs.drop (k + 1)).all p) := by
  rw [drop_cons xs k h, List.all_cons]
theorem allD_end {α : Type} {p : α → Bool} (xs : List α) (k : Nat) (h : ¬ k < xs.length) : (xs.drop k).all p = true := by
  rw [List.drop_eq_nil_of_le (by omega)]; rfl
theorem isPath_ok (a : Option Addr) (c : Nat) (xs : List ByteArray) (w : World) (ha : StrsR w any a c xs) :
    Calls Tryd.prog 56 #[.slice a xs.length c] w fun e w' => e = .returned (.bool (pathB xs)) ∧ w = w' := by
  have hbig : xs.length ≤ 9223372036854775807 := ha.2.1
  have Ha := Lib.hid ha
  clear ha
  by_cases hl : 5 < xs.length
  · go_enter Tryd.func56, Tryd.ntmps56
    go_wp2
    go_ret
    exact ⟨by simp [pathB]; omega, rfl⟩
  · go_enter Tryd.func56, Tryd.ntmps56
    go_wp2
    go_loop [2, 4, 10] (fun n _ i => n = .bool false ∧ ∃ k : Nat, k ≤ xs.length ∧ i = .int .i64 k ∧ Hid (xs.all plainT = (xs.drop k).all plainT)) (fun _ _ i => xs.length - (intOf i).toNat)
    case atStart => exact ⟨rfl, 0, Nat.zero_le _, rfl, Lib.hid rfl⟩
    case round =>
      obtain ⟨rfl, k, hk, rfl, Hr⟩ := hrel
      by_cases hlt : k < xs.length
      · obtain ⟨_, _, hxs, ha4⟩ := Ha.out
        rcases ha4 with rfl | ⟨ba, oa, rfl, _, hca⟩
        · simp at hlt
        have hx := hca k hlt
        have hsz := hxs _ (List.getElem_mem hlt)
        have Hs := Lib.hid (allD_step (p := plainT) xs k hlt)
        clear hca Ha hxs
        cases hp : plainT xs[k]
        all_goals
          go_wp2_with (go_at_call 98; refine (isPlainText_ok _ _ hsz).mono ?_; rintro e w' ⟨rfl, rfl⟩)
        · go_ret
          exact ⟨by simp [pathB, Hr.out, Hs.out, hp], rfl⟩
        · go_round
          case rel => exact ⟨rfl, k + 1, by omega, by go_num, Lib.hid (by rw [Hr.out, Hs.out, hp, Bool.true_and])⟩
          case measure => simp [intOf]; omega
      · have Hs := Lib.hid (allD_end (p := plainT) xs k hlt)
        go_wp2
        go_ret
        exact ⟨by simp [pathB, Hr.out, Hs.out]; omega, rfl⟩
theorem validPath_ok (a : Option Addr) (c : Nat) (xs : List ByteArray) (w : World) (ha : StrsR w any a c xs) :
    Calls Tryd.prog 72 #[.slice a xs.length c] w fun e w' => e = .returned (.bool (pathB xs)) ∧ w = w' := by
  have hbig : xs.length ≤ 9223372036854775807 := ha.2.1
  have Ha := Lib.hid ha
  clear ha
  go_enter Tryd.func72, Tryd.ntmps72
  go_wp2
  go_loop [2, 3] (fun n i => n = .bool false ∧ ∃ k : Nat, k ≤ xs.length ∧ i = .int .i64 k ∧ Hid (xs.all plainT = (xs.drop k).all plainT)) (fun _ i => xs.length - (intOf i).toNat)
  case atStart => exact ⟨rfl, 0, Nat.zero_le _, rfl, Lib.hid rfl⟩
  case round =>
    obtain ⟨rfl, k, hk, rfl, Hr⟩ := hrel
    by_cases hlt : k < xs.length
    · obtain ⟨_, _, hxs, ha4⟩ := Ha.out
      rcases ha4 with rfl | ⟨ba, oa, rfl, _, hca⟩
      · simp at hlt
      have hx := hca k hlt
      have hsz := hxs _ (List.getElem_mem hlt)
      have Hs := Lib.hid (allD_step (p := plainT) xs k hlt)
      clear hca Ha hxs
      cases hp : plainT xs[k]
      all_goals
        go_wp2_with (go_at_call 106; refine (validText_ok _ _ hsz).mono ?_; rintro e w' ⟨rfl, rfl⟩)
      · go_ret
        exact ⟨by simp [pathB, Hr.out, Hs.out, hp], rfl⟩
      · go_round
        case rel => exact ⟨rfl, k + 1, by omega, by go_num, Lib.hid (by rw [Hr.out, Hs.out, hp, Bool.true_and])⟩
        case measure => simp [intOf]; omega
    · have Hs := Lib.hid (allD_end (p := plainT) xs k hlt)
      go_wp2
      go_ret
      exact ⟨by simp [pathB, Hr.out, Hs.out]; omega, rfl⟩
end Go.Proofs.YtfjaobfaepjfnaaDoor
namespace Go.Proofs.YtfjaobfaepjfnaaDoor.Eng
open Go Go.RowKit
theorem placeF_cases (n : Nd) (st : ByteArray) : ∀ f k, (placeF n st f k = -1 ∧ ∀ j, k ≤ j → j < k + f → hitP n st j = false) ∨ (∃ j, k ≤ j ∧ j < k + f ∧ placeF n st f k = (j : Int) ∧ hitP n st j = true)
  | 0, k => .inl ⟨rfl, fun j h1 h2 => by omega⟩
  | f + 1, k => by
    rw [placeF]
    cases hb : hitP n st k
    · rcases placeF_cases n st f (k + 1) with ⟨h1, h2⟩ | ⟨j, h1, h2, h3, h4⟩
      · refine .inl ⟨by simpa using h1, fun j h3 h4 => ?_⟩
        rcases Nat.eq_or_lt_of_le h3 with rfl | h5
        · exact hb
        · exact h2 j (by omega) (by omega)
      · exact .inr ⟨j, by omega, by omega, by simpa using h3, h4⟩
    · exact .inr ⟨k, Nat.le_refl _, by omega, by simp, hb⟩
theorem placeI_cases (n : Nd) (st : ByteArray) : (placeI n st = -1 ∧ ∀ j, j < n.kids.length → hitP n st j = false) ∨ (∃ j, j < n.kids.length ∧ placeI n st = (j : Int) ∧ hitP n st j = true) := by
  rcases placeF_cases n st n.kids.length 0 with ⟨h1, h2⟩ | ⟨j, h1, h2, h3, h4⟩
  · exact .inl ⟨h1, fun j hj => h2 j (Nat.zero_le _) (by omega)⟩
  · exact .inr ⟨j, by omega, h3, h4⟩
def Shp (n : Nd) : Prop := ∃ d, shapeB n d = true
theorem Shp.kid {n : Nd} (h : Shp n) {k : Nd} (hk : k ∈ n.kids) : Shp k := by
  obtain ⟨d, h⟩ := h
  rw [shapeB_eq] at h
  simp only [Bool.and_eq_true] at h
  exact ⟨d - 1, shapeL_mem h.2 k hk⟩
theorem Shp.parts {n : Nd} (h : Shp n) : partsB n = true := by
  obtain ⟨d, h⟩ := h
  rw [shapeB_eq] at h
  simp only [Bool.and_eq_true] at h
  exact h.1.2
theorem Shp.kids {n : Nd} (h : Shp n) : n.kids.length ≤ 6 := partsB_kids h.parts
theorem Shp.map {n : Nd} (h : Shp n) (h4 : n.kind = 4) : areNamesB n.names = true ∧ n.kids.length = n.names.length := by
  have hp := h.parts
  unfold partsB at hp
  simp only [Bool.and_eq_true] at hp
  have hp := hp.2
  rw [h4] at hp
  simp at hp
  exact hp
theorem Shp.leaf {n : Nd} (h : Shp n) (h4 : n.kind ≠ 4) (h3 : n.kind ≠ 3) : n.kids.length = 0 := by
  have hp := h.parts
  unfold partsB at hp
  simp only [Bool.and_eq_true] at hp
  have hp := hp.2
  split at hp
  · simpa using hp
  · split at hp
    · simp at hp; simp [hp]
    · split at hp
      · simp at hp; simp [hp]
      · simp [h3, h4] at hp
theorem Shp.asc {n : Nd} (h : Shp n) (h4 : n.kind = 4) : Asc n.names := by
  have := (h.map h4).1
  simp only [areNamesB, Bool.and_eq_true] at this
  exact namesB_asc this.2
theorem Shp.plc {n : Nd} (h : Shp n) : Plc n := ⟨fun h4 => by have := (h.map h4).2; omega, fun _ => by have := h.kids; omega⟩
theorem Shp.of {n : Nd} (h : validB n = true) : Shp n := by
  unfold validB at h
  rw [Bool.and_eq_true] at h
  exact ⟨5, h.1⟩
theorem Shp.sml {n : Nd} (h : Shp n) : Sml n := shape_sml n _ h.choose_spec
theorem lb_at {xs : List ByteArray} (ha : Asc xs) {j : Nat} (hj : j < xs.length) : lbound xs xs[j] = j :=
  lb_of (Nat.le_of_lt hj) (fun t ht htj => ha t j ht hj htj) (fun t ht hjt => by
    rcases Nat.eq_or_lt_of_le hjt with rfl | h
    · exact lt_irr _
    · exact bl_asymm _ _ (ha j t hj ht h))
theorem hit_map {n : Nd} {st : ByteArray} (h4 : n.kind = 4) {j : Nat} (hj : j < n.names.length) : hitP n st j = eqs n.names[j] st := by
  simp [hitP, h4, List.getElem?_eq_getElem hj]
theorem hit_list {n : Nd} {st : ByteArray} (h3 : n.kind = 3) {j : Nat} : hitP n st j = eqs (txt (dig1 j)) st := by
  simp [hitP, h3]
theorem place_map {n : Nd} (h : Shp n) (h4 : n.kind = 4) (st : ByteArray) : placeI n st = if mem n.names st then (lbound n.names st : Int) else -1 := by
  have hl := (h.map h4).2
  have ha := h.asc h4
  rcases placeI_cases n st with ⟨h1, h2⟩ | ⟨j, h1, h2, h3⟩
  · have : mem n.names st = false := mem_no (fun hm => by
      obtain ⟨i, hi, rfl⟩ := List.getElem_of_mem hm
      have := h2 i (by omega)
      rw [hit_map h4 hi, eqs_iff.2 rfl] at this
      cases this)
    rw [this, h1]; rfl
  · have hj : j < n.names.length := by omega
    rw [hit_map h4 hj, eqs_iff] at h3
    subst h3
    rw [lb_at ha hj, mem_iff.2 (List.getElem_mem hj), h2]; rfl
def kidI (n : Nd) (st : ByteArray) : Int := if n.kind = 4 then (lbound n.names st : Int) else if 0 ≤ placeI n st then placeI n st else 0
theorem kidI_eq {n : Nd} (h : Shp n) {st : ByteArray} (hp : 0 ≤ placeI n st) : kidI n st = placeI n st := by
  unfold kidI
  by_cases h4 : n.kind = 4
  · rw [if_pos h4]
    rw [place_map h h4] at hp ⊢
    split at hp
    · rename_i hm; rw [if_pos hm]
    · omega
  · rw [if_neg h4, if_pos hp]
theorem place_leaf {n : Nd} (h : Shp n) (h4 : n.kind ≠ 4) (h3 : n.kind ≠ 3) (st : ByteArray) : placeI n st = -1 := by
  unfold placeI; rw [h.leaf h4 h3]; rfl
def getS : Nd → List ByteArray → Option Nd
  | n, [] => some n
  | n, s :: p => if 0 ≤ placeI n s then getS ((n.kids[(placeI n s).toNat]?).getD Nd.zero) p else none
theorem getS_yes {n : Nd} {s : ByteArray} (p : List ByteArray) {k : Nat} (hk : k < n.kids.length) (h : placeI n s = (k : Int)) : getS n (s :: p) = getS n.kids[k] p := by
  rw [getS, h, if_pos (by omega)]
  simp [hk]
end Go.Proofs.YtfjaobfaepjfnaaDoor.Eng
namespace Go.Proofs.YtfjaobfaepjfnaaDoor.Eng
open Go Go.RowKit
attribute [local simp] big size_mk ASt.pay Option.map_map Function.comp_def awant aop acall ado aev ofVal ofVal0 ASt.put ASt.add ASt.turn ASt.kill abox aalloc astore aload aloadD astoreD idOf ASt.at cellsTo afieldAddr afield aindexAddr aindex alen abin aint acmp astr aun apick aextract anil aslice abound abuild afill abuildSlice asCells aps avCells over upd aappend asrc amax amin aconv mkSt slots rowsOf_cons rowsOf_nil usedOf_cons usedOf_nil ZK.av List.replicate ASt.back ASt.addL ASt.killL nodeA nodeT nodeTL_eq nodeL_eq strsE_get strsE_len intsE_get intsE_len strsE_at intsE_at tab2 tab3 tab4 tab5 tab6 tab7 tab8 tab9 tab10 tab11 tab12 tab13 tab14 tab15 tab16 tab17 tab18 tab19 tab21 tab22 tab23 tab24 tab25 tab26 tab28 tab29 tab30 tab31 tab42 tab43 tab44 tab46 tab63 tab64 tab67 tab68 tab75 tab98 tab100 tab101 tab105 tab106 tab107 tab122 tab123 tab125 tab128 tab138 tab144 tab151 tab152 tab157 tab158 tab160 tab161 tab162
theorem isPath_AC (p : List ByteArray) (t : VC) : AC Tryd.prog 56 [.view t 1 (strsE p)] 0 (fun r => r = .bool (pathB p)) := by
  refine AC.ofGrow (enters_of Tryd.func56 (by kernel_rfl) (by kernel_rfl)) (fun w L S rb vs h => ?_)
  obtain ⟨v, rfl, h1⟩ := repL1_inv h
  obtain ⟨a, c, rfl, h2⟩ := strs_of_rep h1
  refine (isPath_ok a c p w h2).mono ?_
  rintro e w' ⟨rfl, rfl⟩
  exact ⟨_, _, rfl, Ext.refl _ _, rep_bool.2 rfl, rfl⟩
theorem validPath_AC (p : List ByteArray) (t : VC) : AC Tryd.prog 72 [.view t 1 (strsE p)] 0 (fun r => r = .bool (pathB p)) := by
  refine AC.ofGrow (enters_of Tryd.func72 (by kernel_rfl) (by kernel_rfl)) (fun w L S rb vs h => ?_)
  obtain ⟨v, rfl, h1⟩ := repL1_inv h
  obtain ⟨a, c, rfl, h2⟩ := strs_of_rep h1
  refine (validPath_ok a c p w h2).mono ?_
  rintro e w' ⟨rfl, rfl⟩
  exact ⟨_, _, rfl, Ext.refl _ _, rep_bool.2 rfl, rfl⟩
theorem bsearch_AC (xs : List ByteArray) (s : ByteArray) (t : VC) (ha : Asc xs) (hl : xs.length ≤ 1000) : AC Tryd.prog 99 [.view t 1 (strsE xs), .str s] 0 (fun r => r = .tup [.int .i64 (lbound xs s : Nat), .bool (mem xs s)]) := by
  refine AC.ofGrow (enters_of Tryd.func99 (by kernel_rfl) (by kernel_rfl)) (fun w L S rb vs h => ?_)
  obtain ⟨v, u, rfl, h1, h2⟩ := repL2_inv h
  obtain ⟨a, c, rfl, h3⟩ := strs_of_rep h1
  rw [rep_str] at h2
  obtain ⟨rfl, _⟩ := h2
  refine (bsearch_ok a c xs s w h3 ha (by omega)).mono ?_
  rintro e w' ⟨rfl, hg⟩
  exact ⟨_, .tup [.int .i64 (lbound xs s : Nat), .bool (mem xs s)], rfl, hg, rep_tup.2 ⟨[_, _], rfl, repL2 (rep_int.2 rfl) (rep_bool.2 rfl)⟩, rfl⟩
theorem kidIndex_AC (n : Nd) (st : ByteArray) (h : Shp n) : AC Tryd.prog 59 [nodeA n, .str st] 0 (fun r => r = .tup [.int .i64 (kidI n st), .bool (decide (0 ≤ placeI n st))]) := by
  have h6 := h.kids
  unfold nodeA
  rw [nodeL_eq]
  refine AC.of tab_ok mixed_ok Tryd.func59 (by rfl) (by kernel_rfl) ?_; rintro ⟨P, T, hT, hm, w0, S0, rd0, k0⟩ hP hTT; dsimp only at hP hTT; subst hP hTT; unfold initSt; rw [Tryd.ntmps59]
  by_cases h4 : n.kind = 4
  · have hm := h.map h4
    have hp := place_map h h4 st
    have pb := bsearch_AC n.names st .loose (h.asc h4) (by omega)
    (repeat (first | with_reducible refine AW.seq ?_ | ((first | refine arun_kn 4 rfl (fun C hC => ?_) | refine arunD_kn 4 rfl (fun C hC => ?_)); (repeat ((conv => whnf); simp [h4])); refine hC _ ?_; clear hC C; simp only [List.drop, Nat.reduceAdd]) | ((first | refine arun_kn 1 rfl (fun C hC => ?_) | refine arunD_kn 1 rfl (fun C hC => ?_)); (repeat ((conv => whnf); simp [h4])); refine hC _ ?_; clear hC C; simp only [List.drop, Nat.reduceAdd]) | (refine arun_skip ?_ ?_; (focus (simp [awant, h4]; done))) | (refine arun_c0 (pb) ?_; rintro _ rfl) | (refine AW.regionK [] (fun K hK => ?_)) | (refine AW.regionDK [] (pcs [] []) (by kernel_rfl) (by kernel_rfl) (fun K hK => ?_)) | (refine AW.condT ?_ ?_; (focus (simp [aev, h4]; done))) | (refine AW.condF ?_ ?_; (focus (simp [aev, h4]; done))) | with_reducible refine AW.block ?_ | ((first | ((first | refine arun_nil ?_ | refine arunD_nil ?_); refine hK _ ?_; clear hK K) | refine AW.skip ?_ | refine AW.exit ?_ | refine AW.ret ?_); simp only [thenA_exit, inBlockA_exit, if_true, if_false, Nat.reduceEqDiff, thenA_normal, inBlockA_normal, reduceIte, thenA_ret, inBlockA_ret, endQ_ret, endR_ret, endG_ret, endQ_normal, endR_normal, endG_normal])))
    refine ⟨.tup [.int .i64 (lbound n.names st : Nat), .bool (mem n.names st)], by simp [ares, aresL], tup2_pur pur_int pur_bool, ?_⟩
    unfold kidI
    rw [if_pos h4, hp]
    cases mem n.names st <;> simp
  · by_cases h3 : n.kind = 3
    · have e4 : (n.kind == 4) = false := by simpa using h4
      (repeat (first | with_reducible refine AW.seq ?_ | ((first | refine arun_kn 4 rfl (fun C hC => ?_) | refine arunD_kn 4 rfl (fun C hC => ?_)); (repeat ((conv => whnf); simp [h3, e4])); refine hC _ ?_; clear hC C; simp only [List.drop, Nat.reduceAdd]) | ((first | refine arun_kn 1 rfl (fun C hC => ?_) | refine arunD_kn 1 rfl (fun C hC => ?_)); (repeat ((conv => whnf); simp [h3, e4])); refine hC _ ?_; clear hC C; simp only [List.drop, Nat.reduceAdd]) | (refine arun_skip ?_ ?_; (focus (simp [awant, h3, e4]; done))) | (refine AW.regionK [] (fun K hK => ?_)) | (refine AW.regionDK [] (pcs [] []) (by kernel_rfl) (by kernel_rfl) (fun K hK => ?_)) | (refine AW.condT ?_ ?_; (focus (simp [aev, h3, e4]; done))) | (refine AW.condF ?_ ?_; (focus (simp [aev, h3, e4]; done))) | with_reducible refine AW.block ?_ | ((first | ((first | refine arun_nil ?_ | refine arunD_nil ?_); refine hK _ ?_; clear hK K) | refine AW.skip ?_ | refine AW.exit ?_ | refine AW.ret ?_); simp only [thenA_exit, inBlockA_exit, if_true, if_false, Nat.reduceEqDiff, thenA_normal, inBlockA_normal, reduceIte, thenA_ret, inBlockA_ret, endQ_ret, endR_ret, endG_ret, endQ_normal, endR_normal, endG_normal])))
      refine AW.loopS (fun (i : Nat) => mkSt (slots 0 31 [(1, .str st), (2, .ptr true 5 1 2 0 0), (4, .int .i64 0), (5, .bool false), (21, .int .i64 n.kids.length), (22, .int .i64 i)]) [(2, ⟨true, 26, 5, [nodeL n]⟩)] [2] (rd0.map fun _ => 0)) (fun i => n.kids.length - i) (fun i => i ≤ n.kids.length ∧ placeI n st = placeF n st (n.kids.length - i) i) 0 ?_ ⟨Nat.zero_le _, rfl⟩ ?_
      · rw [nodeL_eq]
        exact (less_of (by simp [lessL, mkSt, slots, h3]) (by simp [upd, mkSt, rowsOf_cons, h3]) (by simp [upd, mkSt, usedOf_cons, h3]) (by first | exact rd_less (by omega) | simp [mkSt, h3]) (by simp [slots, in_any, in_int, in_bool, in_str, in_ptr, in_own, in_agg, in_vnil, in_rdr, usedOf_cons, usedOf_nil, strs_in, ints_in, nodes_in, in_tup, h3]) (by simp only [List.forall_mem_cons, List.not_mem_nil, false_implies, implies_true, and_true, true_and, h3]; (repeat (first | with_reducible exact trivial | with_reducible refine And.intro ?_ ?_ | with_reducible exact in_int | with_reducible exact in_str | with_reducible exact in_bool | with_reducible exact strs_in _ | with_reducible exact nodes_in _ | with_reducible exact items_in _ | with_reducible exact in_vnil | with_reducible exact in_any | exact hin _ | with_reducible refine take_in ?_ | with_reducible exact strsE_in _ | with_reducible exact nodesE_in _ | with_reducible exact nodeL_in _ | with_reducible exact itemsE_in _ | with_reducible exact itemL_in _ | with_reducible refine app_in ?_ ?_ | with_reducible refine sing_in ?_ | (focus (simp [in_any, in_int, in_bool, in_str, in_ptr, in_own, in_agg, in_vnil, in_rdr, usedOf_cons, usedOf_nil, strs_in, ints_in, nodes_in, h3]; done)))); done))
      · rintro i ⟨hi, hf⟩
        rw [nodeL_eq]
        by_cases hlt : i < n.kids.length
        · have hw : IntKind.i64.wrap ((i : Int) + 1) = (i : Int) + 1 := i64_nat (by omega) (by omega)
          have hsub : n.kids.length - i = (n.kids.length - (i + 1)) + 1 := by omega
          rw [hsub, placeF, hit_list h3] at hf
          cases hb : eqs (txt (dig1 i)) st
          · rw [hb] at hf
            (repeat (first | with_reducible refine AW.seq ?_ | ((first | refine arun_kn 4 rfl (fun C hC => ?_) | refine arunD_kn 4 rfl (fun C hC => ?_)); (repeat ((conv => whnf); simp [hlt, hw, hb])); refine hC _ ?_; clear hC C; simp only [List.drop, Nat.reduceAdd]) | ((first | refine arun_kn 1 rfl (fun C hC => ?_) | refine arunD_kn 1 rfl (fun C hC => ?_)); (repeat ((conv => whnf); simp [hlt, hw, hb])); refine hC _ ?_; clear hC C; simp only [List.drop, Nat.reduceAdd]) | (refine arun_skip ?_ ?_; (focus (simp [awant, hlt, hw, hb]; done))) | (refine arun_c0 (Itoa_AC i (by omega)) ?_; rintro _ rfl) | (refine AW.regionK [] (fun K hK => ?_)) | (refine AW.regionDK [] (pcs [] []) (by kernel_rfl) (by kernel_rfl) (fun K hK => ?_)) | (refine AW.condT ?_ ?_; (focus (simp [aev, hlt, hw, hb]; done))) | (refine AW.condF ?_ ?_; (focus (simp [aev, hlt, hw, hb]; done))) | with_reducible refine AW.block ?_ | ((first | ((first | refine arun_nil ?_ | refine arunD_nil ?_); refine hK _ ?_; clear hK K) | refine AW.skip ?_ | refine AW.exit ?_ | refine AW.ret ?_); simp only [thenA_exit, inBlockA_exit, if_true, if_false, Nat.reduceEqDiff, thenA_normal, inBlockA_normal, reduceIte, thenA_ret, inBlockA_ret, endQ_ret, endR_ret, endG_ret, endQ_normal, endR_normal, endG_normal])))
            exact ⟨i + 1, by omega, ⟨by omega, by simpa using hf⟩, (less_of (by simp [lessL, mkSt, slots, h3]) (by simp [upd, mkSt, rowsOf_cons, h3]) (by simp [upd, mkSt, usedOf_cons, h3]) (by first | exact rd_less (by omega) | simp [mkSt, h3]) (by simp [slots, in_any, in_int, in_bool, in_str, in_ptr, in_own, in_agg, in_vnil, in_rdr, usedOf_cons, usedOf_nil, strs_in, ints_in, nodes_in, in_tup, h3]) (by simp only [List.forall_mem_cons, List.not_mem_nil, false_implies, implies_true, and_true, true_and, h3]; (repeat (first | with_reducible exact trivial | with_reducible refine And.intro ?_ ?_ | with_reducible exact in_int | with_reducible exact in_str | with_reducible exact in_bool | with_reducible exact strs_in _ | with_reducible exact nodes_in _ | with_reducible exact items_in _ | with_reducible exact in_vnil | with_reducible exact in_any | exact hin _ | with_reducible refine take_in ?_ | with_reducible exact strsE_in _ | with_reducible exact nodesE_in _ | with_reducible exact nodeL_in _ | with_reducible exact itemsE_in _ | with_reducible exact itemL_in _ | with_reducible refine app_in ?_ ?_ | with_reducible refine sing_in ?_ | (focus (simp [in_any, in_int, in_bool, in_str, in_ptr, in_own, in_agg, in_vnil, in_rdr, usedOf_cons, usedOf_nil, strs_in, ints_in, nodes_in, h3]; done)))); done))⟩
          · rw [hb] at hf
            have hf' : placeI n st = (i : Int) := by simpa using hf
            (repeat (first | with_reducible refine AW.seq ?_ | ((first | refine arun_kn 4 rfl (fun C hC => ?_) | refine arunD_kn 4 rfl (fun C hC => ?_)); (repeat ((conv => whnf); simp [hlt, hw, hb])); refine hC _ ?_; clear hC C; simp only [List.drop, Nat.reduceAdd]) | ((first | refine arun_kn 1 rfl (fun C hC => ?_) | refine arunD_kn 1 rfl (fun C hC => ?_)); (repeat ((conv => whnf); simp [hlt, hw, hb])); refine hC _ ?_; clear hC C; simp only [List.drop, Nat.reduceAdd]) | (refine arun_skip ?_ ?_; (focus (simp [awant, hlt, hw, hb]; done))) | (refine arun_c0 (Itoa_AC i (by omega)) ?_; rintro _ rfl) | (refine AW.regionK [] (fun K hK => ?_)) | (refine AW.regionDK [] (pcs [] []) (by kernel_rfl) (by kernel_rfl) (fun K hK => ?_)) | (refine AW.condT ?_ ?_; (focus (simp [aev, hlt, hw, hb]; done))) | (refine AW.condF ?_ ?_; (focus (simp [aev, hlt, hw, hb]; done))) | with_reducible refine AW.block ?_ | ((first | ((first | refine arun_nil ?_ | refine arunD_nil ?_); refine hK _ ?_; clear hK K) | refine AW.skip ?_ | refine AW.exit ?_ | refine AW.ret ?_); simp only [thenA_exit, inBlockA_exit, if_true, if_false, Nat.reduceEqDiff, thenA_normal, inBlockA_normal, reduceIte, thenA_ret, inBlockA_ret, endQ_ret, endR_ret, endG_ret, endQ_normal, endR_normal, endG_normal])))
            refine ⟨.tup [.int .i64 i, .bool true], by simp [ares, aresL], tup2_pur pur_int pur_bool, ?_⟩
            unfold kidI
            rw [if_neg h4, hf', if_pos (by omega)]
            simp
        · have hz : n.kids.length - i = 0 := by omega
          rw [hz, placeF] at hf
          (repeat (first | with_reducible refine AW.seq ?_ | ((first | refine arun_kn 4 rfl (fun C hC => ?_) | refine arunD_kn 4 rfl (fun C hC => ?_)); (repeat ((conv => whnf); simp [hlt])); refine hC _ ?_; clear hC C; simp only [List.drop, Nat.reduceAdd]) | ((first | refine arun_kn 1 rfl (fun C hC => ?_) | refine arunD_kn 1 rfl (fun C hC => ?_)); (repeat ((conv => whnf); simp [hlt])); refine hC _ ?_; clear hC C; simp only [List.drop, Nat.reduceAdd]) | (refine arun_skip ?_ ?_; (focus (simp [awant, hlt]; done))) | (refine AW.regionK [] (fun K hK => ?_)) | (refine AW.regionDK [] (pcs [] []) (by kernel_rfl) (by kernel_rfl) (fun K hK => ?_)) | (refine AW.condT ?_ ?_; (focus (simp [aev, hlt]; done))) | (refine AW.condF ?_ ?_; (focus (simp [aev, hlt]; done))) | with_reducible refine AW.block ?_ | ((first | ((first | refine arun_nil ?_ | refine arunD_nil ?_); refine hK _ ?_; clear hK K) | refine AW.skip ?_ | refine AW.exit ?_ | refine AW.ret ?_); simp only [thenA_exit, inBlockA_exit, if_true, if_false, Nat.reduceEqDiff, thenA_normal, inBlockA_normal, reduceIte, thenA_ret, inBlockA_ret, endQ_ret, endR_ret, endG_ret, endQ_normal, endR_normal, endG_normal])))
          refine ⟨.tup [.int .i64 0, .bool false], by simp [ares, aresL], tup2_pur pur_int pur_bool, ?_⟩
          unfold kidI
          rw [if_neg h4, hf]
          simp
    · have e4 : (n.kind == 4) = false := by simpa using h4
      have e3 : (n.kind == 3) = false := by simpa using h3
      (repeat (first | with_reducible refine AW.seq ?_ | ((first | refine arun_kn 4 rfl (fun C hC => ?_) | refine arunD_kn 4 rfl (fun C hC => ?_)); (repeat ((conv => whnf); simp [e3, e4])); refine hC _ ?_; clear hC C; simp only [List.drop, Nat.reduceAdd]) | ((first | refine arun_kn 1 rfl (fun C hC => ?_) | refine arunD_kn 1 rfl (fun C hC => ?_)); (repeat ((conv => whnf); simp [e3, e4])); refine hC _ ?_; clear hC C; simp only [List.drop, Nat.reduceAdd]) | (refine arun_skip ?_ ?_; (focus (simp [awant, e3, e4]; done))) | (refine AW.regionK [] (fun K hK => ?_)) | (refine AW.regionDK [] (pcs [] []) (by kernel_rfl) (by kernel_rfl) (fun K hK => ?_)) | (refine AW.condT ?_ ?_; (focus (simp [aev, e3, e4]; done))) | (refine AW.condF ?_ ?_; (focus (simp [aev, e3, e4]; done))) | with_reducible refine AW.block ?_ | ((first | ((first | refine arun_nil ?_ | refine arunD_nil ?_); refine hK _ ?_; clear hK K) | refine AW.skip ?_ | refine AW.exit ?_ | refine AW.ret ?_); simp only [thenA_exit, inBlockA_exit, if_true, if_false, Nat.reduceEqDiff, thenA_normal, inBlockA_normal, reduceIte, thenA_ret, inBlockA_ret, endQ_ret, endR_ret, endG_ret, endQ_normal, endR_normal, endG_normal])))
      refine ⟨.tup [.int .i64 0, .bool false], by simp [ares, aresL], tup2_pur pur_int pur_bool, ?_⟩
      unfold kidI
      rw [if_neg h4, place_leaf h h4 h3]
      simp
def optA (o : Option Nd) : AV := .tup [nodeA (o.getD Nd.zero), .bool o.isSome]
theorem zero_wk : Wk (node0 0 0 ⟨#[]⟩) (nodeA Nd.zero) := by
  unfold node0 nodeA
  rw [nodeL_eq]
  exact Wk.agg (.cons (Wk.refl _) (.cons (Wk.refl _) (.cons (Wk.refl _) (.cons (Wk.nil (fun h => by cases h)) (.cons (Wk.nil (fun h => by cases h)) .nil)))))
theorem tup2_wk' {a b a' b' : AV} (h1 : Wk a a') (h2 : Wk b b') : Wk (.tup [a, b]) (.tup [a', b']) := Wk.tup (.cons h1 (.cons h2 .nil))
theorem none_end : Pur (.tup [node0 0 0 ⟨#[]⟩, .bool false]) ∧ Wk (.tup [node0 0 0 ⟨#[]⟩, .bool false]) (.tup [nodeA Nd.zero, .bool false]) := ⟨tup2_pur (node0_pur 0 0 ⟨#[]⟩) pur_bool, tup2_wk' zero_wk (Wk.refl _)⟩
theorem zeroA : nodeL Nd.zero = [.int .i64 0, .int .i64 0, .str ⟨#[]⟩, .view .loose 1 [], .view .loose 5 []] := by rw [nodeL_eq]; rfl
end Go.Proofs.YtfjaobfaepjfnaaDoor.Eng
