/-
  Nodes told by themselves, how they lie in memory, and worlds that only grow.
-/
import Derived.WalkKit
import Derived.WalkSpells
import Derived.WalkLawsBesides
import Derived.Lib.Hide
namespace Go.Proofs.Ytchiakeceiefdaa
open Go Go.RowKit

/-- A node, told by itself. -/
structure Nd where
  kind : Int
  num : Int
  text : ByteArray
  names : List ByteArray
  kids : List Nd

theorem Nd.ind (P : Nd → Prop) (h : ∀ kind num text names kids, (∀ k ∈ kids, P k) → P ⟨kind, num, text, names, kids⟩) : ∀ n, P n := by
  intro n
  refine Nd.rec (motive_1 := P) (motive_2 := fun l => ∀ k ∈ l, P k) ?_ ?_ ?_ n
  · intro kind num text names kids ih
    exact h _ _ _ _ _ ih
  · intro k hk; cases hk
  · intro k ks h1 h2 x hx
    rcases List.mem_cons.1 hx with rfl | hx
    · exact h1
    · exact h2 _ hx

theorem Nd.ind' (P : Nd → Prop) (h : ∀ n : Nd, (∀ k ∈ n.kids, P k) → P n) : ∀ n, P n :=
  Nd.ind P (fun kind num text names kids ih => h ⟨kind, num, text, names, kids⟩ ih)

/-- Any block. -/
def any (_ : Nat) : Prop := True

/-- The greatest length. -/
def big : Nat := 9223372036854775807

/-- A slice of texts: its address, its capacity, its texts. -/
def StrsR (w : World) (S : Nat → Prop) (a : Option Addr) (c : Nat) (xs : List ByteArray) : Prop :=
  xs.length ≤ c ∧ xs.length ≤ big ∧ (∀ x ∈ xs, x.size ≤ big) ∧ (xs = [] ∨ ∃ b o, a = some ⟨b, o, none⟩ ∧ S b ∧ ∀ i (h : i < xs.length), w.cell? ⟨b, o + i, none⟩ = some (.string xs[i]))

mutual
def NodeC (w : World) (S : Nat → Prop) : Nd → Option Addr → Nat → Option Addr → Nat → Prop
  | ⟨_, _, text, names, kids⟩, na, nc, ka, kc => text.size ≤ big ∧ StrsR w S na nc names ∧ kids.length ≤ kc ∧ kids.length ≤ big ∧ (kids = [] ∨ ∃ b o, ka = some ⟨b, o, none⟩ ∧ S b ∧ KidsR w S b o kids)
def KidsR (w : World) (S : Nat → Prop) (b : Nat) : Nat → List Nd → Prop
  | _, [] => True
  | o, k :: ks => (∃ na nc ka kc, w.cell? ⟨b, o, none⟩ = some (.int .i64 k.kind) ∧ w.cell? ⟨b, o + 1, none⟩ = some (.int .i64 k.num) ∧ w.cell? ⟨b, o + 2, none⟩ = some (.string k.text) ∧
      w.cell? ⟨b, o + 3, none⟩ = some (.slice na k.names.length nc) ∧ w.cell? ⟨b, o + 4, none⟩ = some (.slice ka k.kids.length kc) ∧ NodeC w S k na nc ka kc) ∧ KidsR w S b (o + 5) ks
end

/-- The value of a node. -/
def nodeV (n : Nd) (na : Option Addr) (nc : Nat) (ka : Option Addr) (kc : Nat) : Value :=
  .agg #[.int .i64 n.kind, .int .i64 n.num, .string n.text, .slice na n.names.length nc, .slice ka n.kids.length kc]

def NodeR (w : World) (S : Nat → Prop) (n : Nd) (v : Value) : Prop := ∃ na nc ka kc, v = nodeV n na nc ka kc ∧ NodeC w S n na nc ka kc

/-- A slice of nodes. -/
def NodesR (w : World) (S : Nat → Prop) (a : Option Addr) (c : Nat) (l : List Nd) : Prop :=
  l.length ≤ c ∧ l.length ≤ big ∧ (l = [] ∨ ∃ b o, a = some ⟨b, o, none⟩ ∧ S b ∧ KidsR w S b o l)

theorem KidsR.get {w : World} {S : Nat → Prop} {b : Nat} : ∀ {l : List Nd} {o : Nat}, KidsR w S b o l → ∀ i (h : i < l.length), ∃ na nc ka kc,
    w.cell? ⟨b, o + i * 5, none⟩ = some (.int .i64 l[i].kind) ∧ w.cell? ⟨b, o + i * 5 + 1, none⟩ = some (.int .i64 l[i].num) ∧ w.cell? ⟨b, o + i * 5 + 2, none⟩ = some (.string l[i].text) ∧
      w.cell? ⟨b, o + i * 5 + 3, none⟩ = some (.slice na l[i].names.length nc) ∧ w.cell? ⟨b, o + i * 5 + 4, none⟩ = some (.slice ka l[i].kids.length kc) ∧ NodeC w S l[i] na nc ka kc
  | [], _, _, i, h => absurd h (by simp)
  | k :: ks, o, hk, 0, _ => by
    unfold KidsR at hk
    simpa using hk.1
  | k :: ks, o, hk, i + 1, h => by
    unfold KidsR at hk
    have := KidsR.get hk.2 i (by simpa using h)
    simp only [List.getElem_cons_succ]
    have e : o + (i + 1) * 5 = o + 5 + i * 5 := by omega
    rw [e]
    exact this

theorem KidsR.of_get {w : World} {S : Nat → Prop} {b : Nat} : ∀ {l : List Nd} {o : Nat}, (∀ i (h : i < l.length), ∃ na nc ka kc,
    w.cell? ⟨b, o + i * 5, none⟩ = some (.int .i64 l[i].kind) ∧ w.cell? ⟨b, o + i * 5 + 1, none⟩ = some (.int .i64 l[i].num) ∧ w.cell? ⟨b, o + i * 5 + 2, none⟩ = some (.string l[i].text) ∧
      w.cell? ⟨b, o + i * 5 + 3, none⟩ = some (.slice na l[i].names.length nc) ∧ w.cell? ⟨b, o + i * 5 + 4, none⟩ = some (.slice ka l[i].kids.length kc) ∧ NodeC w S l[i] na nc ka kc) → KidsR w S b o l
  | [], _, _ => by unfold KidsR; trivial
  | k :: ks, o, h => by
    unfold KidsR
    have h0 := h 0 (by simp)
    simp only [Nat.zero_mul, Nat.add_zero, List.getElem_cons_zero] at h0
    refine ⟨h0, KidsR.of_get (fun i hi => ?_)⟩
    have := h (i + 1) (by simpa using hi)
    have e : o + (i + 1) * 5 = o + 5 + i * 5 := by omega
    rw [e] at this
    simp only [List.getElem_cons_succ] at this
    exact this

theorem NodeC.parts {w : World} {S : Nat → Prop} {n : Nd} {na : Option Addr} {nc : Nat} {ka : Option Addr} {kc : Nat} (h : NodeC w S n na nc ka kc) :
    n.text.size ≤ big ∧ StrsR w S na nc n.names ∧ NodesR w S ka kc n.kids := by
  cases n; unfold NodeC at h; exact ⟨h.1, h.2.1, h.2.2⟩

theorem NodeC.mk {w : World} {S : Nat → Prop} {n : Nd} {na : Option Addr} {nc : Nat} {ka : Option Addr} {kc : Nat} 
    (h1 : n.text.size ≤ big) (h2 : StrsR w S na nc n.names) (h3 : NodesR w S ka kc n.kids) : NodeC w S n na nc ka kc := by
  cases n; unfold NodeC; exact ⟨h1, h2, h3⟩

/-! ### The world grows -/

/-- All blocks that were there are as they were, but for those in X. -/
structure Ext (X : Nat → Prop) (w w' : World) : Prop where
  os : w'.os = w.os
  tape : w'.tape = w.tape
  output : w'.output = w.output
  size : w.heap.size ≤ w'.heap.size
  block : ∀ k, k < w.heap.size → ¬ X k → w'.heap[k]? = w.heap[k]?

/-- Nothing that was there has turned. -/
def nil (_ : Nat) : Prop := False
abbrev Grow (w w' : World) : Prop := Ext nil w w'

theorem Ext.refl (X : Nat → Prop) (w : World) : Ext X w w := ⟨rfl, rfl, rfl, Nat.le_refl _, fun _ _ _ => rfl⟩
theorem Ext.trans {X : Nat → Prop} {a b c : World} (h : Ext X a b) (k : Ext X b c) : Ext X a c :=
  ⟨k.os.trans h.os, k.tape.trans h.tape, k.output.trans h.output, Nat.le_trans h.size k.size, fun i hi hx => (k.block i (Nat.lt_of_lt_of_le hi h.size) hx).trans (h.block i hi hx)⟩
theorem Ext.mono {X Y : Nat → Prop} {a b : World} (h : Ext X a b) (hXY : ∀ k, X k → Y k) : Ext Y a b := ⟨h.os, h.tape, h.output, h.size, fun k hk hy => h.block k hk (fun hx => hy (hXY k hx))⟩
theorem Ext.drew {X : Nat → Prop} {a w : World} (h : Ext X a w) : Ext X a w.drew := ⟨h.os, h.tape, h.output, h.size, h.block⟩
theorem Ext.drewN {X : Nat → Prop} {a w : World} (h : Ext X a w) (n : Nat) : Ext X a (w.drewN n) := ⟨h.os, h.tape, h.output, h.size, h.block⟩
theorem Ext.alloc {X : Nat → Prop} {a w : World} (h : Ext X a w) (o : Obj) : Ext X a (w.alloc o) :=
  h.trans ⟨rfl, rfl, rfl, by simp, fun k hk _ => Below.heap_alloc _ _ _ hk⟩
theorem Ext.cell {X : Nat → Prop} {w w' : World} (h : Ext X w w') {p : Addr} (hp : p.block < w.heap.size) (hx : ¬ X p.block) : w'.cell? p = w.cell? p := World.cell?_of_block (w := w) (h.block p.block hp hx)
theorem Ext.frozen {X : Nat → Prop} {w w' : World} (h : Ext X w w') {p : Addr} (hp : p.block < w.heap.size) (hx : ¬ X p.block) : w'.frozen? p = w.frozen? p := World.frozen?_of_block (w := w) (h.block p.block hp hx)
theorem Grow.below {w w' : World} (h : Grow w w') : Below w.heap.size w w' := ⟨h.os, h.tape, h.output, h.size, fun k hk => h.block k hk (fun hx => hx)⟩

/-- What turns in blocks of the call's own. -/
theorem Grow.inner {X : Nat → Prop} {a b c : World} (h : Grow a b) (k : Ext X b c) (hX : ∀ i, X i → a.heap.size ≤ i) : Grow a c :=
  ⟨k.os.trans h.os, k.tape.trans h.tape, k.output.trans h.output, Nat.le_trans h.size k.size, fun i hi _ => (k.block i (Nat.lt_of_lt_of_le hi h.size) (fun hx => by have := hX i hx; omega)).trans (h.block i hi (fun h => h))⟩

/-- A local struct of five cells. -/
structure Box5 (w : World) (b : Nat) (c0 c1 c2 c3 c4 : Value) : Prop where
  k0 : w.cell? ⟨b, 0, none⟩ = some c0
  k1 : w.cell? ⟨b, 1, none⟩ = some c1
  k2 : w.cell? ⟨b, 2, none⟩ = some c2
  k3 : w.cell? ⟨b, 3, none⟩ = some c3
  k4 : w.cell? ⟨b, 4, none⟩ = some c4
  fr : ∀ o, w.frozen? ⟨b, o, none⟩ = false
  lt : b < w.heap.size

theorem Box5.new (w : World) (c0 c1 c2 c3 c4 : Value) (t : TypeId) : Box5 (w.alloc (.cells #[c0, c1, c2, c3, c4] t)) w.heap.size c0 c1 c2 c3 c4 :=
  ⟨by rw [World.cell?_alloc_new]; rfl, by rw [World.cell?_alloc_new]; rfl, by rw [World.cell?_alloc_new]; rfl, by rw [World.cell?_alloc_new]; rfl, by rw [World.cell?_alloc_new]; rfl,
    fun o => World.frozen?_alloc_new w _ t o, by simp⟩

theorem Box5.ext {X : Nat → Prop} {w w' : World} {b : Nat} {c0 c1 c2 c3 c4 : Value} (hb : Box5 w b c0 c1 c2 c3 c4) (h : Ext X w w') (hx : ¬ X b) : Box5 w' b c0 c1 c2 c3 c4 :=
  ⟨by rw [h.cell hb.lt hx]; exact hb.k0, by rw [h.cell hb.lt hx]; exact hb.k1, by rw [h.cell hb.lt hx]; exact hb.k2, by rw [h.cell hb.lt hx]; exact hb.k3, by rw [h.cell hb.lt hx]; exact hb.k4,
    fun o => by rw [h.frozen (p := ⟨b, o, none⟩) hb.lt hx]; exact hb.fr o, Nat.lt_of_lt_of_le hb.lt h.size⟩

theorem Box5.grow {w w' : World} {b : Nat} {c0 c1 c2 c3 c4 : Value} (hb : Box5 w b c0 c1 c2 c3 c4) (h : Grow w w') : Box5 w' b c0 c1 c2 c3 c4 := hb.ext h (fun h => h)

theorem lt_of_cell {w : World} {p : Addr} {v : Value} (h : w.cell? p = some v) : p.block < w.heap.size := by
  unfold World.cell? at h
  rcases Nat.lt_or_ge p.block w.heap.size with h' | h'
  · exact h'
  · rw [Array.getElem?_eq_none h'] at h; simp at h

/-- A cell that was there holds what it held. -/
theorem Ext.some {X : Nat → Prop} {w w' : World} (h : Ext X w w') {p : Addr} {v : Value} (hp : w.cell? p = some v) (hx : ¬ X p.block) : w'.cell? p = some v := by
  rw [h.cell (lt_of_cell hp) hx]; exact hp
theorem Grow.some {w w' : World} (h : Grow w w') {p : Addr} {v : Value} (hp : w.cell? p = some v) : w'.cell? p = some v := Ext.some h hp (fun h => h)

theorem StrsR.ext {X S : Nat → Prop} {w w' : World} (h : Ext X w w') (hS : ∀ k, S k → ¬ X k) {a : Option Addr} {c : Nat} {xs : List ByteArray} (hs : StrsR w S a c xs) : StrsR w' S a c xs := by
  obtain ⟨h1, h2, h3, h4⟩ := hs
  refine ⟨h1, h2, h3, h4.imp id ?_⟩
  rintro ⟨b, o, rfl, hb, hc⟩
  exact ⟨b, o, rfl, hb, fun i hi => h.some (hc i hi) (hS b hb)⟩

theorem StrsR.mono {S T : Nat → Prop} {w : World} (hS : ∀ k, S k → T k) {a : Option Addr} {c : Nat} {xs : List ByteArray} (hs : StrsR w S a c xs) : StrsR w T a c xs := by
  obtain ⟨h1, h2, h3, h4⟩ := hs
  refine ⟨h1, h2, h3, h4.imp id ?_⟩
  rintro ⟨b, o, rfl, hb, hc⟩
  exact ⟨b, o, rfl, hS b hb, hc⟩

mutual
theorem NodeC.ext {X S : Nat → Prop} {w w' : World} (h : Ext X w w') (hS : ∀ k, S k → ¬ X k) : ∀ {n : Nd} {na : Option Addr} {nc : Nat} {ka : Option Addr} {kc : Nat}, NodeC w S n na nc ka kc → NodeC w' S n na nc ka kc
  | ⟨_, _, _, _, kids⟩, na, nc, ka, kc, hn => by
    unfold NodeC at hn ⊢
    obtain ⟨h1, h2, h3, h4, h5⟩ := hn
    refine ⟨h1, h2.ext h hS, h3, h4, h5.imp id ?_⟩
    rintro ⟨b, o, rfl, hb, hc⟩
    exact ⟨b, o, rfl, hb, KidsR.ext h hS (hS b hb) hc⟩
theorem KidsR.ext {X S : Nat → Prop} {w w' : World} (h : Ext X w w') (hS : ∀ k, S k → ¬ X k) {b : Nat} (hb : ¬ X b) : ∀ {l : List Nd} {o : Nat}, KidsR w S b o l → KidsR w' S b o l
  | [], _, _ => by unfold KidsR; trivial
  | k :: ks, o, hk => by
    unfold KidsR at hk ⊢
    obtain ⟨⟨na, nc, ka, kc, c0, c1, c2, c3, c4, hn⟩, hr⟩ := hk
    exact ⟨⟨na, nc, ka, kc, h.some c0 hb, h.some c1 hb, h.some c2 hb, h.some c3 hb, h.some c4 hb, NodeC.ext h hS hn⟩, KidsR.ext h hS hb hr⟩
end

theorem NodeR.ext {X S : Nat → Prop} {w w' : World} (h : Ext X w w') (hS : ∀ k, S k → ¬ X k) {n : Nd} {v : Value} (hn : NodeR w S n v) : NodeR w' S n v := by
  obtain ⟨na, nc, ka, kc, hv, hc⟩ := hn
  exact ⟨na, nc, ka, kc, hv, hc.ext h hS⟩
theorem NodesR.ext {X S : Nat → Prop} {w w' : World} (h : Ext X w w') (hS : ∀ k, S k → ¬ X k) {a : Option Addr} {c : Nat} {l : List Nd} (hs : NodesR w S a c l) : NodesR w' S a c l := by
  obtain ⟨h1, h2, h4⟩ := hs
  refine ⟨h1, h2, h4.imp id ?_⟩
  rintro ⟨b, o, rfl, hb, hc⟩
  exact ⟨b, o, rfl, hb, hc.ext h hS (hS b hb)⟩

theorem StrsR.grow {S : Nat → Prop} {w w' : World} {a : Option Addr} {c : Nat} {xs : List ByteArray} (hs : StrsR w S a c xs) (h : Grow w w') : StrsR w' S a c xs := hs.ext h (fun _ _ h => h)
theorem NodesR.grow {S : Nat → Prop} {w w' : World} {a : Option Addr} {c : Nat} {l : List Nd} (hs : NodesR w S a c l) (h : Grow w w') : NodesR w' S a c l := hs.ext h (fun _ _ h => h)
theorem NodeR.grow {S : Nat → Prop} {w w' : World} {n : Nd} {v : Value} (hn : NodeR w S n v) (h : Grow w w') : NodeR w' S n v := hn.ext h (fun _ _ h => h)

end Go.Proofs.Ytchiakeceiefdaa
