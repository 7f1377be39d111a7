/-
  Nodes that own their memory: each slice in a block of its own, the blocks listed, none frozen.
-/
import Derived.Test.YtchiakeceiefdaaMem
namespace Go.Proofs.Ytchiakeceiefdaa
open Go Go.RowKit

def StrsF (w : World) (a : Option Addr) (c : Nat) (xs : List ByteArray) (fp : List Nat) : Prop :=
  xs.length ≤ c ∧ xs.length ≤ big ∧ (∀ x ∈ xs, x.size ≤ big) ∧ ((xs = [] ∧ fp = []) ∨ ∃ b o, xs ≠ [] ∧ a = some ⟨b, o, none⟩ ∧ fp = [b] ∧ ∀ i (h : i < xs.length), w.cell? ⟨b, o + i, none⟩ = some (.string xs[i]))

mutual
def NodeF (w : World) : Nd → Option Addr → Nat → Option Addr → Nat → List Nat → Prop
  | ⟨_, _, text, names, kids⟩, na, nc, ka, kc, fp => ∃ f1 f2, fp = f1 ++ f2 ∧ text.size ≤ big ∧ StrsF w na nc names f1 ∧ kids.length ≤ kc ∧ kids.length ≤ big ∧
      ((kids = [] ∧ f2 = []) ∨ ∃ b o f3, kids ≠ [] ∧ ka = some ⟨b, o, none⟩ ∧ f2 = b :: f3 ∧ KidsF w b o kids f3)
def KidsF (w : World) (b : Nat) : Nat → List Nd → List Nat → Prop
  | _, [], fp => fp = []
  | o, k :: ks, fp => ∃ f1 f2, fp = f1 ++ f2 ∧ (∃ na nc ka kc, w.cell? ⟨b, o, none⟩ = some (.int .i64 k.kind) ∧ w.cell? ⟨b, o + 1, none⟩ = some (.int .i64 k.num) ∧ w.cell? ⟨b, o + 2, none⟩ = some (.string k.text) ∧
      w.cell? ⟨b, o + 3, none⟩ = some (.slice na k.names.length nc) ∧ w.cell? ⟨b, o + 4, none⟩ = some (.slice ka k.kids.length kc) ∧ NodeF w k na nc ka kc f1) ∧ KidsF w b (o + 5) ks f2
end

/-- A slice of nodes that owns its memory. -/
def NodesF (w : World) (a : Option Addr) (c : Nat) (l : List Nd) (fp : List Nat) : Prop :=
  l.length ≤ c ∧ l.length ≤ big ∧ ((l = [] ∧ fp = []) ∨ ∃ b o f, l ≠ [] ∧ a = some ⟨b, o, none⟩ ∧ fp = b :: f ∧ KidsF w b o l f)

theorem NodeF.parts {w : World} {n : Nd} {na : Option Addr} {nc : Nat} {ka : Option Addr} {kc : Nat} {fp : List Nat} (h : NodeF w n na nc ka kc fp) :
    ∃ f1 f2, fp = f1 ++ f2 ∧ n.text.size ≤ big ∧ StrsF w na nc n.names f1 ∧ NodesF w ka kc n.kids f2 := by
  cases n; unfold NodeF at h
  obtain ⟨f1, f2, h1, h2, h3, h4, h5, h6⟩ := h
  exact ⟨f1, f2, h1, h2, h3, h4, h5, h6⟩

theorem NodeF.mk {w : World} {n : Nd} {na : Option Addr} {nc : Nat} {ka : Option Addr} {kc : Nat} {f1 f2 : List Nat}
    (h2 : n.text.size ≤ big) (h3 : StrsF w na nc n.names f1) (h4 : NodesF w ka kc n.kids f2) : NodeF w n na nc ka kc (f1 ++ f2) := by
  cases n; unfold NodeF
  exact ⟨f1, f2, rfl, h2, h3, h4⟩

def NodeO (w : World) (n : Nd) (v : Value) (fp : List Nat) : Prop := ∃ na nc ka kc, v = nodeV n na nc ka kc ∧ NodeF w n na nc ka kc fp

/-- The blocks of a list are each there once, from B on, and not frozen. -/
def Free (B : Nat) (w : World) (fp : List Nat) : Prop := fp.Nodup ∧ ∀ b ∈ fp, B ≤ b ∧ b < w.heap.size ∧ ∀ o, w.frozen? ⟨b, o, none⟩ = false

/-! ### What turns elsewhere leaves them as they are -/

theorem StrsF.keep {w w' : World} {a : Option Addr} {c : Nat} {xs : List ByteArray} {fp : List Nat} (hs : StrsF w a c xs fp)
    (h : ∀ b ∈ fp, ∀ o, w'.cell? ⟨b, o, none⟩ = w.cell? ⟨b, o, none⟩) : StrsF w' a c xs fp := by
  obtain ⟨h1, h2, h3, h4⟩ := hs
  refine ⟨h1, h2, h3, h4.imp id ?_⟩
  rintro ⟨b, o, hne, rfl, rfl, hc⟩
  exact ⟨b, o, hne, rfl, rfl, fun i hi => by rw [h b (by simp)]; exact hc i hi⟩

mutual
theorem NodeF.keep {w w' : World} : ∀ {n : Nd} {na : Option Addr} {nc : Nat} {ka : Option Addr} {kc : Nat} {fp : List Nat}, NodeF w n na nc ka kc fp →
    (∀ b ∈ fp, ∀ o, w'.cell? ⟨b, o, none⟩ = w.cell? ⟨b, o, none⟩) → NodeF w' n na nc ka kc fp
  | ⟨_, _, _, _, kids⟩, na, nc, ka, kc, fp, hn, h => by
    unfold NodeF at hn ⊢
    obtain ⟨f1, f2, rfl, h1, h2, h3, h4, h5⟩ := hn
    refine ⟨f1, f2, rfl, h1, h2.keep (fun b hb => h b (by simp [hb])), h3, h4, h5.imp id ?_⟩
    rintro ⟨b, o, f3, hne, rfl, rfl, hc⟩
    exact ⟨b, o, f3, hne, rfl, rfl, KidsF.keep hc (fun x hx => h x (by simp [hx])) (fun o' _ _ => h b (by simp) o')⟩
theorem KidsF.keep {w w' : World} {b : Nat} : ∀ {l : List Nd} {o : Nat} {fp : List Nat}, KidsF w b o l fp → (∀ x ∈ fp, ∀ o', w'.cell? ⟨x, o', none⟩ = w.cell? ⟨x, o', none⟩) →
    (∀ o', o ≤ o' → o' < o + 5 * l.length → w'.cell? ⟨b, o', none⟩ = w.cell? ⟨b, o', none⟩) → KidsF w' b o l fp
  | [], _, _, hk, _, _ => by unfold KidsF at hk ⊢; exact hk
  | k :: ks, o, fp, hk, h, hb => by
    unfold KidsF at hk ⊢
    obtain ⟨f1, f2, rfl, ⟨na, nc, ka, kc, c0, c1, c2, c3, c4, hn⟩, hr⟩ := hk
    simp only [List.length_cons] at hb
    refine ⟨f1, f2, rfl, ⟨na, nc, ka, kc, ?_, ?_, ?_, ?_, ?_, NodeF.keep hn (fun x hx => h x (by simp [hx]))⟩, KidsF.keep hr (fun x hx => h x (by simp [hx])) (fun o' h1 h2 => hb o' (by omega) (by omega))⟩
    · rw [hb _ (by omega) (by omega)]; exact c0
    · rw [hb _ (by omega) (by omega)]; exact c1
    · rw [hb _ (by omega) (by omega)]; exact c2
    · rw [hb _ (by omega) (by omega)]; exact c3
    · rw [hb _ (by omega) (by omega)]; exact c4
end

theorem NodesF.keep {w w' : World} {a : Option Addr} {c : Nat} {l : List Nd} {fp : List Nat} (hs : NodesF w a c l fp)
    (h : ∀ b ∈ fp, ∀ o, w'.cell? ⟨b, o, none⟩ = w.cell? ⟨b, o, none⟩) : NodesF w' a c l fp := by
  obtain ⟨h1, h2, h4⟩ := hs
  refine ⟨h1, h2, h4.imp id ?_⟩
  rintro ⟨b, o, f, hne, rfl, rfl, hc⟩
  exact ⟨b, o, f, hne, rfl, rfl, hc.keep (fun x hx => h x (by simp [hx])) (fun o' _ _ => h b (by simp) o')⟩

theorem Ext.keeps {X : Nat → Prop} {w w' : World} (h : Ext X w w') {B : Nat} {fp : List Nat} (hf : Free B w fp) (hx : ∀ b ∈ fp, ¬ X b) : ∀ b ∈ fp, ∀ o, w'.cell? ⟨b, o, none⟩ = w.cell? ⟨b, o, none⟩ :=
  fun b hb o => h.cell (p := ⟨b, o, none⟩) (hf.2 b hb).2.1 (hx b hb)

theorem Free.ext {X : Nat → Prop} {w w' : World} (h : Ext X w w') {B : Nat} {fp : List Nat} (hf : Free B w fp) (hx : ∀ b ∈ fp, ¬ X b) : Free B w' fp :=
  ⟨hf.1, fun b hb => ⟨(hf.2 b hb).1, Nat.lt_of_lt_of_le (hf.2 b hb).2.1 h.size, fun o => by rw [h.frozen (p := ⟨b, o, none⟩) (hf.2 b hb).2.1 (hx b hb)]; exact (hf.2 b hb).2.2 o⟩⟩

theorem Free.mono {B B' : Nat} {w : World} {fp : List Nat} (hf : Free B w fp) (h : B' ≤ B) : Free B' w fp := ⟨hf.1, fun b hb => ⟨Nat.le_trans h (hf.2 b hb).1, (hf.2 b hb).2⟩⟩
theorem Free.nil (B : Nat) (w : World) : Free B w [] := ⟨List.nodup_nil, fun b hb => by cases hb⟩
theorem Free.append {B C : Nat} {w w' : World} {f g : List Nat} (hf : Free B w f) (hg : Free C w' g) (hw : Grow w w') (hC : w.heap.size ≤ C) (hBC : B ≤ C) : Free B w' (f ++ g) := by
  refine ⟨List.nodup_append.2 ⟨hf.1, hg.1, fun a ha b hb e => ?_⟩, fun b hb => ?_⟩
  · subst e
    have := (hf.2 a ha).2.1
    have := (hg.2 a hb).1
    omega
  · rcases List.mem_append.1 hb with h | h
    · exact (hf.ext hw (fun _ _ h => h)).2 b h
    · have := hg.2 b h; exact ⟨Nat.le_trans hBC this.1, this.2⟩

/-! ### They read as nodes -/

theorem StrsF.toR {w : World} {a : Option Addr} {c : Nat} {xs : List ByteArray} {fp : List Nat} (hs : StrsF w a c xs fp) {S : Nat → Prop} (hS : ∀ b ∈ fp, S b) : StrsR w S a c xs := by
  obtain ⟨h1, h2, h3, h4⟩ := hs
  refine ⟨h1, h2, h3, h4.imp (fun h => h.1) ?_⟩
  rintro ⟨b, o, _, rfl, rfl, hc⟩
  exact ⟨b, o, rfl, hS b (by simp), hc⟩

mutual
theorem NodeF.toC {w : World} {S : Nat → Prop} : ∀ {n : Nd} {na : Option Addr} {nc : Nat} {ka : Option Addr} {kc : Nat} {fp : List Nat}, NodeF w n na nc ka kc fp → (∀ b ∈ fp, S b) → NodeC w S n na nc ka kc
  | ⟨_, _, _, _, kids⟩, na, nc, ka, kc, fp, hn, h => by
    unfold NodeF at hn; unfold NodeC
    obtain ⟨f1, f2, rfl, h1, h2, h3, h4, h5⟩ := hn
    refine ⟨h1, h2.toR (fun b hb => h b (by simp [hb])), h3, h4, h5.imp (fun h => h.1) ?_⟩
    rintro ⟨b, o, f3, _, rfl, rfl, hc⟩
    exact ⟨b, o, rfl, h b (by simp), KidsF.toR hc (fun x hx => h x (by simp [hx]))⟩
theorem KidsF.toR {w : World} {S : Nat → Prop} {b : Nat} : ∀ {l : List Nd} {o : Nat} {fp : List Nat}, KidsF w b o l fp → (∀ x ∈ fp, S x) → KidsR w S b o l
  | [], _, _, _, _ => by unfold KidsR; trivial
  | k :: ks, o, fp, hk, h => by
    unfold KidsF at hk; unfold KidsR
    obtain ⟨f1, f2, rfl, ⟨na, nc, ka, kc, c0, c1, c2, c3, c4, hn⟩, hr⟩ := hk
    exact ⟨⟨na, nc, ka, kc, c0, c1, c2, c3, c4, NodeF.toC hn (fun x hx => h x (by simp [hx]))⟩, KidsF.toR hr (fun x hx => h x (by simp [hx]))⟩
end

theorem NodesF.toR {w : World} {a : Option Addr} {c : Nat} {l : List Nd} {fp : List Nat} (hs : NodesF w a c l fp) {S : Nat → Prop} (hS : ∀ b ∈ fp, S b) : NodesR w S a c l := by
  obtain ⟨h1, h2, h4⟩ := hs
  refine ⟨h1, h2, h4.imp (fun h => h.1) ?_⟩
  rintro ⟨b, o, f, _, rfl, rfl, hc⟩
  exact ⟨b, o, rfl, hS b (by simp), hc.toR (fun x hx => hS x (by simp [hx]))⟩

theorem NodeO.toR {w : World} {n : Nd} {v : Value} {fp : List Nat} (h : NodeO w n v fp) {S : Nat → Prop} (hS : ∀ b ∈ fp, S b) : NodeR w S n v := by
  obtain ⟨na, nc, ka, kc, hv, hc⟩ := h
  exact ⟨na, nc, ka, kc, hv, hc.toC hS⟩

/-! ### One more at the end of a row -/

theorem KidsF.snoc {w : World} {b : Nat} {k : Nd} {f' : List Nat} {na : Option Addr} {nc : Nat} {ka : Option Addr} {kc : Nat} : ∀ {l : List Nd} {o : Nat} {fp : List Nat}, KidsF w b o l fp →
    w.cell? ⟨b, o + 5 * l.length, none⟩ = some (.int .i64 k.kind) → w.cell? ⟨b, o + 5 * l.length + 1, none⟩ = some (.int .i64 k.num) → w.cell? ⟨b, o + 5 * l.length + 2, none⟩ = some (.string k.text) →
    w.cell? ⟨b, o + 5 * l.length + 3, none⟩ = some (.slice na k.names.length nc) → w.cell? ⟨b, o + 5 * l.length + 4, none⟩ = some (.slice ka k.kids.length kc) → NodeF w k na nc ka kc f' →
    KidsF w b o (l ++ [k]) (fp ++ f')
  | [], o, fp, hk, c0, c1, c2, c3, c4, hn => by
    unfold KidsF at hk; subst hk
    simp only [List.length_nil, Nat.mul_zero, Nat.add_zero] at c0 c1 c2 c3 c4
    simp only [List.nil_append]
    unfold KidsF
    exact ⟨f', [], by simp, ⟨na, nc, ka, kc, c0, c1, c2, c3, c4, hn⟩, by unfold KidsF; rfl⟩
  | x :: l, o, fp, hk, c0, c1, c2, c3, c4, hn => by
    unfold KidsF at hk
    obtain ⟨f1, f2, rfl, hx, hr⟩ := hk
    have e : o + 5 * (x :: l).length = o + 5 + 5 * l.length := by simp; omega
    rw [e] at c0 c1 c2 c3 c4
    simp only [List.cons_append]
    unfold KidsF
    exact ⟨f1, f2 ++ f', by simp, hx, KidsF.snoc hr c0 c1 c2 c3 c4 hn⟩

/-! ### A row that is being filled -/

/-- Block b is there, its first n cells too, and it is not frozen. -/
def RowIn (w : World) (b n : Nat) : Prop := b < w.heap.size ∧ (∀ j, j < n → ∃ u, w.cell? ⟨b, j, none⟩ = some u) ∧ ∀ j, w.frozen? ⟨b, j, none⟩ = false

theorem RowIn.made (w : World) (z : Array Value) (n : Nat) (t : TypeId) : RowIn (w.alloc (.cells (madeCells z n) t)) w.heap.size n := by
  refine ⟨by simp, fun j hj => ?_, fun j => World.frozen?_alloc_new w _ t j⟩
  rw [World.cell?_alloc_new]
  exact ⟨_, Array.getElem?_eq_getElem (by rw [size_madeCells]; exact hj)⟩

theorem RowIn.ext {X : Nat → Prop} {w w' : World} {b n : Nat} (h : Ext X w w') (hx : ¬ X b) (hr : RowIn w b n) : RowIn w' b n := by
  obtain ⟨h1, h2, h3⟩ := hr
  refine ⟨Nat.lt_of_lt_of_le h1 h.size, fun j hj => ?_, fun j => ?_⟩
  · rw [h.cell (p := ⟨b, j, none⟩) h1 hx]; exact h2 j hj
  · rw [h.frozen (p := ⟨b, j, none⟩) h1 hx]; exact h3 j

theorem cell_set {w : World} {p : Addr} {u : Value} (h : w.cell? p = some u) (v : Value) (q : Addr) : (w.setCell p v).cell? q = if q = p then some v else w.cell? q := by
  by_cases e : q = p
  · subst e; rw [if_pos rfl]; exact World.cell?_setCell_same w q v h
  · rw [if_neg e]; exact World.cell?_setCell_other w p q v (fun h => e h.symm)

theorem size_setCell (w : World) (p : Addr) (v : Value) : (w.setCell p v).heap.size = w.heap.size := by simp [World.setCell]

theorem RowIn.setCell {w : World} {b n : Nat} (hr : RowIn w b n) (p : Addr) (v : Value) : RowIn (w.setCell p v) b n := by
  obtain ⟨h1, h2, h3⟩ := hr
  refine ⟨by rw [size_setCell]; exact h1, fun j hj => cell?_setCell_some (h2 j hj).choose_spec, fun j => ?_⟩
  rw [World.frozen?_setCell]; exact h3 j

/-- A store into a block that was not there. -/
theorem Ext.setNew {X : Nat → Prop} {a w : World} (h : Ext X a w) {p : Addr} (hp : a.heap.size ≤ p.block) (v : Value) : Ext X a (w.setCell p v) :=
  ⟨h.os, h.tape, h.output, by rw [size_setCell]; exact h.size, fun k hk hx => by rw [Below.heap_setCell _ _ _ _ (by omega)]; exact h.block k hk hx⟩

/-- A store into a block of X. -/
theorem Ext.setIn {X : Nat → Prop} {a w : World} (h : Ext X a w) {p : Addr} (hp : X p.block) (v : Value) : Ext X a (w.setCell p v) :=
  ⟨h.os, h.tape, h.output, by rw [size_setCell]; exact h.size, fun k hk hx => by rw [Below.heap_setCell _ _ _ _ (fun e => hx (by rw [e]; exact hp))]; exact h.block k hk hx⟩

theorem Free.setCell {B : Nat} {w : World} {fp : List Nat} (hf : Free B w fp) (p : Addr) (v : Value) : Free B (w.setCell p v) fp :=
  ⟨hf.1, fun b hb => ⟨(hf.2 b hb).1, by rw [size_setCell]; exact (hf.2 b hb).2.1, fun o => by rw [World.frozen?_setCell]; exact (hf.2 b hb).2.2 o⟩⟩

theorem Free.one {B : Nat} {w : World} {b n : Nat} (hr : RowIn w b n) (h : B ≤ b) : Free B w [b] :=
  ⟨by simp, fun x hx => by simp at hx; subst hx; exact ⟨h, hr.1, hr.2.2⟩⟩

theorem Free.cons {B : Nat} {w : World} {b n : Nat} {fp : List Nat} (hr : RowIn w b n) (h : B ≤ b) (hf : Free (b + 1) w fp) : Free B w (b :: fp) :=
  ⟨List.nodup_cons.2 ⟨fun hm => by have := (hf.2 b hm).1; omega, hf.1⟩, fun x hx => by
    rcases List.mem_cons.1 hx with rfl | hx
    · exact ⟨h, hr.1, hr.2.2⟩
    · have := hf.2 x hx; exact ⟨by omega, this.2⟩⟩

/-- Five stores, one behind the other. -/
def store5 (w : World) (b o : Nat) (v0 v1 v2 v3 v4 : Value) : World :=
  ((((w.setCell ⟨b, o, none⟩ v0).setCell ⟨b, o + 1, none⟩ v1).setCell ⟨b, o + 2, none⟩ v2).setCell ⟨b, o + 3, none⟩ v3).setCell ⟨b, o + 4, none⟩ v4

theorem store5_ext (w : World) (b o : Nat) (v0 v1 v2 v3 v4 : Value) : Ext (fun k => k = b) w (store5 w b o v0 v1 v2 v3 v4) :=
  (((((Ext.refl (fun k => k = b) w).setIn (p := ⟨b, o, none⟩) rfl v0).setIn (p := ⟨b, o + 1, none⟩) rfl v1).setIn (p := ⟨b, o + 2, none⟩) rfl v2).setIn (p := ⟨b, o + 3, none⟩) rfl v3).setIn (p := ⟨b, o + 4, none⟩) rfl v4

theorem store5_row {w : World} {b n : Nat} (hr : RowIn w b n) (o : Nat) (v0 v1 v2 v3 v4 : Value) : RowIn (store5 w b o v0 v1 v2 v3 v4) b n :=
  ((((hr.setCell _ _).setCell _ _).setCell _ _).setCell _ _).setCell _ _

theorem store5_free {B : Nat} {w : World} {fp : List Nat} (hf : Free B w fp) (b o : Nat) (v0 v1 v2 v3 v4 : Value) : Free B (store5 w b o v0 v1 v2 v3 v4) fp :=
  ((((hf.setCell _ _).setCell _ _).setCell _ _).setCell _ _).setCell _ _

theorem store5_cell {w : World} {b n o : Nat} (hr : RowIn w b n) (ho : o + 5 ≤ n) (v0 v1 v2 v3 v4 : Value) (q : Nat) :
    (store5 w b o v0 v1 v2 v3 v4).cell? ⟨b, q, none⟩ = if q = o then some v0 else if q = o + 1 then some v1 else if q = o + 2 then some v2 else if q = o + 3 then some v3 else if q = o + 4 then some v4 else w.cell? ⟨b, q, none⟩ := by
  unfold store5
  have h0 := hr
  have h1 := h0.setCell ⟨b, o, none⟩ v0
  have h2 := h1.setCell ⟨b, o + 1, none⟩ v1
  have h3 := h2.setCell ⟨b, o + 2, none⟩ v2
  have h4 := h3.setCell ⟨b, o + 3, none⟩ v3
  obtain ⟨u0, e0⟩ := h0.2.1 o (by omega)
  obtain ⟨u1, e1⟩ := h1.2.1 (o + 1) (by omega)
  obtain ⟨u2, e2⟩ := h2.2.1 (o + 2) (by omega)
  obtain ⟨u3, e3⟩ := h3.2.1 (o + 3) (by omega)
  obtain ⟨u4, e4⟩ := h4.2.1 (o + 4) (by omega)
  rw [cell_set e4, cell_set e3, cell_set e2, cell_set e1, cell_set e0]
  simp only [Addr.mk.injEq, true_and, and_true]
  by_cases c0 : q = o
  · subst c0; simp
  by_cases c1 : q = o + 1
  · subst c1; simp
  by_cases c2 : q = o + 2
  · subst c2; simp
  by_cases c3 : q = o + 3
  · subst c3; simp
  by_cases c4 : q = o + 4
  · subst c4; simp
  simp [c0, c1, c2, c3, c4]

/-- A node is laid at the end of a row. -/
theorem KidsF.lay {w : World} {b n : Nat} {l : List Nd} {k : Nd} {fp f' : List Nat} {na : Option Addr} {nc : Nat} {ka : Option Addr} {kc : Nat} (hr : RowIn w b n) (hk : KidsF w b 0 l fp)
    (hn : NodeF w k na nc ka kc f') (hlen : (l.length + 1) * 5 ≤ n) (h1 : b ∉ fp) (h2 : b ∉ f') :
    KidsF (store5 w b (l.length * 5) (.int .i64 k.kind) (.int .i64 k.num) (.string k.text) (.slice na k.names.length nc) (.slice ka k.kids.length kc)) b 0 (l ++ [k]) (fp ++ f') := by
  have hc := fun q => store5_cell hr (o := l.length * 5) (by omega) (.int .i64 k.kind) (.int .i64 k.num) (.string k.text) (.slice na k.names.length nc) (.slice ka k.kids.length kc) q
  have he := store5_ext w b (l.length * 5) (.int .i64 k.kind) (.int .i64 k.num) (.string k.text) (.slice na k.names.length nc) (.slice ka k.kids.length kc)
  have other : ∀ x, x ≠ b → ∀ o, (store5 w b (l.length * 5) (.int .i64 k.kind) (.int .i64 k.num) (.string k.text) (.slice na k.names.length nc) (.slice ka k.kids.length kc)).cell? ⟨x, o, none⟩ = w.cell? ⟨x, o, none⟩ := by
    intro x hx o
    unfold store5
    rw [World.cell?_setCell_other _ _ _ _ (by intro e; cases e; exact hx rfl), World.cell?_setCell_other _ _ _ _ (by intro e; cases e; exact hx rfl), World.cell?_setCell_other _ _ _ _ (by intro e; cases e; exact hx rfl),
      World.cell?_setCell_other _ _ _ _ (by intro e; cases e; exact hx rfl), World.cell?_setCell_other _ _ _ _ (by intro e; cases e; exact hx rfl)]
  have e0 : 0 + 5 * l.length = l.length * 5 := by omega
  refine KidsF.snoc (hk.keep (fun x hx o => other x (fun e => h1 (e ▸ hx)) o) (fun o' _ ho => ?_)) ?_ ?_ ?_ ?_ ?_ (hn.keep (fun x hx o => other x (fun e => h2 (e ▸ hx)) o))
  · rw [hc, if_neg (by omega), if_neg (by omega), if_neg (by omega), if_neg (by omega), if_neg (by omega)]
  · rw [e0, hc, if_pos rfl]
  · rw [e0, hc, if_neg (by omega), if_pos rfl]
  · rw [e0, hc, if_neg (by omega), if_neg (by omega), if_pos rfl]
  · rw [e0, hc, if_neg (by omega), if_neg (by omega), if_neg (by omega), if_pos rfl]
  · rw [e0, hc, if_neg (by omega), if_neg (by omega), if_neg (by omega), if_neg (by omega), if_pos rfl]

/-! ### A local struct of five cells, written -/

theorem Box5.other {w : World} {b : Nat} {c0 c1 c2 c3 c4 : Value} (hb : Box5 w b c0 c1 c2 c3 c4) {p : Addr} (hp : p.block ≠ b) (v : Value) : Box5 (w.setCell p v) b c0 c1 c2 c3 c4 :=
  hb.ext (X := fun k => k = p.block) (Ext.setIn (X := fun k => k = p.block) (Ext.refl _ w) (p := p) rfl v) (fun h => hp h.symm)
theorem Box5.set0 {w : World} {b : Nat} {c0 c1 c2 c3 c4 : Value} (hb : Box5 w b c0 c1 c2 c3 c4) (v : Value) : Box5 (w.setCell ⟨b, 0, none⟩ v) b v c1 c2 c3 c4 :=
  ⟨by rw [cell_set hb.k0, if_pos rfl], by rw [cell_set hb.k0, if_neg (by simp)]; exact hb.k1, by rw [cell_set hb.k0, if_neg (by simp)]; exact hb.k2, by rw [cell_set hb.k0, if_neg (by simp)]; exact hb.k3, by rw [cell_set hb.k0, if_neg (by simp)]; exact hb.k4, fun o => by rw [World.frozen?_setCell]; exact hb.fr o, by rw [size_setCell]; exact hb.lt⟩
theorem Box5.set1 {w : World} {b : Nat} {c0 c1 c2 c3 c4 : Value} (hb : Box5 w b c0 c1 c2 c3 c4) (v : Value) : Box5 (w.setCell ⟨b, 1, none⟩ v) b c0 v c2 c3 c4 :=
  ⟨by rw [cell_set hb.k1, if_neg (by simp)]; exact hb.k0, by rw [cell_set hb.k1, if_pos rfl], by rw [cell_set hb.k1, if_neg (by simp)]; exact hb.k2, by rw [cell_set hb.k1, if_neg (by simp)]; exact hb.k3, by rw [cell_set hb.k1, if_neg (by simp)]; exact hb.k4, fun o => by rw [World.frozen?_setCell]; exact hb.fr o, by rw [size_setCell]; exact hb.lt⟩
theorem Box5.set2 {w : World} {b : Nat} {c0 c1 c2 c3 c4 : Value} (hb : Box5 w b c0 c1 c2 c3 c4) (v : Value) : Box5 (w.setCell ⟨b, 2, none⟩ v) b c0 c1 v c3 c4 :=
  ⟨by rw [cell_set hb.k2, if_neg (by simp)]; exact hb.k0, by rw [cell_set hb.k2, if_neg (by simp)]; exact hb.k1, by rw [cell_set hb.k2, if_pos rfl], by rw [cell_set hb.k2, if_neg (by simp)]; exact hb.k3, by rw [cell_set hb.k2, if_neg (by simp)]; exact hb.k4, fun o => by rw [World.frozen?_setCell]; exact hb.fr o, by rw [size_setCell]; exact hb.lt⟩
theorem Box5.set3 {w : World} {b : Nat} {c0 c1 c2 c3 c4 : Value} (hb : Box5 w b c0 c1 c2 c3 c4) (v : Value) : Box5 (w.setCell ⟨b, 3, none⟩ v) b c0 c1 c2 v c4 :=
  ⟨by rw [cell_set hb.k3, if_neg (by simp)]; exact hb.k0, by rw [cell_set hb.k3, if_neg (by simp)]; exact hb.k1, by rw [cell_set hb.k3, if_neg (by simp)]; exact hb.k2, by rw [cell_set hb.k3, if_pos rfl], by rw [cell_set hb.k3, if_neg (by simp)]; exact hb.k4, fun o => by rw [World.frozen?_setCell]; exact hb.fr o, by rw [size_setCell]; exact hb.lt⟩
theorem Box5.set4 {w : World} {b : Nat} {c0 c1 c2 c3 c4 : Value} (hb : Box5 w b c0 c1 c2 c3 c4) (v : Value) : Box5 (w.setCell ⟨b, 4, none⟩ v) b c0 c1 c2 c3 v :=
  ⟨by rw [cell_set hb.k4, if_neg (by simp)]; exact hb.k0, by rw [cell_set hb.k4, if_neg (by simp)]; exact hb.k1, by rw [cell_set hb.k4, if_neg (by simp)]; exact hb.k2, by rw [cell_set hb.k4, if_neg (by simp)]; exact hb.k3, by rw [cell_set hb.k4, if_pos rfl], fun o => by rw [World.frozen?_setCell]; exact hb.fr o, by rw [size_setCell]; exact hb.lt⟩

/-- A local struct. -/
structure BoxN (w : World) (b : Nat) (cs : List Value) : Prop where
  cell : ∀ i v, cs[i]? = some v → w.cell? ⟨b, i, none⟩ = some v
  fr : ∀ o, w.frozen? ⟨b, o, none⟩ = false
  lt : b < w.heap.size

theorem BoxN.new (w : World) (cs : List Value) (t : TypeId) : BoxN (w.alloc (.cells cs.toArray t)) w.heap.size cs :=
  ⟨fun i v h => by rw [World.cell?_alloc_new]; simpa using h, fun o => World.frozen?_alloc_new w _ t o, by simp⟩
theorem BoxN.new1 (w : World) (x : Obj) (cs : List Value) (t : TypeId) : BoxN ((w.alloc x).alloc (.cells cs.toArray t)) (w.heap.size + 1) cs := by
  have := BoxN.new (w.alloc x) cs t
  rw [World.size_alloc] at this; exact this
theorem BoxN.new2 (w : World) (x y : Obj) (cs : List Value) (t : TypeId) : BoxN (((w.alloc x).alloc y).alloc (.cells cs.toArray t)) (w.heap.size + 1 + 1) cs := by
  have := BoxN.new ((w.alloc x).alloc y) cs t
  rw [World.size_alloc, World.size_alloc] at this; exact this
theorem BoxN.ext {X : Nat → Prop} {w w' : World} {b : Nat} {cs : List Value} (hb : BoxN w b cs) (h : Ext X w w') (hx : ¬ X b) : BoxN w' b cs :=
  ⟨fun i v hi => by rw [h.cell hb.lt hx]; exact hb.cell i v hi, fun o => by rw [h.frozen (p := ⟨b, o, none⟩) hb.lt hx]; exact hb.fr o, Nat.lt_of_lt_of_le hb.lt h.size⟩
theorem BoxN.grow {w w' : World} {b : Nat} {cs : List Value} (hb : BoxN w b cs) (h : Grow w w') : BoxN w' b cs := hb.ext h (fun h => h)
theorem BoxN.other {w : World} {b : Nat} {cs : List Value} (hb : BoxN w b cs) {p : Addr} (hp : p.block ≠ b) (v : Value) : BoxN (w.setCell p v) b cs :=
  hb.ext (X := fun k => k = p.block) (Ext.setIn (X := fun k => k = p.block) (Ext.refl _ w) (p := p) rfl v) (fun h => hp h.symm)
theorem BoxN.set {w : World} {b : Nat} {cs : List Value} (hb : BoxN w b cs) (i : Nat) (hi : i < cs.length) (v : Value) : BoxN (w.setCell ⟨b, i, none⟩ v) b (cs.set i v) := by
  refine ⟨fun j u h => ?_, fun o => by rw [World.frozen?_setCell]; exact hb.fr o, by rw [size_setCell]; exact hb.lt⟩
  rw [cell_set (hb.cell i cs[i] (List.getElem?_eq_getElem hi))]
  rw [List.getElem?_set] at h
  by_cases e : j = i
  · subst e; simpa [hi] using h
  · rw [if_neg (by intro h'; cases h'; exact e rfl)]
    rw [if_neg (fun h' => e h'.symm)] at h
    exact hb.cell j u h

/-- The cells of a node. -/
def nodeL (n : Nd) (na : Option Addr) (nc : Nat) (ka : Option Addr) (kc : Nat) : List Value :=
  [.int .i64 n.kind, .int .i64 n.num, .string n.text, .slice na n.names.length nc, .slice ka n.kids.length kc]

end Go.Proofs.Ytchiakeceiefdaa
