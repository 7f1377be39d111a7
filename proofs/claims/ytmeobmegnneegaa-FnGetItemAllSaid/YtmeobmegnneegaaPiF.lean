/-
  Texts of this claim, joined: Misfit, NCells, Append, Rep2, Elm, MarkT, EntLaw, EntMark, Entries, Compare, CompareW, CompareS, FRange, MarkB, Uni, ItmLaw, ItmTo, Rules, Sto, EStoU, ECopySt, EPutS, StabB, StoV, StoVS, Page, PageS, EStoBr.
-/
import Derived.Laws.AppendOwn
import Derived.Laws.AppendOwnNone
import Derived.Laws.OwnMore
import Derived.Lib.Bytealg
import Derived.Test.YtmeobmegnneegaaPiE

set_option linter.unusedSimpArgs false
set_option linter.unusedVariables false

/-
  Where a node does not fit a shape: the plain law and the walk of impl.misfit.
-/
namespace Go.Proofs.Ytmeobmegnneegaa
open Go.RowKit

mutual
def mis : Shp → Nd → Option (List ByteArray)
  | ⟨kind, names, needs, kids⟩, n => if kind = 0 then none else if kind ≠ n.kind then some [] else misL names needs kids n
def misL : List ByteArray → List Bool → List Shp → Nd → Option (List ByteArray)
  | nm :: ns, nd :: bs, k :: ks, n => if mem n.names nm then (match mis k (kidOf n nm) with | some p => some (nm :: p) | none => misL ns bs ks n) else if nd then some [nm] else misL ns bs ks n
  | _, _, _, _ => none
end
theorem mis_eq (x : Shp) (n : Nd) : mis x n = if x.kind = 0 then none else if x.kind ≠ n.kind then some [] else misL x.names x.needs x.kids n := by cases x; simp [mis]
def MisR (w w' : World) (r : Option (List ByteArray)) (v : Value) : Prop :=
  ∃ a c fp, v = .tuple #[.slice a (r.getD []).length c, .bool r.isSome] ∧ StrsF w' a c (r.getD []) fp ∧ Free w.heap.size w' fp ∧ (r.getD [] = [] → a = none ∧ c = 0)

theorem MisR.grow {w w' w'' : World} {r : Option (List ByteArray)} {v : Value} (h : MisR w w' r v) (hg : Grow w' w'') : MisR w w'' r v := by
  obtain ⟨a, c, fp, hv, h1, h2, h3⟩ := h
  exact ⟨a, c, fp, hv, h1.keep (hg.keeps h2 (fun _ _ h => h)), h2.ext hg (fun _ _ h => h), h3⟩

theorem MisR.none (w w' : World) : MisR w w' .none (.tuple #[.slice .none 0 0, .bool false]) :=
  ⟨.none, 0, [], rfl, ⟨Nat.le_refl _, Nat.zero_le _, by simp, .inl ⟨rfl, rfl⟩⟩, Free.nil _ _, fun _ => ⟨rfl, rfl⟩⟩
theorem MisR.nil (w w' : World) : MisR w w' (some []) (.tuple #[.slice .none 0 0, .bool true]) :=
  ⟨.none, 0, [], rfl, ⟨Nat.le_refl _, Nat.zero_le _, by simp, .inl ⟨rfl, rfl⟩⟩, Free.nil _ _, fun _ => ⟨rfl, rfl⟩⟩

theorem strs_of_row {w : World} {B : Nat} {T : TypeId} {v : Value} {n : Nat} {xs : List ByteArray} (h : w.ownsRow B T 1 v n (xs.map Value.string)) (hx : ∀ x ∈ xs, x.size ≤ big) :
    ∃ a c fp, v = .slice a xs.length c ∧ StrsF w a c xs fp ∧ Free B w fp ∧ (xs = [] → fp = []) := by
  obtain ⟨h1, h2⟩ := h
  have hn : n = xs.length := by simp at h1; omega
  subst hn
  rcases h2 with ⟨rfl, h0⟩ | ⟨g, cap, cur, rfl, hb, hg, hle, hcap, hcs, htake⟩
  · have : xs = [] := List.length_eq_zero_iff.1 h0
    subst this
    exact ⟨none, 0, [], rfl, ⟨Nat.le_refl _, Nat.zero_le _, by simp, .inl ⟨rfl, rfl⟩⟩, Free.nil _ _, fun _ => rfl⟩
  · have hlen : xs.length ≤ big := by unfold maxLen at hcap; unfold big; omega
    by_cases he : xs = []
    · subst he
      exact ⟨_, _, [], rfl, ⟨Nat.zero_le _, Nat.zero_le _, by simp, .inl ⟨rfl, rfl⟩⟩, Free.nil _ _, fun _ => rfl⟩
    · refine ⟨_, _, [g], rfl, ⟨hle, hlen, hx, .inr ⟨g, 0, he, rfl, rfl, fun i hi => ?_⟩⟩, ⟨by simp, fun b hb' => ?_⟩, fun h => absurd h he⟩
      · unfold World.cell?
        simp only [hg, Nat.zero_add]
        have : cur.toList[i]? = some (Value.string xs[i]) := by
          have h3 : (cur.toList.take (xs.length * 1))[i]? = some (Value.string xs[i]) := by rw [htake]; simp [hi]
          rw [List.getElem?_take] at h3
          rw [if_pos (by omega)] at h3
          exact h3
        rw [Array.getElem?_toList] at this
        simpa [World.frozen?] using this
      · simp at hb'
        subst hb'
        refine ⟨hb, (Array.getElem?_eq_some_iff.1 hg).1, fun o => ?_⟩
        unfold World.frozen?
        simp [hg]

theorem MisR.one (W w : World) (x : ByteArray) (T : TypeId) (b : Nat) (hb : b = w.heap.size) (h : W.heap.size ≤ w.heap.size) (hx : x.size ≤ big) :
    MisR W (w.alloc (.cells #[.string x] T)) (some [x]) (.tuple #[.slice (some ⟨b, 0, Option.none⟩) 1 1, .bool true]) := by
  subst hb
  refine ⟨_, _, [w.heap.size], rfl, ⟨Nat.le_refl _, by simp [big], by simpa using hx, .inr ⟨_, 0, by simp, rfl, rfl, fun i hi => ?_⟩⟩, ⟨by simp, fun b hb => ?_⟩, fun h => by simp at h⟩
  · simp at hi
    subst hi
    rw [World.cell?_alloc_new]; rfl
  · simp at hb
    subst hb
    exact ⟨h, by simp, fun o => World.frozen?_alloc_new w _ T o⟩

theorem addr_add (b o j : Nat) : (⟨b, o, Option.none⟩ : Addr).add j = ⟨b, o + j, Option.none⟩ := by unfold Addr.add; split <;> simp_all

theorem MisR.row {w w' : World} {T : TypeId} {v : Value} {n : Nat} {x : ByteArray} {p : List ByteArray} (h : w'.ownsRow w.heap.size T 1 v n ((x :: p).map Value.string)) (hx : ∀ y ∈ x :: p, y.size ≤ big) :
    MisR w w' (some (x :: p)) (.tuple #[v, .bool true]) := by
  obtain ⟨a, c, fp, hv, h1, h2, _⟩ := strs_of_row h hx
  exact ⟨a, c, fp, by rw [hv]; rfl, h1, h2, fun h => by simp at h⟩

theorem MisR.base {w0 w w' : World} {r : Option (List ByteArray)} {v : Value} (h : MisR w w' r v) (hs : w0.heap.size ≤ w.heap.size) : MisR w0 w' r v := by
  obtain ⟨a, c, fp, hv, h1, h2, h3⟩ := h
  exact ⟨a, c, fp, hv, h1, h2.mono hs, h3⟩

theorem misL_len (n : Nd) (d : Nat) : ∀ (ks : List Shp), (∀ k ∈ ks, ∀ m p, mis k m = some p → p.length ≤ d) → ∀ ns bs p, misL ns bs ks n = some p → p.length ≤ d + 1
  | [], _, ns, bs, p, h => by cases ns <;> cases bs <;> simp [misL] at h
  | k :: ks, hk, [], bs, p, h => by simp [misL] at h
  | k :: ks, hk, nm :: ns, [], p, h => by simp [misL] at h
  | k :: ks, hk, nm :: ns, nd :: bs, p, h => by
    rw [misL] at h
    by_cases hm : mem n.names nm = true
    · rw [if_pos hm] at h
      cases hx : mis k (kidOf n nm) with
      | none => rw [hx] at h; exact misL_len n d ks (fun k' hk' => hk k' (by simp [hk'])) ns bs p h
      | some q =>
        rw [hx] at h
        simp at h
        subst h
        have := hk k (by simp) _ _ hx
        simp; omega
    · rw [if_neg hm] at h
      by_cases hn : nd = true
      · rw [if_pos hn] at h; simp at h; subst h; simp
      · rw [if_neg hn] at h
        exact misL_len n d ks (fun k' hk' => hk k' (by simp [hk'])) ns bs p h

theorem mis_len : ∀ (d : Nat) (x : Shp) (n : Nd) (p : List ByteArray), shpB x d = true → mis x n = some p → p.length ≤ d
  | 0, x, n, p, h, _ => by rw [shpB_eq] at h; simp at h
  | d + 1, x, n, p, h, hp => by
    rw [shpB_eq, shpL_all] at h
    simp only [Bool.and_eq_true, List.all_eq_true, Nat.add_sub_cancel] at h
    rw [mis_eq] at hp
    by_cases h0 : x.kind = 0
    · simp [h0] at hp
    · rw [if_neg h0] at hp
      by_cases h1 : x.kind ≠ n.kind
      · rw [if_pos h1] at hp; simp at hp; subst hp; simp
      · rw [if_neg h1] at hp
        exact misL_len n d x.kids (fun k hk m q hq => mis_len d k m q (h.2 k hk) hq) _ _ _ hp

theorem GoodS.len {x : Shp} (h : GoodS x) {n : Nd} {p : List ByteArray} (hp : mis x n = some p) : p.length ≤ 5 := by
  obtain ⟨d, hd, h⟩ := h
  exact Nat.le_trans (mis_len d x n p h hp) hd

end Go.Proofs.Ytmeobmegnneegaa

/-
  Rows of nodes that a call appends to: their cells, and how they read as slices of nodes.
-/
namespace Go.Proofs.Ytmeobmegnneegaa
open Go Go.RowKit

def NCells (w : World) (S : Nat → Prop) : List Nd → List Value → Prop
  | [], cs => cs = []
  | n :: l, cs => ∃ na nc ka kc cs', cs = nodeL n na nc ka kc ++ cs' ∧ NodeC w S n na nc ka kc ∧ NCells w S l cs'

theorem NCells.len {w : World} {S : Nat → Prop} : ∀ {l : List Nd} {cs : List Value}, NCells w S l cs → cs.length = l.length * 5
  | [], cs, h => by cases h; rfl
  | n :: l, cs, h => by
    obtain ⟨na, nc, ka, kc, cs', rfl, _, h⟩ := h
    rw [List.length_append, NCells.len h]; simp [nodeL, Nat.succ_mul]; omega
theorem NCells.append {w : World} {S : Nat → Prop} : ∀ {l m : List Nd} {cs ds : List Value}, NCells w S l cs → NCells w S m ds → NCells w S (l ++ m) (cs ++ ds)
  | [], m, cs, ds, h, k => by cases h; exact k
  | n :: l, m, cs, ds, h, k => by
    obtain ⟨na, nc, ka, kc, cs', rfl, hn, h⟩ := h
    exact ⟨na, nc, ka, kc, cs' ++ ds, by simp, hn, NCells.append h k⟩
theorem NCells.ext {X S : Nat → Prop} {w w' : World} (he : Ext X w w') (hS : ∀ k, S k → ¬ X k) : ∀ {l : List Nd} {cs : List Value}, NCells w S l cs → NCells w' S l cs
  | [], cs, h => h
  | n :: l, cs, h => by
    obtain ⟨na, nc, ka, kc, cs', rfl, hn, h⟩ := h
    exact ⟨na, nc, ka, kc, cs', rfl, hn.ext he hS, NCells.ext he hS h⟩
theorem NCells.mono {S T : Nat → Prop} {w : World} (hS : ∀ k, S k → T k) : ∀ {l : List Nd} {cs : List Value}, NCells w S l cs → NCells w T l cs
  | [], cs, h => h
  | n :: l, cs, h => by
    obtain ⟨na, nc, ka, kc, cs', rfl, hn, h⟩ := h
    exact ⟨na, nc, ka, kc, cs', rfl, hn.mono hS, NCells.mono hS h⟩
theorem NCells.one {w : World} {S : Nat → Prop} {n : Nd} {na : Option Addr} {nc : Nat} {ka : Option Addr} {kc : Nat} (h : NodeC w S n na nc ka kc) : NCells w S [n] (nodeL n na nc ka kc) :=
  ⟨na, nc, ka, kc, [], by simp, h, rfl⟩
theorem NCells.kids {w : World} {S : Nat → Prop} {b : Nat} : ∀ {l : List Nd} {cs : List Value} {o : Nat}, NCells w S l cs → (∀ i v, cs[i]? = some v → w.cell? ⟨b, o + i, none⟩ = some v) → KidsR w S b o l
  | [], _, _, _, _ => by unfold KidsR; trivial
  | n :: l, cs, o, h, hc => by
    obtain ⟨na, nc, ka, kc, cs', rfl, hn, h⟩ := h
    unfold KidsR
    refine ⟨⟨na, nc, ka, kc, hc 0 _ rfl, hc 1 _ rfl, hc 2 _ rfl, hc 3 _ rfl, hc 4 _ rfl, hn⟩, NCells.kids h (fun i v hi => ?_)⟩
    have := hc (5 + i) v (by rw [List.getElem?_append_right (by simp [nodeL])]; simpa [nodeL] using hi)
    rw [show o + (5 + i) = o + 5 + i by omega] at this
    exact this

theorem KidsR.cells {w : World} {S : Nat → Prop} {b : Nat} : ∀ {l : List Nd} {o : Nat}, KidsR w S b o l → ∃ cs, NCells w S l cs ∧ ∀ i v, cs[i]? = some v → w.cell? ⟨b, o + i, none⟩ = some v
  | [], _, _ => ⟨[], rfl, fun i v h => by simp at h⟩
  | n :: l, o, h => by
    unfold KidsR at h
    obtain ⟨⟨na, nc, ka, kc, c0, c1, c2, c3, c4, hn⟩, hr⟩ := h
    obtain ⟨cs, h1, h2⟩ := hr.cells
    refine ⟨nodeL n na nc ka kc ++ cs, ⟨na, nc, ka, kc, cs, rfl, hn, h1⟩, fun i v hi => ?_⟩
    match i, hi with
    | 0, hi => simp [nodeL] at hi; subst hi; exact c0
    | 1, hi => simp [nodeL] at hi; subst hi; exact c1
    | 2, hi => simp [nodeL] at hi; subst hi; exact c2
    | 3, hi => simp [nodeL] at hi; subst hi; exact c3
    | 4, hi => simp [nodeL] at hi; subst hi; exact c4
    | i + 5, hi =>
      have := h2 i v (by simpa [nodeL] using hi)
      rw [show o + (i + 5) = o + 5 + i by omega]
      exact this

end Go.Proofs.Ytmeobmegnneegaa

/-
  append to a row of the call's own: the row stays where it was, or lies in a new block.
-/
namespace Go.Proofs.Ytmeobmegnneegaa
open Go Go.RowKit

theorem grownBy_of_grow {w w' : World} (h : Grow w w') : w.grownBy w' none := ⟨h.os, h.tape, h.output, h.size, fun k hk _ => h.block k hk (fun h => h)⟩
theorem row_grow {w w' : World} {B : Nat} {T : TypeId} {size : Nat} {v : Value} {n : Nat} {xs : List Value} (h : w.ownsRow B T size v n xs) (hg : Grow w w') : w'.ownsRow B T size v n xs :=
  h.kept (grownBy_of_grow hg) (by cases hv : v.ownBlock <;> simp)

def Src (w : World) (y : Option Addr) (m : Nat) (news : List Value) : Prop := (m = 0 ∧ news = []) ∨ ∃ ad, y = some ad ∧ ∀ j u, news[j]? = some u → w.cell? (ad.add j) = some u

theorem Src.grow {w w' : World} {y : Option Addr} {m : Nat} {news : List Value} (h : Src w y m news) (hg : Grow w w') : Src w' y m news :=
  h.imp id (fun ⟨ad, hy, hc⟩ => ⟨ad, hy, fun j u hj => hg.some (hc j u hj)⟩)

def offRow (B : Nat) (v : Value) (k : Nat) : Prop := B ≤ k ∧ v.ownBlock ≠ some k

theorem grownBy_ext {w w' : World} {v : Value} (h : w.grownBy w' v.ownBlock) : Ext (fun k => v.ownBlock = some k) w w' :=
  ⟨h.os, h.tape, h.output, h.size, fun k hk hx => h.block k hk (fun e => hx e.symm)⟩

theorem NCells.grown {w w' : World} {B : Nat} {v v' : Value} {l : List Nd} {cs : List Value} (hlt : NCells w (fun k => offRow B v k ∧ k < w.heap.size) l cs) (hg : w.grownBy w' v.ownBlock) (hv : v'.ownBlock = v.ownBlock ∨ v'.ownBlock = some w.heap.size) :
    NCells w' (offRow B v') l cs := by
  have h1 := hlt.ext (grownBy_ext hg) (fun k hk hx => hk.1.2 hx)
  refine h1.mono (fun k hk => ⟨hk.1.1, fun e => ?_⟩)
  rcases hv with hv | hv
  · rw [hv] at e; exact hk.1.2 e
  · rw [hv] at e; cases e; exact Nat.lt_irrefl _ hk.2

theorem StrsR.lt {S : Nat → Prop} {w : World} {a : Option Addr} {c : Nat} {xs : List ByteArray} (h : StrsR w S a c xs) : StrsR w (fun k => S k ∧ k < w.heap.size) a c xs := by
  obtain ⟨h1, h2, h3, h4⟩ := h
  refine ⟨h1, h2, h3, ?_⟩
  rcases Nat.eq_zero_or_pos xs.length with hl | hl
  · exact .inl (List.length_eq_zero_iff.1 hl)
  rcases h4 with h4 | ⟨b, o, rfl, hb, hc⟩
  · exact .inl h4
  · exact .inr ⟨b, o, rfl, ⟨hb, lt_of_cell (hc 0 hl)⟩, hc⟩
mutual
theorem NodeC.lt {S : Nat → Prop} {w : World} : ∀ {n : Nd} {na : Option Addr} {nc : Nat} {ka : Option Addr} {kc : Nat}, NodeC w S n na nc ka kc → NodeC w (fun k => S k ∧ k < w.heap.size) n na nc ka kc
  | ⟨_, _, _, _, kids⟩, na, nc, ka, kc, h => by
    unfold NodeC at h ⊢
    obtain ⟨h1, h2, h3, h4, h5⟩ := h
    refine ⟨h1, h2.lt, h3, h4, ?_⟩
    rcases h5 with h5 | ⟨b, o, rfl, hb, hk⟩
    · exact .inl h5
    · cases kids with
      | nil => exact .inl rfl
      | cons k ks =>
        refine .inr ⟨b, o, rfl, ⟨hb, ?_⟩, KidsR.lt hk⟩
        unfold KidsR at hk
        obtain ⟨⟨_, _, _, _, c0, _⟩, _⟩ := hk
        exact lt_of_cell c0
theorem KidsR.lt {S : Nat → Prop} {w : World} {b : Nat} : ∀ {l : List Nd} {o : Nat}, KidsR w S b o l → KidsR w (fun k => S k ∧ k < w.heap.size) b o l
  | [], _, _ => by unfold KidsR; trivial
  | k :: ks, o, h => by
    unfold KidsR at h ⊢
    obtain ⟨⟨na, nc, ka, kc, c0, c1, c2, c3, c4, hn⟩, hr⟩ := h
    exact ⟨⟨na, nc, ka, kc, c0, c1, c2, c3, c4, hn.lt⟩, KidsR.lt hr⟩
end
theorem NCells.lt {S : Nat → Prop} {w : World} : ∀ {l : List Nd} {cs : List Value}, NCells w S l cs → NCells w (fun k => S k ∧ k < w.heap.size) l cs
  | [], cs, h => h
  | n :: l, cs, h => by
    obtain ⟨na, nc, ka, kc, cs', rfl, hn, h⟩ := h
    exact ⟨na, nc, ka, kc, cs', rfl, hn.lt, NCells.lt h⟩
theorem BoxN.grown {w w' : World} {b : Nat} {cs : List Value} {v : Value} (h : BoxN w b cs) (hg : w.grownBy w' v.ownBlock) (hb : ∀ k, v.ownBlock = some k → b < k) : BoxN w' b cs :=
  h.ext (grownBy_ext hg) (fun e => by have := hb _ e; omega)

end Go.Proofs.Ytmeobmegnneegaa

/-
  Nodes and slices of texts as data put together from parts.
-/
namespace Go.Proofs.Ytmeobmegnneegaa
open Go Go.RowKit

theorem NodeC.grow' {S : Nat → Prop} {w w' : World} {n : Nd} {na : Option Addr} {nc : Nat} {ka : Option Addr} {kc : Nat} (h : NodeC w S n na nc ka kc) (hg : Grow w w') : NodeC w' S n na nc ka kc := h.ext hg (fun _ _ h => h)

theorem Grow.toX' {X : Nat → Prop} {w w' : World} (h : Grow w w') : Ext X w w' := h.mono (fun _ h => False.elim h)
theorem Free.app2 {B : Nat} {w : World} {f g : List Nat} (hf : Free B w f) (hg : Free B w g) (hd : ∀ a, a ∈ f → a ∈ g → False) : Free B w (f ++ g) :=
  ⟨List.nodup_append.2 ⟨hf.1, hg.1, fun a ha b hb e => by subst e; exact hd a ha hb⟩, fun b hb => by
    rcases List.mem_append.1 hb with h | h
    · exact hf.2 b h
    · exact hg.2 b h⟩

def nodeRep : Rep Nd where
  n := 5
  R := fun w S x cs => ∃ na nc ka kc, cs = nodeL x na nc ka kc ∧ NodeC w S x na nc ka kc
  F := fun w x cs fp => ∃ na nc ka kc, cs = nodeL x na nc ka kc ∧ NodeF w x na nc ka kc fp
  rlen := by rintro w S x cs ⟨na, nc, ka, kc, rfl, _⟩; rfl
  flen := by rintro w x cs fp ⟨na, nc, ka, kc, rfl, _⟩; rfl
  ext := by rintro X S w w' x cs h hS ⟨na, nc, ka, kc, rfl, hn⟩; exact ⟨na, nc, ka, kc, rfl, hn.ext h hS⟩
  mono := by rintro S T w x cs h ⟨na, nc, ka, kc, rfl, hn⟩; exact ⟨na, nc, ka, kc, rfl, hn.mono h⟩
  lt := by rintro S w x cs ⟨na, nc, ka, kc, rfl, hn⟩; exact ⟨na, nc, ka, kc, rfl, hn.lt⟩
  keep := by rintro w w' x cs fp ⟨na, nc, ka, kc, rfl, hn⟩ h; exact ⟨na, nc, ka, kc, rfl, hn.keep h⟩
  toR := by rintro S w x cs fp ⟨na, nc, ka, kc, rfl, hn⟩ h; exact ⟨na, nc, ka, kc, rfl, hn.toC h⟩

end Go.Proofs.Ytmeobmegnneegaa

/-
  One element of a row that is being marked.
-/
namespace Go.Proofs.Ytmeobmegnneegaa
open Go Go.RowKit

structure Elm (wr w : World) (b p n : Nat) (cs : List Value) (G : List Nat) : Prop where
  ext : Ext (inl (b :: G)) wr w
  len : cs.length = n
  cells : ∀ i v, cs[i]? = some v → w.cell? ⟨b, p + i, none⟩ = some v
  rest : ∀ q, (q < p ∨ p + n ≤ q) → w.cell? ⟨b, q, none⟩ = wr.cell? ⟨b, q, none⟩
  fr : ∀ q, w.frozen? ⟨b, q, none⟩ = false
  lt : b < w.heap.size

theorem Elm.new {w : World} {b p n : Nat} {cs : List Value} (hc : CellsAt w b p cs) (hl : cs.length = n) (hf : ∀ q, w.frozen? ⟨b, q, none⟩ = false) (hb : b < w.heap.size) : Elm w w b p n cs [] :=
  ⟨Ext.refl _ _, hl, hc, fun _ _ => rfl, hf, hb⟩

theorem Elm.set {wr w : World} {b p n : Nat} {cs : List Value} {G : List Nat} (h : Elm wr w b p n cs G) (i : Nat) (hi : i < cs.length) (v : Value) : Elm wr (w.setCell ⟨b, p + i, none⟩ v) b p n (cs.set i v) G := by
  have h0 := h.cells i cs[i] (List.getElem?_eq_getElem hi)
  refine ⟨h.ext.setIn (p := ⟨b, p + i, none⟩) (by simp [inl]) v, by rw [List.length_set]; exact h.len, fun j u hj => ?_, fun q hq => ?_, fun q => by rw [World.frozen?_setCell]; exact h.fr q, by rw [size_setCell]; exact h.lt⟩
  · rw [cell_set h0]
    rw [List.getElem?_set] at hj
    by_cases e : j = i
    · subst e; rw [if_pos rfl]; simpa [hi] using hj
    · have hne : ¬ (⟨b, p + j, none⟩ : Addr) = ⟨b, p + i, none⟩ := by intro h'; have := congrArg Addr.off h'; simp at this; exact e this
      rw [if_neg hne]
      rw [if_neg (fun h' => e h'.symm)] at hj
      exact h.cells j u hj
  · have := h.len
    rw [set_ne _ _ _ _ _ _ (.inr (by omega))]; exact h.rest q hq
theorem Elm.sub {wr w w' : World} {b p n : Nat} {cs : List Value} {G g : List Nat} (h : Elm wr w b p n cs G) (he : Ext (inl g) w w') (hb : b ∉ g) : Elm wr w' b p n cs (G ++ g) := by
  refine ⟨(h.ext.mono (fun k hk => ?_)).trans (he.mono (fun k hk => ?_)), h.len, fun i v hi => he.some (h.cells i v hi) hb, fun q hq => ?_, fun q => ?_, Nat.lt_of_lt_of_le h.lt he.size⟩
  · simp [inl] at hk ⊢
    rcases hk with hk | hk
    · exact .inl hk
    · exact .inr (.inl hk)
  · simp [inl] at hk ⊢; exact .inr (.inr hk)
  · rw [he.cell (p := ⟨b, q, none⟩) h.lt hb]; exact h.rest q hq
  · rw [he.frozen (p := ⟨b, q, none⟩) h.lt hb]; exact h.fr q
theorem Elm.grow {wr w w' : World} {b p n : Nat} {cs : List Value} {G : List Nat} (h : Elm wr w b p n cs G) (hg : Grow w w') : Elm wr w' b p n cs G := by
  have := h.sub (g := []) (hg.toX' (X := inl [])) (by simp)
  simpa using this

section rows
variable {α : Type} {E : Rep α}

theorem RowF.split {w : World} {b : Nat} : ∀ {l m : List α} {o : Nat} {fp : List Nat}, RowF E w b o (l ++ m) fp → ∃ f g, fp = f ++ g ∧ RowF E w b o l f ∧ RowF E w b (o + l.length * E.n) m g
  | [], m, o, fp, h => ⟨[], fp, rfl, rfl, by simpa using h⟩
  | x :: l, m, o, fp, h => by
    obtain ⟨f1, f2, cs, rfl, hc, hx, hr⟩ := h
    obtain ⟨f, g, rfl, h1, h2⟩ := RowF.split hr
    rw [show o + E.n + l.length * E.n = o + (x :: l).length * E.n by simp [Nat.succ_mul]; omega] at h2
    exact ⟨f1 ++ f, g, by simp, ⟨f1, f, cs, rfl, hc, hx, h1⟩, h2⟩

end rows

end Go.Proofs.Ytmeobmegnneegaa

/-
  The walks of laws.markNode and laws.heldNode.
-/
namespace Go.Proofs.Ytmeobmegnneegaa
open Go.RowKit

end Go.Proofs.Ytmeobmegnneegaa

/-
  The walks of the laws' helpers on Entry: sizes, copies, comparisons with themselves. (Printed by wip/gentypes.py.)
-/
namespace Go.Proofs.Ytmeobmegnneegaa
open Go.RowKit

end Go.Proofs.Ytmeobmegnneegaa

/-
  The walk of markEntryS. (Printed by wip/genmark.py.)
-/
namespace Go.Proofs.Ytmeobmegnneegaa
open Go.RowKit

end Go.Proofs.Ytmeobmegnneegaa

/-
  The walks of impl.areEntries and spec.validEntries.
-/
namespace Go.Proofs.Ytmeobmegnneegaa
open Go.RowKit

end Go.Proofs.Ytmeobmegnneegaa

/-
  The order of nodes: the plain law and the walks of impl.compareValid and spec.compare.
-/
namespace Go.Proofs.Ytmeobmegnneegaa
open Go.RowKit

def sgnT (a b : ByteArray) : Int := if lt a b then -1 else if lt b a then 1 else 0

theorem sgnT_refl (a : ByteArray) : sgnT a a = 0 := by simp [sgnT, lt_irr]
theorem sgnT_zero {a b : ByteArray} : sgnT a b = 0 ↔ a = b := by
  rcases bl_cases a b with ⟨h1, h2, _, _, h3⟩ | ⟨h1, h2, _, _, h3⟩ | h
  · simp [sgnT, lt, h1, h3]
  · simp [sgnT, lt, h1, h2, h3]
  · subst h; simp [sgnT_refl]

theorem compareBytes_bl : ∀ a b : List UInt8, Lib.compareBytes a b = if Op.bytesLess a b then -1 else if Op.bytesLess b a then 1 else 0
  | [], [] => rfl
  | [], _ :: _ => rfl
  | _ :: _, [] => rfl
  | x :: a, y :: b => by
    have ih := compareBytes_bl a b
    simp only [Lib.compareBytes, Op.bytesLess]
    rcases (show x.toNat < y.toNat ∨ x.toNat = y.toNat ∨ y.toNat < x.toNat from by omega) with h | h | h
    · have h1 : x < y := UInt8.lt_iff_toNat_lt.2 h
      simp [h1]
    · have h3 : x = y := UInt8.toNat_inj.1 h
      subst h3
      have h1 : ¬ x < x := fun h' => by have := UInt8.lt_iff_toNat_lt.1 h'; omega
      simp [h1, ih]
    · have h1 : y < x := UInt8.lt_iff_toNat_lt.2 h
      have h2 : ¬ x < y := fun h' => by have := UInt8.lt_iff_toNat_lt.1 h'; omega
      have h3 : ¬ x = y := fun e => by subst e; omega
      simp [h1, h2, h3]

theorem run_cmpstring (a b : ByteArray) (w : World) :
    (callFunc 140 #[.string a, .string b]).run Try.prog w = .ok (.value (.int .i64 (sgnT a b))) w := by
  rw [run_callFunc_extern (P := Try.prog) (f := 140) (fn := Try.f140) (e := Extern.BytealgCompare.compare) (by kernel_rfl) (by kernel_rfl) (by kernel_rfl) (by kernel_rfl) (by kernel_rfl)]
  rw [Lib.run_compareString, compareBytes_bl]
  simp only [← ByteArray.toList_eq]
  rfl

theorem stringsCompare_ok (a b : ByteArray) (w : World) : Calls Try.prog 125 #[.string a, .string b] w fun e w' => e = .returned (.int .i64 (sgnT a b)) ∧ w' = w := by
  have hx := run_cmpstring a b w
  have h2 : Calls Try.prog 134 #[.string a, .string b] w fun e w' => e = .returned (.int .i64 (sgnT a b)) ∧ w' = w := by
    go_enter Try.func134, Try.ntmps134
    go_wp2
    go_ret
    exact ⟨by simp, rfl⟩
  clear hx
  go_enter Try.func125, Try.ntmps125
  go_wp2_with fail
  refine h2.mono ?_
  rintro e w' ⟨rfl, rfl⟩
  go_wp2_with fail
  go_ret
  exact ⟨by simp, rfl⟩

end Go.Proofs.Ytmeobmegnneegaa

/-
  The order of nodes, and the walks of impl.compareValid and spec.compare.
-/
namespace Go.Proofs.Ytmeobmegnneegaa
open Go.RowKit

end Go.Proofs.Ytmeobmegnneegaa

/-
  The walk of spec.compare.
-/
namespace Go.Proofs.Ytmeobmegnneegaa
open Go.RowKit

end Go.Proofs.Ytmeobmegnneegaa

/-
  The walks of impl.FindRange and spec.FindRange.
-/
namespace Go.Proofs.Ytmeobmegnneegaa
open Go.RowKit

def OwnS (w w' : World) (xs : List ByteArray) (v : Value) : Prop := ∃ a c fp, v = .slice a xs.length c ∧ StrsF w' a c xs fp ∧ Free w.heap.size w' fp
theorem OwnS.nil (w w' : World) : OwnS w w' [] (.slice none 0 0) := ⟨none, 0, [], rfl, ⟨Nat.le_refl _, Nat.zero_le _, by simp, .inl ⟨rfl, rfl⟩⟩, Free.nil _ _⟩
theorem OwnS.grow {w w' w'' : World} {xs : List ByteArray} {v : Value} (h : OwnS w w' xs v) (hg : Grow w' w'') : OwnS w w'' xs v := by
  obtain ⟨a, c, fp, hv, h1, h2⟩ := h
  exact ⟨a, c, fp, hv, h1.keep (hg.keeps h2 (fun _ _ h => h)), h2.ext hg (fun _ _ h => h)⟩
theorem Free.down {B B' : Nat} {w : World} {fp : List Nat} (h : Free B w fp) (hb : B' ≤ B) : Free B' w fp := ⟨h.1, fun y hy => ⟨Nat.le_trans hb (h.2 y hy).1, (h.2 y hy).2⟩⟩
theorem OwnS.row {w w' : World} {B : Nat} {T : TypeId} {v : Value} {n : Nat} {xs : List ByteArray} (hB : w.heap.size ≤ B) (h : w'.ownsRow B T 1 v n (xs.map Value.string)) (hx : ∀ x ∈ xs, x.size ≤ big) : OwnS w w' xs v := by
  obtain ⟨a, c, fp, hv, h1, h2, _⟩ := strs_of_row h hx
  exact ⟨a, c, fp, hv, h1, h2.down hB⟩
end Go.Proofs.Ytmeobmegnneegaa

/-
  How many marks a value takes, and blocks that lie between two bounds.
-/
namespace Go.Proofs.Ytmeobmegnneegaa
open Go.RowKit

def Seg (A Z : Nat) (w : World) (fp : List Nat) : Prop := Free A w fp ∧ ∀ y ∈ fp, y < Z
theorem Seg.of {A : Nat} {w : World} {fp : List Nat} (h : Free A w fp) : Seg A w.heap.size w fp := ⟨h, fun y hy => (h.2 y hy).2.1⟩
theorem Seg.grow {A Z : Nat} {w w' : World} {fp : List Nat} (h : Seg A Z w fp) (hg : Grow w w') : Seg A Z w' fp := ⟨h.1.ext hg (fun _ _ h => h), h.2⟩
theorem Seg.off {A Z A' Z' : Nat} {w w0 : World} {fp fx : List Nat} (h : Seg A Z w fp) (hx : Seg A' Z' w0 fx) (hd : Z ≤ A' ∨ Z' ≤ A) : ∀ y ∈ fp, ¬ inl fx y := fun y hy h2 => by
  have h3 := h.2 y hy
  have h4 := (h.1.2 y hy).1
  have h5 := hx.2 y h2
  have h6 := (hx.1.2 y h2).1
  omega
theorem Seg.ext {A Z A' Z' : Nat} {w w' w0 : World} {fp fx : List Nat} (h : Seg A Z w fp) (hx : Seg A' Z' w0 fx) (hd : Z ≤ A' ∨ Z' ≤ A) (he : Ext (inl fx) w w') : Seg A Z w' fp := ⟨h.1.ext he (h.off hx hd), h.2⟩
theorem Seg.keeps {A Z A' Z' : Nat} {w w' w0 : World} {fp fx : List Nat} (h : Seg A Z w fp) (hx : Seg A' Z' w0 fx) (hd : Z ≤ A' ∨ Z' ≤ A) (he : Ext (inl fx) w w') : ∀ b ∈ fp, ∀ o, w'.cell? ⟨b, o, none⟩ = w.cell? ⟨b, o, none⟩ := he.keeps h.1 (h.off hx hd)
theorem Seg.inner {A Z : Nat} {w0 w w' : World} {fp : List Nat} (h : Seg A Z w fp) (hg : Grow w0 w) (he : Ext (inl fp) w w') (hA : w0.heap.size ≤ A) : Grow w0 w' :=
  hg.inner he (fun i hi => Nat.le_trans hA (h.1.2 i hi).1)
theorem Seg.box {A Z b : Nat} {w0 w w' : World} {fp : List Nat} {cs : List Value} (h : Seg A Z w0 fp) (hB : BoxN w b cs) (he : Ext (inl fp) w w') (hd : b < A ∨ Z ≤ b) : BoxN w' b cs :=
  hB.ext he (fun hi => by have h3 := h.2 b hi; have h4 := (h.1.2 b hi).1; omega)
theorem Seg.below {A Z : Nat} {w0 w w' : World} {fp : List Nat} {a : Option Addr} {c Y : Nat} {xs : List ByteArray} (h : Seg A Z w0 fp) (hs : StrsR w (fun k => k < Y) a c xs) (he : Ext (inl fp) w w') (hd : Y ≤ A) : StrsR w' (fun k => k < Y) a c xs :=
  hs.ext he (fun k hk hi => by have h4 := (h.1.2 k hi).1; omega)
end Go.Proofs.Ytmeobmegnneegaa

/-
  Data and their values: one form for all types; the laws' helpers on rows of texts and on nodes in that form.
-/
namespace Go.Proofs.Ytmeobmegnneegaa
open Go.RowKit

def packA (cs : List Value) : Value := .agg cs.toArray
def RV {α : Type} (E : Rep α) (pk : List Value → Value) (w : World) (S : Nat → Prop) (x : α) (v : Value) : Prop := ∃ cs, v = pk cs ∧ E.R w S x cs
def FV {α : Type} (E : Rep α) (pk : List Value → Value) (w : World) (x : α) (v : Value) (fp : List Nat) : Prop := ∃ cs, v = pk cs ∧ E.F w x cs fp

section
variable {α : Type} {E : Rep α} {pk : List Value → Value}
theorem RV.ext {X S : Nat → Prop} {w w' : World} {x : α} {v : Value} (h : RV E pk w S x v) (he : Ext X w w') (hS : ∀ k, S k → ¬ X k) : RV E pk w' S x v := by
  obtain ⟨cs, hv, hc⟩ := h; exact ⟨cs, hv, E.ext he hS hc⟩
theorem RV.grow {S : Nat → Prop} {w w' : World} {x : α} {v : Value} (h : RV E pk w S x v) (hg : Grow w w') : RV E pk w' S x v := h.ext hg (fun _ _ h => h)
theorem RV.mono {S T : Nat → Prop} {w : World} {x : α} {v : Value} (h : RV E pk w S x v) (hS : ∀ k, S k → T k) : RV E pk w T x v := by
  obtain ⟨cs, hv, hc⟩ := h; exact ⟨cs, hv, E.mono hS hc⟩
theorem RV.any {S : Nat → Prop} {w : World} {x : α} {v : Value} (h : RV E pk w S x v) : RV E pk w any x v := h.mono (fun _ _ => trivial)
theorem FV.keep {w w' : World} {x : α} {v : Value} {fp : List Nat} (h : FV E pk w x v fp) (hk : ∀ b ∈ fp, ∀ o, w'.cell? ⟨b, o, none⟩ = w.cell? ⟨b, o, none⟩) : FV E pk w' x v fp := by
  obtain ⟨cs, hv, hc⟩ := h; exact ⟨cs, hv, E.keep hc hk⟩
theorem FV.grow {w w' : World} {x : α} {v : Value} {fp : List Nat} {A Z : Nat} (h : FV E pk w x v fp) (hs : Seg A Z w fp) (hg : Grow w w') : FV E pk w' x v fp := h.keep (hg.keeps hs.1 (fun _ _ h => h))
end

end Go.Proofs.Ytmeobmegnneegaa

/-
  The walks of the laws' helpers on Item: sizes, copies, comparisons with themselves. (Printed by wip/gentypes.py.)
-/
namespace Go.Proofs.Ytmeobmegnneegaa
open Go.RowKit

abbrev Itm := ByteArray × Int × Nd
def itmRep : Rep Itm := pairRep strRep (pairRep intRep (nodeRep))
theorem itmRep_n : itmRep.n = 7 := rfl
def itmL (x : Itm) (na2 : Option Addr) (nc2 : Nat) (ka2 : Option Addr) (kc2 : Nat) : List Value := [.string x.1, .int .i64 x.2.1, .int .i64 x.2.2.kind, .int .i64 x.2.2.num, .string x.2.2.text, .slice na2 x.2.2.names.length nc2, .slice ka2 x.2.2.kids.length kc2]
theorem itmRep_open {w : World} {S : Nat → Prop} {x : Itm} {cs : List Value} (h : itmRep.R w S x cs) : ∃ (na2 : Option Addr) (nc2 : Nat) (ka2 : Option Addr) (kc2 : Nat), cs = itmL x na2 nc2 ka2 kc2 ∧ x.1.size ≤ big ∧ NodeC w S x.2.2 na2 nc2 ka2 kc2 := by
  obtain ⟨_, _, rfl, ⟨rfl, h0⟩, ⟨_, _, rfl, rfl, ⟨na2, nc2, ka2, kc2, rfl, h2⟩⟩⟩ := h
  exact ⟨na2, nc2, ka2, kc2, rfl, h0, h2⟩

theorem itmRep_openF {w : World} {x : Itm} {cs : List Value} {fp : List Nat} (h : itmRep.F w x cs fp) : ∃ (na2 : Option Addr) (nc2 : Nat) (ka2 : Option Addr) (kc2 : Nat), cs = itmL x na2 nc2 ka2 kc2 ∧ x.1.size ≤ big ∧ True := by
  obtain ⟨_, _, _, _, rfl, _, ⟨rfl, h0, _⟩, ⟨_, _, _, _, rfl, _, ⟨rfl, _⟩, ⟨na2, nc2, ka2, kc2, rfl, h2⟩⟩⟩ := h
  exact ⟨na2, nc2, ka2, kc2, rfl, h0, trivial⟩

end Go.Proofs.Ytmeobmegnneegaa

/-
  The walks of the laws' copies of Item. (Printed by wip/gento.py.)
-/
namespace Go.Proofs.Ytmeobmegnneegaa
open Go.RowKit

end Go.Proofs.Ytmeobmegnneegaa

/-
  The walks of what makes names, pointers and tags valid.
-/
namespace Go.Proofs.Ytmeobmegnneegaa
open Go.RowKit

def nameC (c : UInt8) : Bool := inR c.toNat 97 122 || inR c.toNat 48 57
def nameB (s : ByteArray) : Bool := decide (1 ≤ s.size) && decide (s.size ≤ 8) && s.data.toList.all nameC
theorem inR_cases (c a b : Int) : (c < a ∧ inR c a b = false) ∨ (b < c ∧ inR c a b = false) ∨ (a ≤ c ∧ c ≤ b ∧ inR c a b = true) := by
  by_cases h1 : c < a
  · exact .inl ⟨h1, by simp [inR]; omega⟩
  · by_cases h2 : b < c
    · exact .inr (.inl ⟨h2, by simp [inR]; omega⟩)
    · exact .inr (.inr ⟨by omega, by omega, by simp [inR]; omega⟩)

theorem all_end {p : UInt8 → Bool} (s : ByteArray) (k : Nat) (h : ¬ k < s.size) (hk : k ≤ s.size) (h1 : (s.data.toList.take k).all p = true) : s.data.toList.all p = true := by
  have : k = s.data.toList.length := by simp; omega
  rwa [this, List.take_length] at h1

set_option maxHeartbeats 1000000 in
theorem isName_ok (s : ByteArray) (w : World) (hs : s.size ≤ big) :
    Calls Try.prog 77 #[.string s] w fun e w' => e = .returned (.bool (nameB s)) ∧ w = w' := by
  unfold big at hs
  by_cases h0 : s.size = 0
  · have he : s.toList.isEmpty = true := by rw [ByteArray.toList_eq]; simp; exact ByteArray.size_eq_zero_iff.1 h0 ▸ rfl
    have Hf : Hid (nameB s = false) := Lib.hid (by simp [nameB, h0])
    clear h0
    go_enter Try.func77, Try.ntmps77
    go_wp2
    go_ret
    exact ⟨by simp [Hf.out], rfl⟩
  have he : s.toList.isEmpty = false := by
    rw [ByteArray.toList_eq, List.isEmpty_eq_false_iff]
    intro h
    have : s.data.toList.length = 0 := by rw [h]; rfl
    exact h0 (by simpa using this)
  have h0 : 1 ≤ s.size := by omega
  by_cases h8 : 8 < s.size
  · have Hf : Hid (nameB s = false) := Lib.hid (by simp [nameB]; omega)
    go_enter Try.func77, Try.ntmps77
    go_wp2
    go_ret
    exact ⟨by simp [Hf.out], rfl⟩
  · have h8' : s.size ≤ 8 := by omega
    clear h8
    go_enter Try.func77, Try.ntmps77
    go_wp2
    go_loop [2, 3] (fun n i => n = .bool false ∧ ∃ k : Nat, k ≤ s.size ∧ i = .int .i64 k ∧ Hid ((s.data.toList.take k).all nameC = true)) (fun _ i => s.size - (intOf i).toNat)
    case atStart => exact ⟨rfl, 0, Nat.zero_le _, rfl, Lib.hid rfl⟩
    case round =>
      obtain ⟨rfl, k, hk, rfl, Hall⟩ := hrel
      by_cases hlt : k < s.size
      · have fin0 : inR (s[k].toNat : Int) 97 122 = false → inR (s[k].toNat : Int) 48 57 = false → nameB s = false := fun h1 h2 => by
          have := all_stop s k hlt (p := nameC) (by simp [nameC, h1, h2])
          simp [nameB, this]
        have fin1 : (inR (s[k].toNat : Int) 97 122 = true ∨ inR (s[k].toNat : Int) 48 57 = true) → (s.data.toList.take (k + 1)).all nameC = true := fun h => all_step s k hlt Hall.out (by rcases h with h | h <;> simp [nameC, h])
        have Fin0 := Lib.hid fin0
        have Fin1 := Lib.hid fin1
        clear fin0 fin1
        rcases inR_cases (s[k].toNat : Int) 97 122 with ⟨a1, a2⟩ | ⟨a1, a2⟩ | ⟨a1, a1', a2⟩
        · rcases inR_cases (s[k].toNat : Int) 48 57 with ⟨b1, b2⟩ | ⟨b1, b2⟩ | ⟨b1, b1', b2⟩
          · have Hf := Lib.hid (Fin0.out a2 b2)
            clear a2 b2
            go_wp2
            go_ret
            exact ⟨by simp [Hf.out], rfl⟩
          · have Hf := Lib.hid (Fin0.out a2 b2)
            clear a2 b2
            go_wp2
            go_ret
            exact ⟨by simp [Hf.out], rfl⟩
          · have Hf := Lib.hid (Fin1.out (.inr b2))
            clear a2 b2
            go_wp2
            go_round
            case rel => exact ⟨rfl, k + 1, by omega, by go_num, Hf⟩
            case measure => simp [intOf]; omega
        · have b1 : 57 < (s[k].toNat : Int) := by omega
          have Hf := Lib.hid (Fin0.out a2 (by simp [inR]; omega))
          clear a2
          go_wp2
          go_ret
          exact ⟨by simp [Hf.out], rfl⟩
        · have Hf := Lib.hid (Fin1.out (.inl a2))
          clear a2
          go_wp2
          go_round
          case rel => exact ⟨rfl, k + 1, by omega, by go_num, Hf⟩
          case measure => simp [intOf]; omega
      · have Hf : Hid (nameB s = true) := Lib.hid (by simp [nameB, all_end s k hlt hk Hall.out]; omega)
        go_wp2
        go_ret
        exact ⟨by simp [Hf.out], rfl⟩

set_option maxHeartbeats 1000000 in
theorem validName_ok (s : ByteArray) (w : World) (hs : s.size ≤ big) :
    Calls Try.prog 71 #[.string s] w fun e w' => e = .returned (.bool (nameB s)) ∧ w = w' := by
  unfold big at hs
  go_enter Try.func71, Try.ntmps71
  go_wp2
  go_loop [2, 3] (fun n i => n = .bool false ∧ ∃ k : Nat, k ≤ s.size ∧ i = .int .i64 k ∧ Hid ((s.data.toList.take k).all nameC = true)) (fun _ i => s.size - (intOf i).toNat)
  case atStart => exact ⟨rfl, 0, Nat.zero_le _, rfl, Lib.hid rfl⟩
  case round =>
    obtain ⟨rfl, k, hk, rfl, Hall⟩ := hrel
    by_cases hlt : k < s.size
    · have hby := byte_lt s[k]
      cases a2 : inR (s[k].toNat : Int) 97 122
      · cases b2 : inR (s[k].toNat : Int) 48 57
        · have Hf : Hid (nameB s = false) := Lib.hid (by
            have := all_stop s k hlt (p := nameC) (by simp [nameC, a2, b2])
            simp [nameB, this])
          go_wp2_with (go_at_call 95; refine (inRange_ok _ _ _ _).mono ?_; rintro e w' ⟨rfl, rfl⟩)
          go_ret
          exact ⟨by simp [Hf.out], rfl⟩
        · have Hf := Lib.hid (all_step s k hlt Hall.out (p := nameC) (by simp [nameC, b2]))
          go_wp2_with (go_at_call 95; refine (inRange_ok _ _ _ _).mono ?_; rintro e w' ⟨rfl, rfl⟩)
          go_round
          case rel => exact ⟨rfl, k + 1, by omega, by go_num, Hf⟩
          case measure => simp [intOf]; omega
      · have Hf := Lib.hid (all_step s k hlt Hall.out (p := nameC) (by simp [nameC, a2]))
        go_wp2_with (go_at_call 95; refine (inRange_ok _ _ _ _).mono ?_; rintro e w' ⟨rfl, rfl⟩)
        go_round
        case rel => exact ⟨rfl, k + 1, by omega, by go_num, Hf⟩
        case measure => simp [intOf]; omega
    · have Hf : Hid (nameB s = inR s.size 1 8) := Lib.hid (by rw [Bool.eq_iff_iff]; simp [nameB, all_end s k hlt hk Hall.out, inR]; omega)
      go_wp2_with (go_at_call 95; refine (inRange_ok _ _ _ _).mono ?_; rintro e w' ⟨rfl, rfl⟩)
      go_ret
      exact ⟨by simp [Hf.out], rfl⟩

end Go.Proofs.Ytmeobmegnneegaa

/-
  Stores as data: how they lie in memory, when they are valid.
-/
namespace Go.Proofs.Ytmeobmegnneegaa
open Go.RowKit

abbrev Sto := List Itm × Int
theorem itmRep_pos : 0 < itmRep.n := by rw [itmRep_n]; omega
def stoRep : Rep Sto := pairRep (slRep itmRep itmRep_pos) intRep
def stoV (s : Sto) (a : Option Addr) (c : Nat) : Value := .agg #[.slice a s.1.length c, .int .i64 s.2]
theorem sto_open {w : World} {S : Nat → Prop} {s : Sto} {v : Value} (h : RV stoRep packA w S s v) : ∃ a c, v = stoV s a c ∧ SlR itmRep w S a c s.1 := by
  obtain ⟨cs, rfl, _, _, rfl, ⟨a, c, rfl, h⟩, rfl⟩ := h; exact ⟨a, c, rfl, h⟩
theorem sto_shut {w : World} {S : Nat → Prop} {s : Sto} {a : Option Addr} {c : Nat} (h : SlR itmRep w S a c s.1) : RV stoRep packA w S s (stoV s a c) := ⟨_, rfl, _, _, rfl, ⟨a, c, rfl, h⟩, rfl⟩
def itmB (clock : Int) (x : Itm) : Bool := nameB x.1 && inR x.2.1 1 clock && validB x.2.2
def itmsFrom (clock : Int) : Option ByteArray → List Itm → Bool
  | _, [] => true
  | p, x :: r => (match p with | none => true | some y => lt y x.1) && itmB clock x && itmsFrom clock (some x.1) r
def itmsAt (clock : Int) (l : List Itm) (k : Nat) : Bool := itmsFrom clock (if k = 0 then none else (l[k - 1]?).map (·.1)) (l.drop k)
def itmsB (clock : Int) (l : List Itm) : Bool := itmsFrom clock none l
def storeB (s : Sto) : Bool := decide (s.1.length ≤ 10) && inR s.2 0 999 && itmsB s.2 s.1
theorem itmsAt_zero (clock : Int) (l : List Itm) : itmsAt clock l 0 = itmsB clock l := by simp [itmsAt, itmsB]
theorem itmsAt_end (clock : Int) (l : List Itm) (k : Nat) (h : ¬ k < l.length) : itmsAt clock l k = true := by
  unfold itmsAt; rw [List.drop_eq_nil_of_le (by omega)]; cases k <;> simp [itmsFrom]
theorem itmsAt_first (clock : Int) (l : List Itm) (h : 0 < l.length) : itmsAt clock l 0 = (itmB clock l[0] && itmsAt clock l 1) := by
  unfold itmsAt; rw [drop_cons l 0 h]; simp [itmsFrom, h]
theorem itmsAt_next (clock : Int) (l : List Itm) (k : Nat) (h : k < l.length) (h0 : 0 < k) : itmsAt clock l k = (lt l[k - 1].1 l[k].1 && itmB clock l[k] && itmsAt clock l (k + 1)) := by
  unfold itmsAt
  rw [drop_cons l k h, if_neg (by omega), List.getElem?_eq_getElem (by omega)]
  simp [itmsFrom, h]
theorem itmsAt_bad {clock : Int} {l : List Itm} {k : Nat} (h : k < l.length) (hb : itmB clock l[k] = false ∨ (0 < k ∧ lt (l[k - 1]'(by omega)).1 l[k].1 = false)) : itmsAt clock l k = false := by
  rcases Nat.eq_zero_or_pos k with rfl | h0
  · rcases hb with hb | ⟨hb, _⟩
    · rw [itmsAt_first _ _ h, hb]; rfl
    · omega
  · rw [itmsAt_next _ _ _ h h0]
    rcases hb with hb | ⟨_, hb⟩
    · rw [hb]; simp
    · rw [hb]; simp
theorem itmsAt_good {clock : Int} {l : List Itm} {k : Nat} (h : k < l.length) (hb : itmB clock l[k] = true) (ho : ∀ _ : 0 < k, lt (l[k - 1]'(by omega)).1 l[k].1 = true) : itmsAt clock l k = itmsAt clock l (k + 1) := by
  rcases Nat.eq_zero_or_pos k with rfl | h0
  · rw [itmsAt_first _ _ h, hb]; rfl
  · rw [itmsAt_next _ _ _ h h0, hb, ho h0]; simp
theorem itmsFrom_all {clock : Int} : ∀ {p : Option ByteArray} {l : List Itm}, itmsFrom clock p l = true → ∀ x ∈ l, itmB clock x = true
  | _, [], _, x, hx => by cases hx
  | p, y :: r, h, x, hx => by
    unfold itmsFrom at h
    simp only [Bool.and_eq_true] at h
    rcases List.mem_cons.1 hx with rfl | hx
    · exact h.1.2
    · exact itmsFrom_all h.2 x hx
theorem lt_trans {a b c : ByteArray} (h1 : lt a b = true) (h2 : lt b c = true) : lt a c = true := bl_trans _ _ _ h1 h2
theorem itmsFrom_asc {clock : Int} : ∀ {p : Option ByteArray} {l : List Itm}, itmsFrom clock p l = true → (l.map (·.1)).Pairwise (fun a b => lt a b = true) ∧ ∀ y, p = some y → ∀ x ∈ l, lt y x.1 = true
  | _, [], _ => ⟨List.Pairwise.nil, fun _ _ x hx => by cases hx⟩
  | p, y :: r, h => by
    unfold itmsFrom at h
    simp only [Bool.and_eq_true] at h
    obtain ⟨i1, i2⟩ := itmsFrom_asc h.2
    refine ⟨List.Pairwise.cons (fun z hz => ?_) i1, ?_⟩
    · obtain ⟨x, hx, rfl⟩ := List.mem_map.1 hz
      exact i2 _ rfl x hx
    · rintro q rfl x hx
      have h0 : lt q y.1 = true := h.1.1
      rcases List.mem_cons.1 hx with rfl | hx
      · exact h0
      · exact lt_trans h0 (i2 _ rfl x hx)
theorem storeB_parts {s : Sto} (h : storeB s = true) : s.1.length ≤ 10 ∧ 0 ≤ s.2 ∧ s.2 ≤ 999 ∧ (∀ x ∈ s.1, itmB s.2 x = true) ∧ (s.1.map (·.1)).Pairwise (fun a b => lt a b = true) := by
  unfold storeB inR at h
  simp only [Bool.and_eq_true, decide_eq_true_eq] at h
  exact ⟨h.1.1, h.1.2.1, h.1.2.2, itmsFrom_all h.2, (itmsFrom_asc h.2).1⟩

end Go.Proofs.Ytmeobmegnneegaa

/-
  Documents and stores as values told without memory.
-/
namespace Go.Proofs.Ytmeobmegnneegaa.Eng
open Go Go.RowKit

def itemL (x : Itm) : List AV := .str x.1 :: .int .i64 x.2.1 :: nodeL x.2.2
def itemA (x : Itm) : AV := .agg (itemL x)
theorem itemL_eq (x : Itm) : itemL x = [.str x.1, .int .i64 x.2.1, .int .i64 x.2.2.kind, .int .i64 x.2.2.num, .str x.2.2.text, .view .loose 1 (strsE x.2.2.names), .view .loose 5 (x.2.2.kids.map nodeL)] := by unfold itemL; rw [nodeL_eq]
theorem itemL_pur (x : Itm) : ∀ c ∈ itemL x, Pur c := by
  intro c hc
  simp only [itemL, List.mem_cons] at hc
  rcases hc with rfl | rfl | hc
  · exact pur_str
  · exact pur_int
  · exact nodeL_pur _ c hc
theorem itemL_in {U : Nat → Bool} (x : Itm) : ∀ c ∈ itemL x, AV.In U c := by
  intro c hc
  simp only [itemL, List.mem_cons] at hc
  rcases hc with rfl | rfl | hc
  · exact in_str
  · exact in_int
  · exact nodeL_in _ c hc
theorem item_pur (x : Itm) : Pur (itemA x) := pur_agg (itemL_pur x)
theorem item_clo (x : Itm) : Clo (itemA x) := (item_pur x).clo
theorem item_in {U : Nat → Bool} (x : Itm) : AV.In U (itemA x) := in_agg.2 (itemL_in x)
theorem itemsE_pur (l : List Itm) : ∀ e ∈ l.map itemL, ∀ c ∈ e, Pur c := fun e he c hc => by
  obtain ⟨k, _, rfl⟩ := List.mem_map.1 he
  exact itemL_pur k c hc
theorem itemsE_clo (l : List Itm) : ∀ e ∈ l.map itemL, ∀ c ∈ e, Clo c := fun e he c hc => (itemsE_pur l e he c hc).clo
theorem itemsE_in {U : Nat → Bool} (l : List Itm) : ∀ e ∈ l.map itemL, ∀ c ∈ e, AV.In U c := fun e he c hc => by
  obtain ⟨k, _, rfl⟩ := List.mem_map.1 he
  exact itemL_in k c hc
theorem items_pur {t : VC} (l : List Itm) (ht : t ≠ .lent) : Pur (.view t 7 (l.map itemL)) := pur_view ht (itemsE_pur l)
theorem items_clo {t : VC} (l : List Itm) : Clo (.view t 7 (l.map itemL)) := clo_view (itemsE_clo l)
theorem items_in {U : Nat → Bool} {t : VC} (l : List Itm) : AV.In U (.view t 7 (l.map itemL)) := in_view.2 (itemsE_in l)
theorem itemL_sub {id m : Nat} {c : AV} (x : Itm) : AV.subL id m c (itemL x) = itemL x := by rw [itemL_eq]; simp [AV.subL, AV.sub]
theorem itemsE_sub {id m : Nat} {c : AV} (l : List Itm) : (l.map itemL).map (AV.subL id m c) = l.map itemL := by
  rw [List.map_map]; exact List.map_congr_left (fun k _ => itemL_sub k)

def storeT (t : VC) (s : Sto) : AV := .agg [.view t 7 (s.1.map itemL), .int .i64 s.2]
def storeA (s : Sto) : AV := storeT .loose s
theorem store_clo (t : VC) (s : Sto) : Clo (storeT t s) := clo_agg (by
  simp only [List.forall_mem_cons, List.not_mem_nil, false_implies, implies_true, and_true]
  exact ⟨items_clo _, clo_int⟩)
theorem store_pur {t : VC} (s : Sto) (h : t ≠ .lent) : Pur (storeT t s) := pur_agg (by
  simp only [List.forall_mem_cons, List.not_mem_nil, false_implies, implies_true, and_true]
  exact ⟨items_pur _ h, pur_int⟩)
theorem storeA_pur (s : Sto) : Pur (storeA s) := store_pur s (by decide)
theorem storeA_clo (s : Sto) : Clo (storeA s) := store_clo .loose s
theorem store_in {U : Nat → Bool} (t : VC) (s : Sto) : AV.In U (storeT t s) := in_agg.2 (by
  simp only [List.forall_mem_cons, List.not_mem_nil, false_implies, implies_true, and_true]
  exact ⟨items_in _, in_int⟩)
theorem storeA_in {U : Nat → Bool} (s : Sto) : AV.In U (storeA s) := store_in .loose s
def storeO (s : Sto) (id : Nat) : AV := .agg [.own id s.1.length, .int .i64 s.2]
def itemsRow (s : Sto) : Row := ⟨false, 62, 7, s.1.map itemL⟩
theorem storeO_res (s : Sto) (id0 : Nat) : Res1 id0 (storeO s) := Res1.agg [fun id => .own id s.1.length, fun _ => .int .i64 s.2] (by
  simp only [List.forall_mem_cons, List.not_mem_nil, false_implies, implies_true, and_true]
  exact ⟨Res1.own _ _, Res1.pur _ pur_int⟩)
theorem storeO_sub (s : Sto) : AV.sub 0 (itemsRow s).es.length (.view .loose (itemsRow s).sz (itemsRow s).es) (storeO s 0) = storeA s := by
  simp [storeO, storeA, storeT, itemsRow, AV.sub, AV.subL]
def SR1 (p : Sto → Prop) (f : Nat → AV) (R : Row) : Prop := ∃ s, p s ∧ f = storeO s ∧ R = itemsRow s
theorem AC.ofS {P : Program} {f : FuncId} {args : List AV} {c : Nat} {p : Sto → Prop} (h : ACR P f args c (fun _ => False) (SR1 p)) : AC P f args c (fun r => ∃ s, p s ∧ r = storeA s) := by
  refine (AC.ofR h ?_).mono ?_
  · rintro r R ⟨n, _, rfl, rfl⟩
    rw [storeO_sub]; exact storeA_in n
  · rintro r (h | ⟨f, R, ⟨n, h1, rfl, rfl⟩, rfl⟩)
    · exact h.elim
    · rw [storeO_sub]; exact ⟨n, h1, rfl⟩

def SmlS (s : Sto) : Prop := s.1.length ≤ 1000 ∧ ∀ x ∈ s.1, Sml x.2.2
end Go.Proofs.Ytmeobmegnneegaa.Eng

/-
  spec.copyStore, spec.find.
-/
-- EV: store
namespace Go.Proofs.Ytmeobmegnneegaa.Eng
open Go Go.RowKit
attribute [local simp] big size_mk ASt.pay Option.map_map Function.comp_def awant aop acall ado aev ofVal ofVal0 ASt.put ASt.add ASt.turn ASt.kill abox aalloc astore aload ASt.at cellsTo afieldAddr afield aindexAddr aindex alen abin aint acmp astr aun apick aextract anil aslice abound abuild afill abuildSlice asCells aps avCells over upd aappend asrc amax amin aconv mkSt slots rowsOf_cons rowsOf_nil usedOf_cons usedOf_nil ZK.av List.replicate nodeA nodeT nodeTL_eq nodeL_eq strsE_get strsE_len intsE_get intsE_len strsE_at intsE_at itemA itemL_eq storeA storeT storeO itemsRow tab2 tab3 tab4 tab5 tab6 tab7 tab8 tab9 tab10 tab11 tab12 tab13 tab14 tab15 tab16 tab17 tab18 tab19 tab21 tab22 tab23 tab24 tab25 tab26 tab27 tab28 tab31 tab32 tab33 tab37 tab38 tab39 tab46 tab53 tab61 tab62 tab69 tab70 tab98 tab116 tab117 tab125 tab126 tab128 tab136 tab145 tab146 tab151 tab152 tab153 tab155 tab156 tab157

set_option linter.unusedSimpArgs false
set_option maxRecDepth 100000 in
set_option maxHeartbeats 8000000 in
theorem copyStore_ACR (t : VC) (s : Sto) (hs : SmlS s) : ACR Try.prog 100 [storeT t s] 0 (fun _ => False) (fun f R => f = storeO s ∧ R = itemsRow s) := by
  obtain ⟨hs1, hs2⟩ := hs
  unfold storeT
  refine ACR.of tab_ok mixed_ok Try.func100 (by rfl) (by kernel_rfl) ?_; rintro ⟨P, T, hT, hm, w0, S0, rd0, k0⟩ hP hTT; dsimp only at hP hTT; subst hP hTT; unfold initSt; rw [Try.ntmps100]
  (repeat (first | with_reducible refine AW.seq ?_ | (refine arun_kn 4 rfl (fun C hC => ?_); ((repeat ((conv => whnf); simp)); refine hC _ ?_; clear hC C; simp only [List.drop_succ_cons, List.drop_zero, List.drop_nil, Nat.reduceAdd])) | (refine arun_kn 1 rfl (fun C hC => ?_); ((repeat ((conv => whnf); simp)); refine hC _ ?_; clear hC C; simp only [List.drop_succ_cons, List.drop_zero, List.drop_nil, Nat.reduceAdd])) | (refine arun_skip ?_ ?_; (focus (simp [awant]; done))) | (refine arunD_kn 4 rfl (fun C hC => ?_); ((repeat ((conv => whnf); simp)); refine hC _ ?_; clear hC C; simp only [List.drop_succ_cons, List.drop_zero, List.drop_nil, Nat.reduceAdd])) | (refine arunD_kn 1 rfl (fun C hC => ?_); ((repeat ((conv => whnf); simp)); refine hC _ ?_; clear hC C; simp only [List.drop_succ_cons, List.drop_zero, List.drop_nil, Nat.reduceAdd])) | (refine arun_nil ?_; (refine hK _ ?_; clear hK K; simp only [thenA_normal, inBlockA_normal, endQ_normal, endR_normal])) | (refine arunD_nil ?_; (refine hK _ ?_; clear hK K; simp only [thenA_normal, inBlockA_normal, endQ_normal, endR_normal])) | (refine AW.regionK [] (fun K hK => ?_)) | (refine AW.regionDK [] (pcs [] []) (by kernel_rfl) (by kernel_rfl) (fun K hK => ?_)) | (refine AW.condT ?_ ?_; (focus (simp [aev]; done))) | (refine AW.condF ?_ ?_; (focus (simp [aev]; done))) | (refine AW.skip ?_; simp only [thenA_normal, inBlockA_normal]) | with_reducible refine AW.block ?_ | (refine AW.exit ?_; simp only [thenA_exit, inBlockA_exit, if_true, if_false, Nat.reduceEqDiff, thenA_normal, inBlockA_normal, reduceIte]) | (refine AW.ret ?_; simp only [thenA_ret, inBlockA_ret, endQ_ret, endR_ret])))
  refine AW.adopt 3 3 62 7 ⟨_, tab62, rfl⟩ rfl (by simp [upd]) ?_
  simp only [ASt.adopt, ASt.add]
  refine AW.loopS (fun (i : Nat) => mkSt (slots 0 40 [(1, .ptr true 2 1 1 0 0), (2, .ptr true 2 1 2 0 0), (3, .own 3 i), (4, .int .i64 i)]) [(1, ⟨true, 33, 2, [[.view t 7 (s.1.map itemL), .int .i64 s.2]]⟩), (2, ⟨true, 33, 2, [[.view .tight 0 [], .int .i64 0]]⟩), (3, ⟨false, 62, 7, (s.1.map itemL).take i⟩)] [1, 2, 3] (rd0.map fun _ => 0)) (fun i => s.1.length - i) (fun i => i ≤ s.1.length) 0 ?_ (Nat.zero_le _) ?_
  · exact (less_of (by simp [lessL, mkSt, slots, itemA, itemL_eq, storeA, storeT, storeO, itemsRow]) (by simp [upd, mkSt, rowsOf_cons, itemA, itemL_eq, storeA, storeT, storeO, itemsRow]) (by simp [upd, mkSt, usedOf_cons, itemA, itemL_eq, storeA, storeT, storeO, itemsRow]) (by first | exact rd_less (by omega) | simp [mkSt, itemA, itemL_eq, storeA, storeT, storeO, itemsRow]) (by simp [slots, in_any, in_int, in_bool, in_str, in_ptr, in_own, in_agg, in_vnil, in_rdr, usedOf_cons, strs_in, ints_in, nodes_in, items_in, in_tup, itemA, itemL_eq, storeA, storeT, storeO, itemsRow]) (by simp only [List.forall_mem_cons, List.not_mem_nil, false_implies, implies_true, and_true, true_and, itemA, itemL_eq, storeA, storeT, storeO, itemsRow]; (repeat (first | with_reducible exact trivial | with_reducible refine And.intro ?_ ?_ | with_reducible exact in_int | with_reducible exact in_str | with_reducible exact in_bool | with_reducible exact strs_in _ | with_reducible exact nodes_in _ | with_reducible exact items_in _ | with_reducible exact in_vnil | with_reducible exact in_any | exact hin _ | with_reducible refine take_in ?_ | with_reducible exact strsE_in _ | with_reducible exact nodesE_in _ | with_reducible exact nodeL_in _ | with_reducible exact itemsE_in _ | with_reducible exact itemL_in _ | with_reducible refine app_in ?_ ?_ | with_reducible refine sing_in ?_ | (focus (simp [in_any, in_int, in_bool, in_str, in_ptr, in_own, in_agg, in_vnil, in_rdr, usedOf_cons, strs_in, ints_in, nodes_in, items_in, itemA, itemL_eq, storeA, storeT, storeO, itemsRow]; done)))); done))
  · intro i hi
    have hl : ((s.1.map itemL).take i).length = i := by rw [List.length_take, List.length_map]; omega
    by_cases hlt : i < s.1.length
    · have hw : IntKind.i64.wrap ((i : Int) + 1) = (i : Int) + 1 := i64_nat (by omega) (by omega)
      have hsx := hs2 s.1[i] (List.getElem_mem hlt)
      have htk : (s.1.map itemL).take (i + 1) = (s.1.map itemL).take i ++ [itemL s.1[i]] := by
        rw [List.take_add_one, List.getElem?_map, List.getElem?_eq_getElem hlt]; rfl
      have hb1 : (i + 1) * 104 ≤ 140737488355328 := by omega
      have hb2 : i + 1 ≤ 140737488355328 := by omega
      (repeat (first | with_reducible refine AW.seq ?_ | (refine arun_kn 4 rfl (fun C hC => ?_); ((repeat ((conv => whnf); simp [hlt, hw, hl, hb1, hb2])); refine hC _ ?_; clear hC C; simp only [List.drop_succ_cons, List.drop_zero, List.drop_nil, Nat.reduceAdd])) | (refine arun_kn 1 rfl (fun C hC => ?_); ((repeat ((conv => whnf); simp [hlt, hw, hl, hb1, hb2])); refine hC _ ?_; clear hC C; simp only [List.drop_succ_cons, List.drop_zero, List.drop_nil, Nat.reduceAdd])) | (refine arun_skip ?_ ?_; (focus (simp [awant, hlt, hw, hl, hb1, hb2]; done))) | (refine arun_call0 ?_ rfl ?_ (copyNode_AC s.1[i].2.2 hsx .loose) ?_ ?_; (focus (simp [awant]; done)); (focus (simp [ASt.put, ASt.pay, ASt.add, Option.map_map, Function.comp_def, List.set_cons_succ, List.set_cons_zero, aev, ofVal, ofVal0, big, size_mk, nodeA, nodeT, nodeTL_eq, nodeL_eq, itemA, itemL_eq, storeA, storeT, storeO, itemsRow, hlt, hw, hl, hb1, hb2]; done)); (focus (simp only [cloL]; (repeat (first | exact trivial | refine And.intro ?_ ?_ | exact clo_int | exact clo_str | exact clo_bool | exact clo_rdr | exact node_clo _ | exact nodeT_clo _ _ | exact strs_clo _ | exact ints_clo _ | exact nodes_clo _ | exact clo_vnil | exact bytes_clo _ | exact clo_lit _ rfl | assumption | exact item_clo _ | exact items_clo _ | exact store_clo _ _ | exact storeA_clo _)); done)); rintro _ rfl) | (refine arunD_kn 4 rfl (fun C hC => ?_); ((repeat ((conv => whnf); simp [hlt, hw, hl, hb1, hb2])); refine hC _ ?_; clear hC C; simp only [List.drop_succ_cons, List.drop_zero, List.drop_nil, Nat.reduceAdd])) | (refine arunD_kn 1 rfl (fun C hC => ?_); ((repeat ((conv => whnf); simp [hlt, hw, hl, hb1, hb2])); refine hC _ ?_; clear hC C; simp only [List.drop_succ_cons, List.drop_zero, List.drop_nil, Nat.reduceAdd])) | (refine arunD_call (c := 0) rfl ?_ rfl ?_ (copyNode_AC s.1[i].2.2 hsx .loose) rfl ?_ ?_ ?_ ?_; (focus (simp [awant]; done)); (focus (simp [ASt.put, ASt.pay, ASt.add, Option.map_map, Function.comp_def, List.set_cons_succ, List.set_cons_zero, aev, ofVal, ofVal0, big, size_mk, nodeA, nodeT, nodeTL_eq, nodeL_eq, itemA, itemL_eq, storeA, storeT, storeO, itemsRow, hlt, hw, hl, hb1, hb2]; done)); (focus (simp only [List.forall_mem_cons, List.not_mem_nil, false_implies, implies_true, and_true]; (repeat (first | exact trivial | refine And.intro ?_ ?_ | exact clo_int | exact clo_str | exact clo_bool | exact clo_rdr | exact node_clo _ | exact nodeT_clo _ _ | exact strs_clo _ | exact ints_clo _ | exact nodes_clo _ | exact clo_vnil | exact bytes_clo _ | exact clo_lit _ rfl | assumption | exact item_clo _ | exact items_clo _ | exact store_clo _ _ | exact storeA_clo _)); done)); (focus (first | with_reducible exact can_none | ((first | with_reducible refine can_some ?_ | refine can_of ?_ | (simp only [ASt.put, ASt.pay, ASt.add, Option.map_map, Function.comp_def, Option.map_some]; first | refine can_some ?_ | refine can_of ?_)); (first | exact Nat.le_refl _ | (simp; done) | omega)))); (focus (refine ⟨_, rfl, ?_⟩; first | exact node_in _ | exact storeA_in _ | exact item_in _ | exact in_int | exact in_bool | exact in_str | (simp [NoId, in_tup, in_agg, in_int, in_bool, in_str, node_in, nodes_in, strs_in]; done))); rintro _ rfl; intro _) | (refine arun_nil ?_; (refine hK _ ?_; clear hK K; simp only [thenA_normal, inBlockA_normal, endQ_normal, endR_normal])) | (refine arunD_nil ?_; (refine hK _ ?_; clear hK K; simp only [thenA_normal, inBlockA_normal, endQ_normal, endR_normal])) | (refine AW.regionK [] (fun K hK => ?_)) | (refine AW.regionDK [] (pcs [(19, 0, fun r => r = nodeA s.1[i].2.2)] []) (by kernel_rfl) (by kernel_rfl) (fun K hK => ?_)) | (refine AW.condT ?_ ?_; (focus (simp [aev, hlt, hw, hl, hb1, hb2]; done))) | (refine AW.condF ?_ ?_; (focus (simp [aev, hlt, hw, hl, hb1, hb2]; done))) | (refine AW.skip ?_; simp only [thenA_normal, inBlockA_normal]) | with_reducible refine AW.block ?_ | (refine AW.exit ?_; simp only [thenA_exit, inBlockA_exit, if_true, if_false, Nat.reduceEqDiff, thenA_normal, inBlockA_normal, reduceIte]) | (refine AW.ret ?_; simp only [thenA_ret, inBlockA_ret, endQ_ret, endR_ret])))
      refine ⟨i + 1, by omega, by omega, ?_⟩
      have hin : ∀ U : Nat → Bool, ∀ e ∈ (s.1.map itemL).take (i + 1), ∀ c ∈ e, AV.In U c := fun U e he => itemsE_in s.1 e (List.mem_of_mem_take he)
      rw [htk] at hin ⊢
      exact (less_of (by simp [lessL, mkSt, slots, itemA, itemL_eq, storeA, storeT, storeO, itemsRow]) (by simp [upd, mkSt, rowsOf_cons, itemA, itemL_eq, storeA, storeT, storeO, itemsRow]) (by simp [upd, mkSt, usedOf_cons, itemA, itemL_eq, storeA, storeT, storeO, itemsRow]) (by first | exact rd_less (by omega) | simp [mkSt, itemA, itemL_eq, storeA, storeT, storeO, itemsRow]) (by simp [slots, in_any, in_int, in_bool, in_str, in_ptr, in_own, in_agg, in_vnil, in_rdr, usedOf_cons, strs_in, ints_in, nodes_in, items_in, in_tup, itemA, itemL_eq, storeA, storeT, storeO, itemsRow]) (by simp only [List.forall_mem_cons, List.not_mem_nil, false_implies, implies_true, and_true, true_and, itemA, itemL_eq, storeA, storeT, storeO, itemsRow]; (repeat (first | with_reducible exact trivial | with_reducible refine And.intro ?_ ?_ | with_reducible exact in_int | with_reducible exact in_str | with_reducible exact in_bool | with_reducible exact strs_in _ | with_reducible exact nodes_in _ | with_reducible exact items_in _ | with_reducible exact in_vnil | with_reducible exact in_any | exact hin _ | with_reducible refine take_in ?_ | with_reducible exact strsE_in _ | with_reducible exact nodesE_in _ | with_reducible exact nodeL_in _ | with_reducible exact itemsE_in _ | with_reducible exact itemL_in _ | with_reducible refine app_in ?_ ?_ | with_reducible refine sing_in ?_ | (focus (simp [in_any, in_int, in_bool, in_str, in_ptr, in_own, in_agg, in_vnil, in_rdr, usedOf_cons, strs_in, ints_in, nodes_in, items_in, itemA, itemL_eq, storeA, storeT, storeO, itemsRow]; done)))); done))
    · obtain rfl : i = s.1.length := by omega
      have hall : (s.1.map itemL).take s.1.length = s.1.map itemL := by rw [List.take_of_length_le (by rw [List.length_map]; omega)]
      rw [hall]
      (repeat (first | with_reducible refine AW.seq ?_ | (refine arun_kn 4 rfl (fun C hC => ?_); ((repeat ((conv => whnf); simp)); refine hC _ ?_; clear hC C; simp only [List.drop_succ_cons, List.drop_zero, List.drop_nil, Nat.reduceAdd])) | (refine arun_kn 1 rfl (fun C hC => ?_); ((repeat ((conv => whnf); simp)); refine hC _ ?_; clear hC C; simp only [List.drop_succ_cons, List.drop_zero, List.drop_nil, Nat.reduceAdd])) | (refine arun_skip ?_ ?_; (focus (simp [awant]; done))) | (refine arunD_kn 4 rfl (fun C hC => ?_); ((repeat ((conv => whnf); simp)); refine hC _ ?_; clear hC C; simp only [List.drop_succ_cons, List.drop_zero, List.drop_nil, Nat.reduceAdd])) | (refine arunD_kn 1 rfl (fun C hC => ?_); ((repeat ((conv => whnf); simp)); refine hC _ ?_; clear hC C; simp only [List.drop_succ_cons, List.drop_zero, List.drop_nil, Nat.reduceAdd])) | (refine arun_nil ?_; (refine hK _ ?_; clear hK K; simp only [thenA_normal, inBlockA_normal, endQ_normal, endR_normal])) | (refine arunD_nil ?_; (refine hK _ ?_; clear hK K; simp only [thenA_normal, inBlockA_normal, endQ_normal, endR_normal])) | (refine AW.regionK [] (fun K hK => ?_)) | (refine AW.regionDK [] (pcs [] []) (by kernel_rfl) (by kernel_rfl) (fun K hK => ?_)) | (refine AW.condT ?_ ?_; (focus (simp [aev]; done))) | (refine AW.condF ?_ ?_; (focus (simp [aev]; done))) | (refine AW.skip ?_; simp only [thenA_normal, inBlockA_normal]) | with_reducible refine AW.block ?_ | (refine AW.exit ?_; simp only [thenA_exit, inBlockA_exit, if_true, if_false, Nat.reduceEqDiff, thenA_normal, inBlockA_normal, reduceIte]) | (refine AW.ret ?_; simp only [thenA_ret, inBlockA_ret, endQ_ret, endR_ret])))
      exact ⟨storeO s 3, by simp [ares, aresL, upd, rowsOf_cons], .inr ⟨storeO s, 3, itemsRow s, rfl, by simp [upd, rowsOf_cons, itemsRow], storeO_res s 3, itemsE_pur _, rfl, rfl⟩⟩
theorem copyStore_AC (t : VC) (s : Sto) (hs : SmlS s) : AC Try.prog 100 [storeT t s] 0 (fun r => r = storeA s) :=
  (AC.ofS (p := fun s' => s' = s) ((copyStore_ACR t s hs).mono (fun _ h => h) (fun r o ⟨h1, h2⟩ => ⟨s, rfl, h1, h2⟩))).mono (fun r ⟨s', h, e⟩ => by rw [e, h])

def findF (nm : ByteArray) : List Itm → Nat → Int
  | [], _ => -1
  | x :: l, k => if eqs x.1 nm then k else findF nm l (k + 1)
def findI (s : Sto) (nm : ByteArray) : Int := findF nm s.1 0
theorem find_AC (t : VC) (s : Sto) (nm : ByteArray) (hs : s.1.length ≤ 1000000) : AC Try.prog 99 [storeT t s, .str nm] 0 (fun r => r = .int .i64 (findI s nm)) := by
  unfold storeT
  refine AC.of tab_ok mixed_ok Try.func99 (by rfl) (by kernel_rfl) ?_; rintro ⟨P, T, hT, hm, w0, S0, rd0, k0⟩ hP hTT; dsimp only at hP hTT; subst hP hTT; unfold initSt; rw [Try.ntmps99]
  (repeat (first | with_reducible refine AW.seq ?_ | (refine arun_kn 4 rfl (fun C hC => ?_); ((repeat ((conv => whnf); simp)); refine hC _ ?_; clear hC C; simp only [List.drop_succ_cons, List.drop_zero, List.drop_nil, Nat.reduceAdd])) | (refine arun_kn 1 rfl (fun C hC => ?_); ((repeat ((conv => whnf); simp)); refine hC _ ?_; clear hC C; simp only [List.drop_succ_cons, List.drop_zero, List.drop_nil, Nat.reduceAdd])) | (refine arun_skip ?_ ?_; (focus (simp [awant]; done))) | (refine arunD_kn 4 rfl (fun C hC => ?_); ((repeat ((conv => whnf); simp)); refine hC _ ?_; clear hC C; simp only [List.drop_succ_cons, List.drop_zero, List.drop_nil, Nat.reduceAdd])) | (refine arunD_kn 1 rfl (fun C hC => ?_); ((repeat ((conv => whnf); simp)); refine hC _ ?_; clear hC C; simp only [List.drop_succ_cons, List.drop_zero, List.drop_nil, Nat.reduceAdd])) | (refine arun_nil ?_; (refine hK _ ?_; clear hK K; simp only [thenA_normal, inBlockA_normal, endQ_normal, endR_normal])) | (refine arunD_nil ?_; (refine hK _ ?_; clear hK K; simp only [thenA_normal, inBlockA_normal, endQ_normal, endR_normal])) | (refine AW.regionK [] (fun K hK => ?_)) | (refine AW.regionDK [] (pcs [] []) (by kernel_rfl) (by kernel_rfl) (fun K hK => ?_)) | (refine AW.condT ?_ ?_; (focus (simp [aev]; done))) | (refine AW.condF ?_ ?_; (focus (simp [aev]; done))) | (refine AW.skip ?_; simp only [thenA_normal, inBlockA_normal]) | with_reducible refine AW.block ?_ | (refine AW.exit ?_; simp only [thenA_exit, inBlockA_exit, if_true, if_false, Nat.reduceEqDiff, thenA_normal, inBlockA_normal, reduceIte]) | (refine AW.ret ?_; simp only [thenA_ret, inBlockA_ret, endQ_ret, endR_ret])))
  refine AW.loopS (fun (i : Nat) => mkSt (slots 0 22 [(1, .str nm), (2, .ptr true 2 1 2 0 0), (5, .int .i64 i)]) [(2, ⟨true, 33, 2, [[.view t 7 (s.1.map itemL), .int .i64 s.2]]⟩)] [2] (rd0.map fun _ => 0)) (fun i => s.1.length - i) (fun i => i ≤ s.1.length ∧ findI s nm = findF nm (s.1.drop i) i) 0 ?_ ⟨Nat.zero_le _, rfl⟩ ?_
  · exact (less_of (by simp [lessL, mkSt, slots, itemA, itemL_eq, storeA, storeT, storeO, itemsRow]) (by simp [upd, mkSt, rowsOf_cons, itemA, itemL_eq, storeA, storeT, storeO, itemsRow]) (by simp [upd, mkSt, usedOf_cons, itemA, itemL_eq, storeA, storeT, storeO, itemsRow]) (by first | exact rd_less (by omega) | simp [mkSt, itemA, itemL_eq, storeA, storeT, storeO, itemsRow]) (by simp [slots, in_any, in_int, in_bool, in_str, in_ptr, in_own, in_agg, in_vnil, in_rdr, usedOf_cons, strs_in, ints_in, nodes_in, items_in, in_tup, itemA, itemL_eq, storeA, storeT, storeO, itemsRow]) (by simp only [List.forall_mem_cons, List.not_mem_nil, false_implies, implies_true, and_true, true_and, itemA, itemL_eq, storeA, storeT, storeO, itemsRow]; (repeat (first | with_reducible exact trivial | with_reducible refine And.intro ?_ ?_ | with_reducible exact in_int | with_reducible exact in_str | with_reducible exact in_bool | with_reducible exact strs_in _ | with_reducible exact nodes_in _ | with_reducible exact items_in _ | with_reducible exact in_vnil | with_reducible exact in_any | exact hin _ | with_reducible refine take_in ?_ | with_reducible exact strsE_in _ | with_reducible exact nodesE_in _ | with_reducible exact nodeL_in _ | with_reducible exact itemsE_in _ | with_reducible exact itemL_in _ | with_reducible refine app_in ?_ ?_ | with_reducible refine sing_in ?_ | (focus (simp [in_any, in_int, in_bool, in_str, in_ptr, in_own, in_agg, in_vnil, in_rdr, usedOf_cons, strs_in, ints_in, nodes_in, items_in, itemA, itemL_eq, storeA, storeT, storeO, itemsRow]; done)))); done))
  · rintro i ⟨hi, hf⟩
    by_cases hlt : i < s.1.length
    · have hw : IntKind.i64.wrap ((i : Int) + 1) = (i : Int) + 1 := i64_nat (by omega) (by omega)
      have hd : s.1.drop i = s.1[i] :: s.1.drop (i + 1) := List.drop_eq_getElem_cons hlt
      rw [hd, findF] at hf
      cases hb : eqs s.1[i].1 nm
      · rw [hb] at hf
        (repeat (first | with_reducible refine AW.seq ?_ | (refine arun_kn 4 rfl (fun C hC => ?_); ((repeat ((conv => whnf); simp [hlt, hw, hb])); refine hC _ ?_; clear hC C; simp only [List.drop_succ_cons, List.drop_zero, List.drop_nil, Nat.reduceAdd])) | (refine arun_kn 1 rfl (fun C hC => ?_); ((repeat ((conv => whnf); simp [hlt, hw, hb])); refine hC _ ?_; clear hC C; simp only [List.drop_succ_cons, List.drop_zero, List.drop_nil, Nat.reduceAdd])) | (refine arun_skip ?_ ?_; (focus (simp [awant, hlt, hw, hb]; done))) | (refine arunD_kn 4 rfl (fun C hC => ?_); ((repeat ((conv => whnf); simp [hlt, hw, hb])); refine hC _ ?_; clear hC C; simp only [List.drop_succ_cons, List.drop_zero, List.drop_nil, Nat.reduceAdd])) | (refine arunD_kn 1 rfl (fun C hC => ?_); ((repeat ((conv => whnf); simp [hlt, hw, hb])); refine hC _ ?_; clear hC C; simp only [List.drop_succ_cons, List.drop_zero, List.drop_nil, Nat.reduceAdd])) | (refine arun_nil ?_; (refine hK _ ?_; clear hK K; simp only [thenA_normal, inBlockA_normal, endQ_normal, endR_normal])) | (refine arunD_nil ?_; (refine hK _ ?_; clear hK K; simp only [thenA_normal, inBlockA_normal, endQ_normal, endR_normal])) | (refine AW.regionK [] (fun K hK => ?_)) | (refine AW.regionDK [] (pcs [] []) (by kernel_rfl) (by kernel_rfl) (fun K hK => ?_)) | (refine AW.condT ?_ ?_; (focus (simp [aev, hlt, hw, hb]; done))) | (refine AW.condF ?_ ?_; (focus (simp [aev, hlt, hw, hb]; done))) | (refine AW.skip ?_; simp only [thenA_normal, inBlockA_normal]) | with_reducible refine AW.block ?_ | (refine AW.exit ?_; simp only [thenA_exit, inBlockA_exit, if_true, if_false, Nat.reduceEqDiff, thenA_normal, inBlockA_normal, reduceIte]) | (refine AW.ret ?_; simp only [thenA_ret, inBlockA_ret, endQ_ret, endR_ret])))
        exact ⟨i + 1, by omega, ⟨by omega, hf⟩, (less_of (by simp [lessL, mkSt, slots, itemA, itemL_eq, storeA, storeT, storeO, itemsRow]) (by simp [upd, mkSt, rowsOf_cons, itemA, itemL_eq, storeA, storeT, storeO, itemsRow]) (by simp [upd, mkSt, usedOf_cons, itemA, itemL_eq, storeA, storeT, storeO, itemsRow]) (by first | exact rd_less (by omega) | simp [mkSt, itemA, itemL_eq, storeA, storeT, storeO, itemsRow]) (by simp [slots, in_any, in_int, in_bool, in_str, in_ptr, in_own, in_agg, in_vnil, in_rdr, usedOf_cons, strs_in, ints_in, nodes_in, items_in, in_tup, itemA, itemL_eq, storeA, storeT, storeO, itemsRow]) (by simp only [List.forall_mem_cons, List.not_mem_nil, false_implies, implies_true, and_true, true_and, itemA, itemL_eq, storeA, storeT, storeO, itemsRow]; (repeat (first | with_reducible exact trivial | with_reducible refine And.intro ?_ ?_ | with_reducible exact in_int | with_reducible exact in_str | with_reducible exact in_bool | with_reducible exact strs_in _ | with_reducible exact nodes_in _ | with_reducible exact items_in _ | with_reducible exact in_vnil | with_reducible exact in_any | exact hin _ | with_reducible refine take_in ?_ | with_reducible exact strsE_in _ | with_reducible exact nodesE_in _ | with_reducible exact nodeL_in _ | with_reducible exact itemsE_in _ | with_reducible exact itemL_in _ | with_reducible refine app_in ?_ ?_ | with_reducible refine sing_in ?_ | (focus (simp [in_any, in_int, in_bool, in_str, in_ptr, in_own, in_agg, in_vnil, in_rdr, usedOf_cons, strs_in, ints_in, nodes_in, items_in, itemA, itemL_eq, storeA, storeT, storeO, itemsRow]; done)))); done))⟩
      · rw [hb] at hf
        (repeat (first | with_reducible refine AW.seq ?_ | (refine arun_kn 4 rfl (fun C hC => ?_); ((repeat ((conv => whnf); simp [hlt, hw, hb])); refine hC _ ?_; clear hC C; simp only [List.drop_succ_cons, List.drop_zero, List.drop_nil, Nat.reduceAdd])) | (refine arun_kn 1 rfl (fun C hC => ?_); ((repeat ((conv => whnf); simp [hlt, hw, hb])); refine hC _ ?_; clear hC C; simp only [List.drop_succ_cons, List.drop_zero, List.drop_nil, Nat.reduceAdd])) | (refine arun_skip ?_ ?_; (focus (simp [awant, hlt, hw, hb]; done))) | (refine arunD_kn 4 rfl (fun C hC => ?_); ((repeat ((conv => whnf); simp [hlt, hw, hb])); refine hC _ ?_; clear hC C; simp only [List.drop_succ_cons, List.drop_zero, List.drop_nil, Nat.reduceAdd])) | (refine arunD_kn 1 rfl (fun C hC => ?_); ((repeat ((conv => whnf); simp [hlt, hw, hb])); refine hC _ ?_; clear hC C; simp only [List.drop_succ_cons, List.drop_zero, List.drop_nil, Nat.reduceAdd])) | (refine arun_nil ?_; (refine hK _ ?_; clear hK K; simp only [thenA_normal, inBlockA_normal, endQ_normal, endR_normal])) | (refine arunD_nil ?_; (refine hK _ ?_; clear hK K; simp only [thenA_normal, inBlockA_normal, endQ_normal, endR_normal])) | (refine AW.regionK [] (fun K hK => ?_)) | (refine AW.regionDK [] (pcs [] []) (by kernel_rfl) (by kernel_rfl) (fun K hK => ?_)) | (refine AW.condT ?_ ?_; (focus (simp [aev, hlt, hw, hb]; done))) | (refine AW.condF ?_ ?_; (focus (simp [aev, hlt, hw, hb]; done))) | (refine AW.skip ?_; simp only [thenA_normal, inBlockA_normal]) | with_reducible refine AW.block ?_ | (refine AW.exit ?_; simp only [thenA_exit, inBlockA_exit, if_true, if_false, Nat.reduceEqDiff, thenA_normal, inBlockA_normal, reduceIte]) | (refine AW.ret ?_; simp only [thenA_ret, inBlockA_ret, endQ_ret, endR_ret])))
        refine ⟨.int .i64 i, by simp [ares, aresL], pur_int, by rw [hf]; rfl⟩
    · have hi' : s.1.drop i = [] := List.drop_eq_nil_of_le (by omega)
      rw [hi', findF] at hf
      (repeat (first | with_reducible refine AW.seq ?_ | (refine arun_kn 4 rfl (fun C hC => ?_); ((repeat ((conv => whnf); simp [hlt])); refine hC _ ?_; clear hC C; simp only [List.drop_succ_cons, List.drop_zero, List.drop_nil, Nat.reduceAdd])) | (refine arun_kn 1 rfl (fun C hC => ?_); ((repeat ((conv => whnf); simp [hlt])); refine hC _ ?_; clear hC C; simp only [List.drop_succ_cons, List.drop_zero, List.drop_nil, Nat.reduceAdd])) | (refine arun_skip ?_ ?_; (focus (simp [awant, hlt]; done))) | (refine arunD_kn 4 rfl (fun C hC => ?_); ((repeat ((conv => whnf); simp [hlt])); refine hC _ ?_; clear hC C; simp only [List.drop_succ_cons, List.drop_zero, List.drop_nil, Nat.reduceAdd])) | (refine arunD_kn 1 rfl (fun C hC => ?_); ((repeat ((conv => whnf); simp [hlt])); refine hC _ ?_; clear hC C; simp only [List.drop_succ_cons, List.drop_zero, List.drop_nil, Nat.reduceAdd])) | (refine arun_nil ?_; (refine hK _ ?_; clear hK K; simp only [thenA_normal, inBlockA_normal, endQ_normal, endR_normal])) | (refine arunD_nil ?_; (refine hK _ ?_; clear hK K; simp only [thenA_normal, inBlockA_normal, endQ_normal, endR_normal])) | (refine AW.regionK [] (fun K hK => ?_)) | (refine AW.regionDK [] (pcs [] []) (by kernel_rfl) (by kernel_rfl) (fun K hK => ?_)) | (refine AW.condT ?_ ?_; (focus (simp [aev, hlt]; done))) | (refine AW.condF ?_ ?_; (focus (simp [aev, hlt]; done))) | (refine AW.skip ?_; simp only [thenA_normal, inBlockA_normal]) | with_reducible refine AW.block ?_ | (refine AW.exit ?_; simp only [thenA_exit, inBlockA_exit, if_true, if_false, Nat.reduceEqDiff, thenA_normal, inBlockA_normal, reduceIte]) | (refine AW.ret ?_; simp only [thenA_ret, inBlockA_ret, endQ_ret, endR_ret])))
      exact ⟨.int .i64 (-1), by simp [ares, aresL], pur_int, by rw [hf]⟩
end Go.Proofs.Ytmeobmegnneegaa.Eng

/-
  spec.put, spec.drop.
-/
-- EV: store
namespace Go.Proofs.Ytmeobmegnneegaa.Eng
open Go Go.RowKit
attribute [local simp] big size_mk ASt.pay Option.map_map Function.comp_def awant aop acall ado aev ofVal ofVal0 ASt.put ASt.add ASt.turn ASt.kill abox aalloc astore aload ASt.at cellsTo afieldAddr afield aindexAddr aindex alen abin aint acmp astr aun apick aextract anil aslice abound abuild afill abuildSlice asCells aps avCells over upd aappend asrc amax amin aconv mkSt slots rowsOf_cons rowsOf_nil usedOf_cons usedOf_nil ZK.av List.replicate nodeA nodeT nodeTL_eq nodeL_eq strsE_get strsE_len intsE_get intsE_len strsE_at intsE_at itemA itemL_eq storeA storeT storeO itemsRow tab2 tab3 tab4 tab5 tab6 tab7 tab8 tab9 tab10 tab11 tab12 tab13 tab14 tab15 tab16 tab17 tab18 tab19 tab21 tab22 tab23 tab24 tab25 tab26 tab27 tab28 tab31 tab32 tab33 tab37 tab38 tab39 tab46 tab53 tab61 tab62 tab69 tab70 tab98 tab116 tab117 tab125 tab126 tab128 tab136 tab145 tab146 tab151 tab152 tab153 tab155 tab156 tab157

def putL (nm : ByteArray) (nx : Itm) : Bool → List Itm → List Itm
  | d, [] => if d then [] else [nx]
  | d, x :: l => (if !d && !(lts x.1 nm) then [nx] else []) ++ (if eqs x.1 nm then [] else [x]) ++ putL nm nx (d || !(lts x.1 nm)) l
def putS (s : Sto) (nm : ByteArray) (n : Nd) : Sto := (putL nm (nm, s.2 + 1, n) false s.1, s.2 + 1)
theorem putL_len (nm : ByteArray) (nx : Itm) : ∀ (d : Bool) (l : List Itm), (putL nm nx d l).length ≤ l.length + (if d then 0 else 1)
  | d, [] => by unfold putL; cases d <;> simp
  | d, x :: l => by
    unfold putL
    have := putL_len nm nx (d || !(lts x.1 nm)) l
    simp only [List.length_append, List.length_cons]
    cases h : (d || !(lts x.1 nm)) <;> rw [h] at this <;> generalize (putL nm nx _ l).length = k at *
    all_goals revert h
    all_goals
      cases d <;> cases lts x.1 nm <;> cases eqs x.1 nm <;> simp at this ⊢ <;> omega
set_option linter.unusedSimpArgs false
set_option maxRecDepth 100000 in
set_option maxHeartbeats 16000000 in
theorem put_ACR (t t' : VC) (s : Sto) (nm : ByteArray) (n : Nd) (hs : SmlS s) (hn : Sml n) (hc : 0 ≤ s.2 ∧ s.2 ≤ 1000000) : ACR Try.prog 73 [storeT t s, .str nm, nodeT t' n] 0 (fun _ => False) (fun f R => f = storeO (putS s nm n) ∧ R = itemsRow (putS s nm n)) := by
  obtain ⟨hs1, hs2⟩ := id hs
  have hw0 : IntKind.i64.wrap (s.2 + 1) = s.2 + 1 := i64_nat (by omega) (by omega)
  unfold storeT
  refine ACR.of tab_ok mixed_ok Try.func73 (by rfl) (by kernel_rfl) ?_; rintro ⟨P, T, hT, hm, w0, S0, rd0, k0⟩ hP hTT; dsimp only at hP hTT; subst hP hTT; unfold initSt; rw [Try.ntmps73]
  (repeat (first | with_reducible refine AW.seq ?_ | (refine arun_kn 4 rfl (fun C hC => ?_); ((repeat ((conv => whnf); simp [hw0])); refine hC _ ?_; clear hC C; simp only [List.drop_succ_cons, List.drop_zero, List.drop_nil, Nat.reduceAdd])) | (refine arun_kn 1 rfl (fun C hC => ?_); ((repeat ((conv => whnf); simp [hw0])); refine hC _ ?_; clear hC C; simp only [List.drop_succ_cons, List.drop_zero, List.drop_nil, Nat.reduceAdd])) | (refine arun_skip ?_ ?_; (focus (simp [awant, hw0]; done))) | (refine arun_call0 ?_ rfl ?_ (copyNode_AC n hn t') ?_ ?_; (focus (simp [awant]; done)); (focus (simp [ASt.put, ASt.pay, ASt.add, Option.map_map, Function.comp_def, List.set_cons_succ, List.set_cons_zero, aev, ofVal, ofVal0, big, size_mk, nodeA, nodeT, nodeTL_eq, nodeL_eq, itemA, itemL_eq, storeA, storeT, storeO, itemsRow, hw0]; done)); (focus (simp only [cloL]; (repeat (first | exact trivial | refine And.intro ?_ ?_ | exact clo_int | exact clo_str | exact clo_bool | exact clo_rdr | exact node_clo _ | exact nodeT_clo _ _ | exact strs_clo _ | exact ints_clo _ | exact nodes_clo _ | exact clo_vnil | exact bytes_clo _ | exact clo_lit _ rfl | assumption | exact item_clo _ | exact items_clo _ | exact store_clo _ _ | exact storeA_clo _)); done)); rintro _ rfl) | (refine arun_call0 ?_ rfl ?_ (copyStore_AC t s hs) ?_ ?_; (focus (simp [awant]; done)); (focus (simp [ASt.put, ASt.pay, ASt.add, Option.map_map, Function.comp_def, List.set_cons_succ, List.set_cons_zero, aev, ofVal, ofVal0, big, size_mk, nodeA, nodeT, nodeTL_eq, nodeL_eq, itemA, itemL_eq, storeA, storeT, storeO, itemsRow, hw0]; done)); (focus (simp only [cloL]; (repeat (first | exact trivial | refine And.intro ?_ ?_ | exact clo_int | exact clo_str | exact clo_bool | exact clo_rdr | exact node_clo _ | exact nodeT_clo _ _ | exact strs_clo _ | exact ints_clo _ | exact nodes_clo _ | exact clo_vnil | exact bytes_clo _ | exact clo_lit _ rfl | assumption | exact item_clo _ | exact items_clo _ | exact store_clo _ _ | exact storeA_clo _)); done)); rintro _ rfl) | (refine arunD_kn 4 rfl (fun C hC => ?_); ((repeat ((conv => whnf); simp [hw0])); refine hC _ ?_; clear hC C; simp only [List.drop_succ_cons, List.drop_zero, List.drop_nil, Nat.reduceAdd])) | (refine arunD_kn 1 rfl (fun C hC => ?_); ((repeat ((conv => whnf); simp [hw0])); refine hC _ ?_; clear hC C; simp only [List.drop_succ_cons, List.drop_zero, List.drop_nil, Nat.reduceAdd])) | (refine arunD_call (c := 0) rfl ?_ rfl ?_ (copyNode_AC n hn t') rfl ?_ ?_ ?_ ?_; (focus (simp [awant]; done)); (focus (simp [ASt.put, ASt.pay, ASt.add, Option.map_map, Function.comp_def, List.set_cons_succ, List.set_cons_zero, aev, ofVal, ofVal0, big, size_mk, nodeA, nodeT, nodeTL_eq, nodeL_eq, itemA, itemL_eq, storeA, storeT, storeO, itemsRow, hw0]; done)); (focus (simp only [List.forall_mem_cons, List.not_mem_nil, false_implies, implies_true, and_true]; (repeat (first | exact trivial | refine And.intro ?_ ?_ | exact clo_int | exact clo_str | exact clo_bool | exact clo_rdr | exact node_clo _ | exact nodeT_clo _ _ | exact strs_clo _ | exact ints_clo _ | exact nodes_clo _ | exact clo_vnil | exact bytes_clo _ | exact clo_lit _ rfl | assumption | exact item_clo _ | exact items_clo _ | exact store_clo _ _ | exact storeA_clo _)); done)); (focus (first | with_reducible exact can_none | ((first | with_reducible refine can_some ?_ | refine can_of ?_ | (simp only [ASt.put, ASt.pay, ASt.add, Option.map_map, Function.comp_def, Option.map_some]; first | refine can_some ?_ | refine can_of ?_)); (first | exact Nat.le_refl _ | (simp; done) | omega)))); (focus (refine ⟨_, rfl, ?_⟩; first | exact node_in _ | exact storeA_in _ | exact item_in _ | exact in_int | exact in_bool | exact in_str | (simp [NoId, in_tup, in_agg, in_int, in_bool, in_str, node_in, nodes_in, strs_in]; done))); rintro _ rfl; intro _) | (refine arunD_call (c := 0) rfl ?_ rfl ?_ (copyStore_AC t s hs) rfl ?_ ?_ ?_ ?_; (focus (simp [awant]; done)); (focus (simp [ASt.put, ASt.pay, ASt.add, Option.map_map, Function.comp_def, List.set_cons_succ, List.set_cons_zero, aev, ofVal, ofVal0, big, size_mk, nodeA, nodeT, nodeTL_eq, nodeL_eq, itemA, itemL_eq, storeA, storeT, storeO, itemsRow, hw0]; done)); (focus (simp only [List.forall_mem_cons, List.not_mem_nil, false_implies, implies_true, and_true]; (repeat (first | exact trivial | refine And.intro ?_ ?_ | exact clo_int | exact clo_str | exact clo_bool | exact clo_rdr | exact node_clo _ | exact nodeT_clo _ _ | exact strs_clo _ | exact ints_clo _ | exact nodes_clo _ | exact clo_vnil | exact bytes_clo _ | exact clo_lit _ rfl | assumption | exact item_clo _ | exact items_clo _ | exact store_clo _ _ | exact storeA_clo _)); done)); (focus (first | with_reducible exact can_none | ((first | with_reducible refine can_some ?_ | refine can_of ?_ | (simp only [ASt.put, ASt.pay, ASt.add, Option.map_map, Function.comp_def, Option.map_some]; first | refine can_some ?_ | refine can_of ?_)); (first | exact Nat.le_refl _ | (simp; done) | omega)))); (focus (refine ⟨_, rfl, ?_⟩; first | exact node_in _ | exact storeA_in _ | exact item_in _ | exact in_int | exact in_bool | exact in_str | (simp [NoId, in_tup, in_agg, in_int, in_bool, in_str, node_in, nodes_in, strs_in]; done))); rintro _ rfl; intro _) | (refine arun_nil ?_; (refine hK _ ?_; clear hK K; simp only [thenA_normal, inBlockA_normal, endQ_normal, endR_normal])) | (refine arunD_nil ?_; (refine hK _ ?_; clear hK K; simp only [thenA_normal, inBlockA_normal, endQ_normal, endR_normal])) | (refine AW.regionK [] (fun K hK => ?_)) | (refine AW.regionDK [] (pcs [(5, 0, fun r => r = nodeA n)] []) (by kernel_rfl) (by kernel_rfl) (fun K hK => ?_)) | (refine AW.condT ?_ ?_; (focus (simp [aev, hw0]; done))) | (refine AW.condF ?_ ?_; (focus (simp [aev, hw0]; done))) | (refine AW.skip ?_; simp only [thenA_normal, inBlockA_normal]) | with_reducible refine AW.block ?_ | (refine AW.exit ?_; simp only [thenA_exit, inBlockA_exit, if_true, if_false, Nat.reduceEqDiff, thenA_normal, inBlockA_normal, reduceIte]) | (refine AW.ret ?_; simp only [thenA_ret, inBlockA_ret, endQ_ret, endR_ret])))
  refine AW.adopt 7 7 62 7 ⟨_, tab62, rfl⟩ rfl (by simp [upd]) ?_
  simp only [ASt.adopt, ASt.add]
  generalize hnx : (nm, s.2 + 1, n) = nx
  have hnx' : itemL nx = .str nm :: .int .i64 (s.2 + 1) :: nodeL n := by subst hnx; rfl
  rw [nodeL_eq] at hnx'
  have hsx : nx.1 = nm := by subst hnx; rfl
  refine AW.loopS (fun (x : Nat × List Itm × Bool) => mkSt (slots 0 69 [(1, .str nm), (3, .ptr true 2 1 3 0 0), (6, .ptr true 2 1 6 0 0), (7, .own 7 x.2.1.length), (8, .ptr true 7 1 8 0 0), (9, .view .loose 7 (s.1.map itemL)), (10, .bool x.2.2), (11, .int .i64 x.1)]) [(3, ⟨true, 33, 2, [[.view t 7 (s.1.map itemL), .int .i64 s.2]]⟩), (6, ⟨true, 33, 2, [[.view .tight 0 [], .int .i64 0]]⟩), (8, ⟨true, 62, 7, [itemL nx]⟩), (7, ⟨false, 62, 7, x.2.1.map itemL⟩)] [3, 6, 7, 8] (rd0.map fun _ => 0)) (fun x => s.1.length - x.1) (fun x => x.1 ≤ s.1.length ∧ putL nm nx false s.1 = x.2.1 ++ putL nm nx x.2.2 (s.1.drop x.1) ∧ x.2.1.length ≤ 1001) (0, [], false) ?_ ⟨Nat.zero_le _, rfl, by simp⟩ ?_
  · dsimp only [List.map_nil, List.length_nil]
    rw [hnx']
    exact (less_of (by simp [lessL, mkSt, slots, itemA, itemL_eq, storeA, storeT, storeO, itemsRow]) (by simp [upd, mkSt, rowsOf_cons, itemA, itemL_eq, storeA, storeT, storeO, itemsRow]) (by simp [upd, mkSt, usedOf_cons, itemA, itemL_eq, storeA, storeT, storeO, itemsRow]) (by first | exact rd_less (by omega) | simp [mkSt, itemA, itemL_eq, storeA, storeT, storeO, itemsRow]) (by simp [slots, in_any, in_int, in_bool, in_str, in_ptr, in_own, in_agg, in_vnil, in_rdr, usedOf_cons, strs_in, ints_in, nodes_in, items_in, in_tup, itemA, itemL_eq, storeA, storeT, storeO, itemsRow]) (by simp only [List.forall_mem_cons, List.not_mem_nil, false_implies, implies_true, and_true, true_and, itemA, itemL_eq, storeA, storeT, storeO, itemsRow]; (repeat (first | with_reducible exact trivial | with_reducible refine And.intro ?_ ?_ | with_reducible exact in_int | with_reducible exact in_str | with_reducible exact in_bool | with_reducible exact strs_in _ | with_reducible exact nodes_in _ | with_reducible exact items_in _ | with_reducible exact in_vnil | with_reducible exact in_any | exact hin _ | with_reducible refine take_in ?_ | with_reducible exact strsE_in _ | with_reducible exact nodesE_in _ | with_reducible exact nodeL_in _ | with_reducible exact itemsE_in _ | with_reducible exact itemL_in _ | with_reducible refine app_in ?_ ?_ | with_reducible refine sing_in ?_ | (focus (simp [in_any, in_int, in_bool, in_str, in_ptr, in_own, in_agg, in_vnil, in_rdr, usedOf_cons, strs_in, ints_in, nodes_in, items_in, itemA, itemL_eq, storeA, storeT, storeO, itemsRow]; done)))); done))
  · rintro ⟨i, acc, d⟩ ⟨hi, hf, ha⟩
    dsimp only at hi hf ha ⊢
    have hl : (acc.map itemL).length = acc.length := List.length_map _
    have hb1 : (acc.length + 1) * 104 ≤ 140737488355328 := by omega
    have hb2 : acc.length + 1 ≤ 140737488355328 := by omega
    have hb3 : (acc.length + 2) * 104 ≤ 140737488355328 := by clear hb1 hb2; omega
    have hb4 : acc.length + 2 ≤ 140737488355328 := by clear hb1 hb2 hb3; omega
    have hpl := putL_len nm nx false s.1
    rw [hf, List.length_append] at hpl
    by_cases hlt : i < s.1.length
    · have hw : IntKind.i64.wrap ((i : Int) + 1) = (i : Int) + 1 := i64_nat (by omega) (by omega)
      have hd : s.1.drop i = s.1[i] :: s.1.drop (i + 1) := List.drop_eq_getElem_cons hlt
      rw [hd, putL] at hf hpl
      rw [hnx']
      cases d <;> cases h1 : lts s.1[i].1 nm <;> cases h2 : eqs s.1[i].1 nm <;> rw [h1, h2] at hf hpl
      all_goals
        simp only [Bool.not_false, Bool.not_true, Bool.false_and, Bool.and_true, Bool.and_self, Bool.true_and, Bool.and_false, Bool.or_false, Bool.or_true, Bool.true_or, Bool.or_self, Bool.false_or, if_true, if_false, Bool.false_eq_true, List.nil_append, List.append_nil, reduceIte] at hf hpl
      · (repeat (first | with_reducible refine AW.seq ?_ | (refine arun_kn 4 rfl (fun C hC => ?_); ((repeat ((conv => whnf); simp [hlt, hw, hw0, h1, h2, hl, hb1, hb2, hb3, hb4, List.length_append])); refine hC _ ?_; clear hC C; simp only [List.drop_succ_cons, List.drop_zero, List.drop_nil, Nat.reduceAdd])) | (refine arun_kn 1 rfl (fun C hC => ?_); ((repeat ((conv => whnf); simp [hlt, hw, hw0, h1, h2, hl, hb1, hb2, hb3, hb4, List.length_append])); refine hC _ ?_; clear hC C; simp only [List.drop_succ_cons, List.drop_zero, List.drop_nil, Nat.reduceAdd])) | (refine arun_skip ?_ ?_; (focus (simp [awant, hlt, hw, hw0, h1, h2, hl, hb1, hb2, hb3, hb4, List.length_append]; done))) | (refine arunD_kn 4 rfl (fun C hC => ?_); ((repeat ((conv => whnf); simp [hlt, hw, hw0, h1, h2, hl, hb1, hb2, hb3, hb4, List.length_append])); refine hC _ ?_; clear hC C; simp only [List.drop_succ_cons, List.drop_zero, List.drop_nil, Nat.reduceAdd])) | (refine arunD_kn 1 rfl (fun C hC => ?_); ((repeat ((conv => whnf); simp [hlt, hw, hw0, h1, h2, hl, hb1, hb2, hb3, hb4, List.length_append])); refine hC _ ?_; clear hC C; simp only [List.drop_succ_cons, List.drop_zero, List.drop_nil, Nat.reduceAdd])) | (refine arun_nil ?_; (refine hK _ ?_; clear hK K; simp only [thenA_normal, inBlockA_normal, endQ_normal, endR_normal])) | (refine arunD_nil ?_; (refine hK _ ?_; clear hK K; simp only [thenA_normal, inBlockA_normal, endQ_normal, endR_normal])) | (refine AW.regionK [] (fun K hK => ?_)) | (refine AW.regionDK [] (pcs [] []) (by kernel_rfl) (by kernel_rfl) (fun K hK => ?_)) | (refine AW.condT ?_ ?_; (focus (simp [aev, hlt, hw, hw0, h1, h2, hl, hb1, hb2, hb3, hb4, List.length_append]; done))) | (refine AW.condF ?_ ?_; (focus (simp [aev, hlt, hw, hw0, h1, h2, hl, hb1, hb2, hb3, hb4, List.length_append]; done))) | (refine AW.skip ?_; simp only [thenA_normal, inBlockA_normal]) | with_reducible refine AW.block ?_ | (refine AW.exit ?_; simp only [thenA_exit, inBlockA_exit, if_true, if_false, Nat.reduceEqDiff, thenA_normal, inBlockA_normal, reduceIte]) | (refine AW.ret ?_; simp only [thenA_ret, inBlockA_ret, endQ_ret, endR_ret])))
        refine ⟨(i + 1, acc ++ [nx, s.1[i]], true), by dsimp only; omega, ⟨by dsimp only; omega, by rw [hf] <;> simp, by simp only [List.length_append, List.length_cons, List.length_nil] at hpl ⊢; omega⟩, ?_⟩
        simp only [List.map_append, List.map_cons, List.map_nil, List.length_append, List.length_cons, List.length_nil]
        rw [itemL_eq nx] at hnx'
        subst hnx
        exact (less_of (by simp [lessL, mkSt, slots, itemA, itemL_eq, storeA, storeT, storeO, itemsRow]) (by simp [upd, mkSt, rowsOf_cons, itemA, itemL_eq, storeA, storeT, storeO, itemsRow]) (by simp [upd, mkSt, usedOf_cons, itemA, itemL_eq, storeA, storeT, storeO, itemsRow]) (by first | exact rd_less (by omega) | simp [mkSt, itemA, itemL_eq, storeA, storeT, storeO, itemsRow]) (by simp [slots, in_any, in_int, in_bool, in_str, in_ptr, in_own, in_agg, in_vnil, in_rdr, usedOf_cons, strs_in, ints_in, nodes_in, items_in, in_tup, itemA, itemL_eq, storeA, storeT, storeO, itemsRow]) (by simp only [List.forall_mem_cons, List.not_mem_nil, false_implies, implies_true, and_true, true_and, itemA, itemL_eq, storeA, storeT, storeO, itemsRow]; (repeat (first | with_reducible exact trivial | with_reducible refine And.intro ?_ ?_ | with_reducible exact in_int | with_reducible exact in_str | with_reducible exact in_bool | with_reducible exact strs_in _ | with_reducible exact nodes_in _ | with_reducible exact items_in _ | with_reducible exact in_vnil | with_reducible exact in_any | exact hin _ | with_reducible refine take_in ?_ | with_reducible exact strsE_in _ | with_reducible exact nodesE_in _ | with_reducible exact nodeL_in _ | with_reducible exact itemsE_in _ | with_reducible exact itemL_in _ | with_reducible refine app_in ?_ ?_ | with_reducible refine sing_in ?_ | (focus (simp [in_any, in_int, in_bool, in_str, in_ptr, in_own, in_agg, in_vnil, in_rdr, usedOf_cons, strs_in, ints_in, nodes_in, items_in, itemA, itemL_eq, storeA, storeT, storeO, itemsRow]; done)))); done))
      · (repeat (first | with_reducible refine AW.seq ?_ | (refine arun_kn 4 rfl (fun C hC => ?_); ((repeat ((conv => whnf); simp [hlt, hw, hw0, h1, h2, hl, hb1, hb2, hb3, hb4, List.length_append])); refine hC _ ?_; clear hC C; simp only [List.drop_succ_cons, List.drop_zero, List.drop_nil, Nat.reduceAdd])) | (refine arun_kn 1 rfl (fun C hC => ?_); ((repeat ((conv => whnf); simp [hlt, hw, hw0, h1, h2, hl, hb1, hb2, hb3, hb4, List.length_append])); refine hC _ ?_; clear hC C; simp only [List.drop_succ_cons, List.drop_zero, List.drop_nil, Nat.reduceAdd])) | (refine arun_skip ?_ ?_; (focus (simp [awant, hlt, hw, hw0, h1, h2, hl, hb1, hb2, hb3, hb4, List.length_append]; done))) | (refine arunD_kn 4 rfl (fun C hC => ?_); ((repeat ((conv => whnf); simp [hlt, hw, hw0, h1, h2, hl, hb1, hb2, hb3, hb4, List.length_append])); refine hC _ ?_; clear hC C; simp only [List.drop_succ_cons, List.drop_zero, List.drop_nil, Nat.reduceAdd])) | (refine arunD_kn 1 rfl (fun C hC => ?_); ((repeat ((conv => whnf); simp [hlt, hw, hw0, h1, h2, hl, hb1, hb2, hb3, hb4, List.length_append])); refine hC _ ?_; clear hC C; simp only [List.drop_succ_cons, List.drop_zero, List.drop_nil, Nat.reduceAdd])) | (refine arun_nil ?_; (refine hK _ ?_; clear hK K; simp only [thenA_normal, inBlockA_normal, endQ_normal, endR_normal])) | (refine arunD_nil ?_; (refine hK _ ?_; clear hK K; simp only [thenA_normal, inBlockA_normal, endQ_normal, endR_normal])) | (refine AW.regionK [] (fun K hK => ?_)) | (refine AW.regionDK [] (pcs [] []) (by kernel_rfl) (by kernel_rfl) (fun K hK => ?_)) | (refine AW.condT ?_ ?_; (focus (simp [aev, hlt, hw, hw0, h1, h2, hl, hb1, hb2, hb3, hb4, List.length_append]; done))) | (refine AW.condF ?_ ?_; (focus (simp [aev, hlt, hw, hw0, h1, h2, hl, hb1, hb2, hb3, hb4, List.length_append]; done))) | (refine AW.skip ?_; simp only [thenA_normal, inBlockA_normal]) | with_reducible refine AW.block ?_ | (refine AW.exit ?_; simp only [thenA_exit, inBlockA_exit, if_true, if_false, Nat.reduceEqDiff, thenA_normal, inBlockA_normal, reduceIte]) | (refine AW.ret ?_; simp only [thenA_ret, inBlockA_ret, endQ_ret, endR_ret])))
        refine ⟨(i + 1, acc ++ [nx], true), by dsimp only; omega, ⟨by dsimp only; omega, by rw [hf] <;> simp, by simp only [List.length_append, List.length_cons, List.length_nil] at hpl ⊢; omega⟩, ?_⟩
        simp only [List.map_append, List.map_cons, List.map_nil, List.length_append, List.length_cons, List.length_nil]
        rw [itemL_eq nx] at hnx'
        subst hnx
        exact (less_of (by simp [lessL, mkSt, slots, itemA, itemL_eq, storeA, storeT, storeO, itemsRow]) (by simp [upd, mkSt, rowsOf_cons, itemA, itemL_eq, storeA, storeT, storeO, itemsRow]) (by simp [upd, mkSt, usedOf_cons, itemA, itemL_eq, storeA, storeT, storeO, itemsRow]) (by first | exact rd_less (by omega) | simp [mkSt, itemA, itemL_eq, storeA, storeT, storeO, itemsRow]) (by simp [slots, in_any, in_int, in_bool, in_str, in_ptr, in_own, in_agg, in_vnil, in_rdr, usedOf_cons, strs_in, ints_in, nodes_in, items_in, in_tup, itemA, itemL_eq, storeA, storeT, storeO, itemsRow]) (by simp only [List.forall_mem_cons, List.not_mem_nil, false_implies, implies_true, and_true, true_and, itemA, itemL_eq, storeA, storeT, storeO, itemsRow]; (repeat (first | with_reducible exact trivial | with_reducible refine And.intro ?_ ?_ | with_reducible exact in_int | with_reducible exact in_str | with_reducible exact in_bool | with_reducible exact strs_in _ | with_reducible exact nodes_in _ | with_reducible exact items_in _ | with_reducible exact in_vnil | with_reducible exact in_any | exact hin _ | with_reducible refine take_in ?_ | with_reducible exact strsE_in _ | with_reducible exact nodesE_in _ | with_reducible exact nodeL_in _ | with_reducible exact itemsE_in _ | with_reducible exact itemL_in _ | with_reducible refine app_in ?_ ?_ | with_reducible refine sing_in ?_ | (focus (simp [in_any, in_int, in_bool, in_str, in_ptr, in_own, in_agg, in_vnil, in_rdr, usedOf_cons, strs_in, ints_in, nodes_in, items_in, itemA, itemL_eq, storeA, storeT, storeO, itemsRow]; done)))); done))
      · (repeat (first | with_reducible refine AW.seq ?_ | (refine arun_kn 4 rfl (fun C hC => ?_); ((repeat ((conv => whnf); simp [hlt, hw, hw0, h1, h2, hl, hb1, hb2, hb3, hb4, List.length_append])); refine hC _ ?_; clear hC C; simp only [List.drop_succ_cons, List.drop_zero, List.drop_nil, Nat.reduceAdd])) | (refine arun_kn 1 rfl (fun C hC => ?_); ((repeat ((conv => whnf); simp [hlt, hw, hw0, h1, h2, hl, hb1, hb2, hb3, hb4, List.length_append])); refine hC _ ?_; clear hC C; simp only [List.drop_succ_cons, List.drop_zero, List.drop_nil, Nat.reduceAdd])) | (refine arun_skip ?_ ?_; (focus (simp [awant, hlt, hw, hw0, h1, h2, hl, hb1, hb2, hb3, hb4, List.length_append]; done))) | (refine arunD_kn 4 rfl (fun C hC => ?_); ((repeat ((conv => whnf); simp [hlt, hw, hw0, h1, h2, hl, hb1, hb2, hb3, hb4, List.length_append])); refine hC _ ?_; clear hC C; simp only [List.drop_succ_cons, List.drop_zero, List.drop_nil, Nat.reduceAdd])) | (refine arunD_kn 1 rfl (fun C hC => ?_); ((repeat ((conv => whnf); simp [hlt, hw, hw0, h1, h2, hl, hb1, hb2, hb3, hb4, List.length_append])); refine hC _ ?_; clear hC C; simp only [List.drop_succ_cons, List.drop_zero, List.drop_nil, Nat.reduceAdd])) | (refine arun_nil ?_; (refine hK _ ?_; clear hK K; simp only [thenA_normal, inBlockA_normal, endQ_normal, endR_normal])) | (refine arunD_nil ?_; (refine hK _ ?_; clear hK K; simp only [thenA_normal, inBlockA_normal, endQ_normal, endR_normal])) | (refine AW.regionK [] (fun K hK => ?_)) | (refine AW.regionDK [] (pcs [] []) (by kernel_rfl) (by kernel_rfl) (fun K hK => ?_)) | (refine AW.condT ?_ ?_; (focus (simp [aev, hlt, hw, hw0, h1, h2, hl, hb1, hb2, hb3, hb4, List.length_append]; done))) | (refine AW.condF ?_ ?_; (focus (simp [aev, hlt, hw, hw0, h1, h2, hl, hb1, hb2, hb3, hb4, List.length_append]; done))) | (refine AW.skip ?_; simp only [thenA_normal, inBlockA_normal]) | with_reducible refine AW.block ?_ | (refine AW.exit ?_; simp only [thenA_exit, inBlockA_exit, if_true, if_false, Nat.reduceEqDiff, thenA_normal, inBlockA_normal, reduceIte]) | (refine AW.ret ?_; simp only [thenA_ret, inBlockA_ret, endQ_ret, endR_ret])))
        refine ⟨(i + 1, acc ++ [s.1[i]], false), by dsimp only; omega, ⟨by dsimp only; omega, by rw [hf] <;> simp, by simp only [List.length_append, List.length_cons, List.length_nil] at hpl ⊢; omega⟩, ?_⟩
        simp only [List.map_append, List.map_cons, List.map_nil, List.length_append, List.length_cons, List.length_nil]
        rw [itemL_eq nx] at hnx'
        subst hnx
        exact (less_of (by simp [lessL, mkSt, slots, itemA, itemL_eq, storeA, storeT, storeO, itemsRow]) (by simp [upd, mkSt, rowsOf_cons, itemA, itemL_eq, storeA, storeT, storeO, itemsRow]) (by simp [upd, mkSt, usedOf_cons, itemA, itemL_eq, storeA, storeT, storeO, itemsRow]) (by first | exact rd_less (by omega) | simp [mkSt, itemA, itemL_eq, storeA, storeT, storeO, itemsRow]) (by simp [slots, in_any, in_int, in_bool, in_str, in_ptr, in_own, in_agg, in_vnil, in_rdr, usedOf_cons, strs_in, ints_in, nodes_in, items_in, in_tup, itemA, itemL_eq, storeA, storeT, storeO, itemsRow]) (by simp only [List.forall_mem_cons, List.not_mem_nil, false_implies, implies_true, and_true, true_and, itemA, itemL_eq, storeA, storeT, storeO, itemsRow]; (repeat (first | with_reducible exact trivial | with_reducible refine And.intro ?_ ?_ | with_reducible exact in_int | with_reducible exact in_str | with_reducible exact in_bool | with_reducible exact strs_in _ | with_reducible exact nodes_in _ | with_reducible exact items_in _ | with_reducible exact in_vnil | with_reducible exact in_any | exact hin _ | with_reducible refine take_in ?_ | with_reducible exact strsE_in _ | with_reducible exact nodesE_in _ | with_reducible exact nodeL_in _ | with_reducible exact itemsE_in _ | with_reducible exact itemL_in _ | with_reducible refine app_in ?_ ?_ | with_reducible refine sing_in ?_ | (focus (simp [in_any, in_int, in_bool, in_str, in_ptr, in_own, in_agg, in_vnil, in_rdr, usedOf_cons, strs_in, ints_in, nodes_in, items_in, itemA, itemL_eq, storeA, storeT, storeO, itemsRow]; done)))); done))
      · (repeat (first | with_reducible refine AW.seq ?_ | (refine arun_kn 4 rfl (fun C hC => ?_); ((repeat ((conv => whnf); simp [hlt, hw, hw0, h1, h2, hl, hb1, hb2, hb3, hb4, List.length_append])); refine hC _ ?_; clear hC C; simp only [List.drop_succ_cons, List.drop_zero, List.drop_nil, Nat.reduceAdd])) | (refine arun_kn 1 rfl (fun C hC => ?_); ((repeat ((conv => whnf); simp [hlt, hw, hw0, h1, h2, hl, hb1, hb2, hb3, hb4, List.length_append])); refine hC _ ?_; clear hC C; simp only [List.drop_succ_cons, List.drop_zero, List.drop_nil, Nat.reduceAdd])) | (refine arun_skip ?_ ?_; (focus (simp [awant, hlt, hw, hw0, h1, h2, hl, hb1, hb2, hb3, hb4, List.length_append]; done))) | (refine arunD_kn 4 rfl (fun C hC => ?_); ((repeat ((conv => whnf); simp [hlt, hw, hw0, h1, h2, hl, hb1, hb2, hb3, hb4, List.length_append])); refine hC _ ?_; clear hC C; simp only [List.drop_succ_cons, List.drop_zero, List.drop_nil, Nat.reduceAdd])) | (refine arunD_kn 1 rfl (fun C hC => ?_); ((repeat ((conv => whnf); simp [hlt, hw, hw0, h1, h2, hl, hb1, hb2, hb3, hb4, List.length_append])); refine hC _ ?_; clear hC C; simp only [List.drop_succ_cons, List.drop_zero, List.drop_nil, Nat.reduceAdd])) | (refine arun_nil ?_; (refine hK _ ?_; clear hK K; simp only [thenA_normal, inBlockA_normal, endQ_normal, endR_normal])) | (refine arunD_nil ?_; (refine hK _ ?_; clear hK K; simp only [thenA_normal, inBlockA_normal, endQ_normal, endR_normal])) | (refine AW.regionK [] (fun K hK => ?_)) | (refine AW.regionDK [] (pcs [] []) (by kernel_rfl) (by kernel_rfl) (fun K hK => ?_)) | (refine AW.condT ?_ ?_; (focus (simp [aev, hlt, hw, hw0, h1, h2, hl, hb1, hb2, hb3, hb4, List.length_append]; done))) | (refine AW.condF ?_ ?_; (focus (simp [aev, hlt, hw, hw0, h1, h2, hl, hb1, hb2, hb3, hb4, List.length_append]; done))) | (refine AW.skip ?_; simp only [thenA_normal, inBlockA_normal]) | with_reducible refine AW.block ?_ | (refine AW.exit ?_; simp only [thenA_exit, inBlockA_exit, if_true, if_false, Nat.reduceEqDiff, thenA_normal, inBlockA_normal, reduceIte]) | (refine AW.ret ?_; simp only [thenA_ret, inBlockA_ret, endQ_ret, endR_ret])))
        refine ⟨(i + 1, acc, false), by dsimp only; omega, ⟨by dsimp only; omega, by rw [hf] <;> simp, by simp only [List.length_append, List.length_cons, List.length_nil] at hpl ⊢; omega⟩, ?_⟩
        simp only [List.map_append, List.map_cons, List.map_nil, List.length_append, List.length_cons, List.length_nil]
        rw [itemL_eq nx] at hnx'
        subst hnx
        exact (less_of (by simp [lessL, mkSt, slots, itemA, itemL_eq, storeA, storeT, storeO, itemsRow]) (by simp [upd, mkSt, rowsOf_cons, itemA, itemL_eq, storeA, storeT, storeO, itemsRow]) (by simp [upd, mkSt, usedOf_cons, itemA, itemL_eq, storeA, storeT, storeO, itemsRow]) (by first | exact rd_less (by omega) | simp [mkSt, itemA, itemL_eq, storeA, storeT, storeO, itemsRow]) (by simp [slots, in_any, in_int, in_bool, in_str, in_ptr, in_own, in_agg, in_vnil, in_rdr, usedOf_cons, strs_in, ints_in, nodes_in, items_in, in_tup, itemA, itemL_eq, storeA, storeT, storeO, itemsRow]) (by simp only [List.forall_mem_cons, List.not_mem_nil, false_implies, implies_true, and_true, true_and, itemA, itemL_eq, storeA, storeT, storeO, itemsRow]; (repeat (first | with_reducible exact trivial | with_reducible refine And.intro ?_ ?_ | with_reducible exact in_int | with_reducible exact in_str | with_reducible exact in_bool | with_reducible exact strs_in _ | with_reducible exact nodes_in _ | with_reducible exact items_in _ | with_reducible exact in_vnil | with_reducible exact in_any | exact hin _ | with_reducible refine take_in ?_ | with_reducible exact strsE_in _ | with_reducible exact nodesE_in _ | with_reducible exact nodeL_in _ | with_reducible exact itemsE_in _ | with_reducible exact itemL_in _ | with_reducible refine app_in ?_ ?_ | with_reducible refine sing_in ?_ | (focus (simp [in_any, in_int, in_bool, in_str, in_ptr, in_own, in_agg, in_vnil, in_rdr, usedOf_cons, strs_in, ints_in, nodes_in, items_in, itemA, itemL_eq, storeA, storeT, storeO, itemsRow]; done)))); done))
      · (repeat (first | with_reducible refine AW.seq ?_ | (refine arun_kn 4 rfl (fun C hC => ?_); ((repeat ((conv => whnf); simp [hlt, hw, hw0, h1, h2, hl, hb1, hb2, hb3, hb4, List.length_append])); refine hC _ ?_; clear hC C; simp only [List.drop_succ_cons, List.drop_zero, List.drop_nil, Nat.reduceAdd])) | (refine arun_kn 1 rfl (fun C hC => ?_); ((repeat ((conv => whnf); simp [hlt, hw, hw0, h1, h2, hl, hb1, hb2, hb3, hb4, List.length_append])); refine hC _ ?_; clear hC C; simp only [List.drop_succ_cons, List.drop_zero, List.drop_nil, Nat.reduceAdd])) | (refine arun_skip ?_ ?_; (focus (simp [awant, hlt, hw, hw0, h1, h2, hl, hb1, hb2, hb3, hb4, List.length_append]; done))) | (refine arunD_kn 4 rfl (fun C hC => ?_); ((repeat ((conv => whnf); simp [hlt, hw, hw0, h1, h2, hl, hb1, hb2, hb3, hb4, List.length_append])); refine hC _ ?_; clear hC C; simp only [List.drop_succ_cons, List.drop_zero, List.drop_nil, Nat.reduceAdd])) | (refine arunD_kn 1 rfl (fun C hC => ?_); ((repeat ((conv => whnf); simp [hlt, hw, hw0, h1, h2, hl, hb1, hb2, hb3, hb4, List.length_append])); refine hC _ ?_; clear hC C; simp only [List.drop_succ_cons, List.drop_zero, List.drop_nil, Nat.reduceAdd])) | (refine arun_nil ?_; (refine hK _ ?_; clear hK K; simp only [thenA_normal, inBlockA_normal, endQ_normal, endR_normal])) | (refine arunD_nil ?_; (refine hK _ ?_; clear hK K; simp only [thenA_normal, inBlockA_normal, endQ_normal, endR_normal])) | (refine AW.regionK [] (fun K hK => ?_)) | (refine AW.regionDK [] (pcs [] []) (by kernel_rfl) (by kernel_rfl) (fun K hK => ?_)) | (refine AW.condT ?_ ?_; (focus (simp [aev, hlt, hw, hw0, h1, h2, hl, hb1, hb2, hb3, hb4, List.length_append]; done))) | (refine AW.condF ?_ ?_; (focus (simp [aev, hlt, hw, hw0, h1, h2, hl, hb1, hb2, hb3, hb4, List.length_append]; done))) | (refine AW.skip ?_; simp only [thenA_normal, inBlockA_normal]) | with_reducible refine AW.block ?_ | (refine AW.exit ?_; simp only [thenA_exit, inBlockA_exit, if_true, if_false, Nat.reduceEqDiff, thenA_normal, inBlockA_normal, reduceIte]) | (refine AW.ret ?_; simp only [thenA_ret, inBlockA_ret, endQ_ret, endR_ret])))
        refine ⟨(i + 1, acc ++ [s.1[i]], true), by dsimp only; omega, ⟨by dsimp only; omega, by rw [hf] <;> simp, by simp only [List.length_append, List.length_cons, List.length_nil] at hpl ⊢; omega⟩, ?_⟩
        simp only [List.map_append, List.map_cons, List.map_nil, List.length_append, List.length_cons, List.length_nil]
        rw [itemL_eq nx] at hnx'
        subst hnx
        exact (less_of (by simp [lessL, mkSt, slots, itemA, itemL_eq, storeA, storeT, storeO, itemsRow]) (by simp [upd, mkSt, rowsOf_cons, itemA, itemL_eq, storeA, storeT, storeO, itemsRow]) (by simp [upd, mkSt, usedOf_cons, itemA, itemL_eq, storeA, storeT, storeO, itemsRow]) (by first | exact rd_less (by omega) | simp [mkSt, itemA, itemL_eq, storeA, storeT, storeO, itemsRow]) (by simp [slots, in_any, in_int, in_bool, in_str, in_ptr, in_own, in_agg, in_vnil, in_rdr, usedOf_cons, strs_in, ints_in, nodes_in, items_in, in_tup, itemA, itemL_eq, storeA, storeT, storeO, itemsRow]) (by simp only [List.forall_mem_cons, List.not_mem_nil, false_implies, implies_true, and_true, true_and, itemA, itemL_eq, storeA, storeT, storeO, itemsRow]; (repeat (first | with_reducible exact trivial | with_reducible refine And.intro ?_ ?_ | with_reducible exact in_int | with_reducible exact in_str | with_reducible exact in_bool | with_reducible exact strs_in _ | with_reducible exact nodes_in _ | with_reducible exact items_in _ | with_reducible exact in_vnil | with_reducible exact in_any | exact hin _ | with_reducible refine take_in ?_ | with_reducible exact strsE_in _ | with_reducible exact nodesE_in _ | with_reducible exact nodeL_in _ | with_reducible exact itemsE_in _ | with_reducible exact itemL_in _ | with_reducible refine app_in ?_ ?_ | with_reducible refine sing_in ?_ | (focus (simp [in_any, in_int, in_bool, in_str, in_ptr, in_own, in_agg, in_vnil, in_rdr, usedOf_cons, strs_in, ints_in, nodes_in, items_in, itemA, itemL_eq, storeA, storeT, storeO, itemsRow]; done)))); done))
      · (repeat (first | with_reducible refine AW.seq ?_ | (refine arun_kn 4 rfl (fun C hC => ?_); ((repeat ((conv => whnf); simp [hlt, hw, hw0, h1, h2, hl, hb1, hb2, hb3, hb4, List.length_append])); refine hC _ ?_; clear hC C; simp only [List.drop_succ_cons, List.drop_zero, List.drop_nil, Nat.reduceAdd])) | (refine arun_kn 1 rfl (fun C hC => ?_); ((repeat ((conv => whnf); simp [hlt, hw, hw0, h1, h2, hl, hb1, hb2, hb3, hb4, List.length_append])); refine hC _ ?_; clear hC C; simp only [List.drop_succ_cons, List.drop_zero, List.drop_nil, Nat.reduceAdd])) | (refine arun_skip ?_ ?_; (focus (simp [awant, hlt, hw, hw0, h1, h2, hl, hb1, hb2, hb3, hb4, List.length_append]; done))) | (refine arunD_kn 4 rfl (fun C hC => ?_); ((repeat ((conv => whnf); simp [hlt, hw, hw0, h1, h2, hl, hb1, hb2, hb3, hb4, List.length_append])); refine hC _ ?_; clear hC C; simp only [List.drop_succ_cons, List.drop_zero, List.drop_nil, Nat.reduceAdd])) | (refine arunD_kn 1 rfl (fun C hC => ?_); ((repeat ((conv => whnf); simp [hlt, hw, hw0, h1, h2, hl, hb1, hb2, hb3, hb4, List.length_append])); refine hC _ ?_; clear hC C; simp only [List.drop_succ_cons, List.drop_zero, List.drop_nil, Nat.reduceAdd])) | (refine arun_nil ?_; (refine hK _ ?_; clear hK K; simp only [thenA_normal, inBlockA_normal, endQ_normal, endR_normal])) | (refine arunD_nil ?_; (refine hK _ ?_; clear hK K; simp only [thenA_normal, inBlockA_normal, endQ_normal, endR_normal])) | (refine AW.regionK [] (fun K hK => ?_)) | (refine AW.regionDK [] (pcs [] []) (by kernel_rfl) (by kernel_rfl) (fun K hK => ?_)) | (refine AW.condT ?_ ?_; (focus (simp [aev, hlt, hw, hw0, h1, h2, hl, hb1, hb2, hb3, hb4, List.length_append]; done))) | (refine AW.condF ?_ ?_; (focus (simp [aev, hlt, hw, hw0, h1, h2, hl, hb1, hb2, hb3, hb4, List.length_append]; done))) | (refine AW.skip ?_; simp only [thenA_normal, inBlockA_normal]) | with_reducible refine AW.block ?_ | (refine AW.exit ?_; simp only [thenA_exit, inBlockA_exit, if_true, if_false, Nat.reduceEqDiff, thenA_normal, inBlockA_normal, reduceIte]) | (refine AW.ret ?_; simp only [thenA_ret, inBlockA_ret, endQ_ret, endR_ret])))
        refine ⟨(i + 1, acc, true), by dsimp only; omega, ⟨by dsimp only; omega, by rw [hf] <;> simp, by simp only [List.length_append, List.length_cons, List.length_nil] at hpl ⊢; omega⟩, ?_⟩
        simp only [List.map_append, List.map_cons, List.map_nil, List.length_append, List.length_cons, List.length_nil]
        rw [itemL_eq nx] at hnx'
        subst hnx
        exact (less_of (by simp [lessL, mkSt, slots, itemA, itemL_eq, storeA, storeT, storeO, itemsRow]) (by simp [upd, mkSt, rowsOf_cons, itemA, itemL_eq, storeA, storeT, storeO, itemsRow]) (by simp [upd, mkSt, usedOf_cons, itemA, itemL_eq, storeA, storeT, storeO, itemsRow]) (by first | exact rd_less (by omega) | simp [mkSt, itemA, itemL_eq, storeA, storeT, storeO, itemsRow]) (by simp [slots, in_any, in_int, in_bool, in_str, in_ptr, in_own, in_agg, in_vnil, in_rdr, usedOf_cons, strs_in, ints_in, nodes_in, items_in, in_tup, itemA, itemL_eq, storeA, storeT, storeO, itemsRow]) (by simp only [List.forall_mem_cons, List.not_mem_nil, false_implies, implies_true, and_true, true_and, itemA, itemL_eq, storeA, storeT, storeO, itemsRow]; (repeat (first | with_reducible exact trivial | with_reducible refine And.intro ?_ ?_ | with_reducible exact in_int | with_reducible exact in_str | with_reducible exact in_bool | with_reducible exact strs_in _ | with_reducible exact nodes_in _ | with_reducible exact items_in _ | with_reducible exact in_vnil | with_reducible exact in_any | exact hin _ | with_reducible refine take_in ?_ | with_reducible exact strsE_in _ | with_reducible exact nodesE_in _ | with_reducible exact nodeL_in _ | with_reducible exact itemsE_in _ | with_reducible exact itemL_in _ | with_reducible refine app_in ?_ ?_ | with_reducible refine sing_in ?_ | (focus (simp [in_any, in_int, in_bool, in_str, in_ptr, in_own, in_agg, in_vnil, in_rdr, usedOf_cons, strs_in, ints_in, nodes_in, items_in, itemA, itemL_eq, storeA, storeT, storeO, itemsRow]; done)))); done))
      · (repeat (first | with_reducible refine AW.seq ?_ | (refine arun_kn 4 rfl (fun C hC => ?_); ((repeat ((conv => whnf); simp [hlt, hw, hw0, h1, h2, hl, hb1, hb2, hb3, hb4, List.length_append])); refine hC _ ?_; clear hC C; simp only [List.drop_succ_cons, List.drop_zero, List.drop_nil, Nat.reduceAdd])) | (refine arun_kn 1 rfl (fun C hC => ?_); ((repeat ((conv => whnf); simp [hlt, hw, hw0, h1, h2, hl, hb1, hb2, hb3, hb4, List.length_append])); refine hC _ ?_; clear hC C; simp only [List.drop_succ_cons, List.drop_zero, List.drop_nil, Nat.reduceAdd])) | (refine arun_skip ?_ ?_; (focus (simp [awant, hlt, hw, hw0, h1, h2, hl, hb1, hb2, hb3, hb4, List.length_append]; done))) | (refine arunD_kn 4 rfl (fun C hC => ?_); ((repeat ((conv => whnf); simp [hlt, hw, hw0, h1, h2, hl, hb1, hb2, hb3, hb4, List.length_append])); refine hC _ ?_; clear hC C; simp only [List.drop_succ_cons, List.drop_zero, List.drop_nil, Nat.reduceAdd])) | (refine arunD_kn 1 rfl (fun C hC => ?_); ((repeat ((conv => whnf); simp [hlt, hw, hw0, h1, h2, hl, hb1, hb2, hb3, hb4, List.length_append])); refine hC _ ?_; clear hC C; simp only [List.drop_succ_cons, List.drop_zero, List.drop_nil, Nat.reduceAdd])) | (refine arun_nil ?_; (refine hK _ ?_; clear hK K; simp only [thenA_normal, inBlockA_normal, endQ_normal, endR_normal])) | (refine arunD_nil ?_; (refine hK _ ?_; clear hK K; simp only [thenA_normal, inBlockA_normal, endQ_normal, endR_normal])) | (refine AW.regionK [] (fun K hK => ?_)) | (refine AW.regionDK [] (pcs [] []) (by kernel_rfl) (by kernel_rfl) (fun K hK => ?_)) | (refine AW.condT ?_ ?_; (focus (simp [aev, hlt, hw, hw0, h1, h2, hl, hb1, hb2, hb3, hb4, List.length_append]; done))) | (refine AW.condF ?_ ?_; (focus (simp [aev, hlt, hw, hw0, h1, h2, hl, hb1, hb2, hb3, hb4, List.length_append]; done))) | (refine AW.skip ?_; simp only [thenA_normal, inBlockA_normal]) | with_reducible refine AW.block ?_ | (refine AW.exit ?_; simp only [thenA_exit, inBlockA_exit, if_true, if_false, Nat.reduceEqDiff, thenA_normal, inBlockA_normal, reduceIte]) | (refine AW.ret ?_; simp only [thenA_ret, inBlockA_ret, endQ_ret, endR_ret])))
        refine ⟨(i + 1, acc ++ [s.1[i]], true), by dsimp only; omega, ⟨by dsimp only; omega, by rw [hf] <;> simp, by simp only [List.length_append, List.length_cons, List.length_nil] at hpl ⊢; omega⟩, ?_⟩
        simp only [List.map_append, List.map_cons, List.map_nil, List.length_append, List.length_cons, List.length_nil]
        rw [itemL_eq nx] at hnx'
        subst hnx
        exact (less_of (by simp [lessL, mkSt, slots, itemA, itemL_eq, storeA, storeT, storeO, itemsRow]) (by simp [upd, mkSt, rowsOf_cons, itemA, itemL_eq, storeA, storeT, storeO, itemsRow]) (by simp [upd, mkSt, usedOf_cons, itemA, itemL_eq, storeA, storeT, storeO, itemsRow]) (by first | exact rd_less (by omega) | simp [mkSt, itemA, itemL_eq, storeA, storeT, storeO, itemsRow]) (by simp [slots, in_any, in_int, in_bool, in_str, in_ptr, in_own, in_agg, in_vnil, in_rdr, usedOf_cons, strs_in, ints_in, nodes_in, items_in, in_tup, itemA, itemL_eq, storeA, storeT, storeO, itemsRow]) (by simp only [List.forall_mem_cons, List.not_mem_nil, false_implies, implies_true, and_true, true_and, itemA, itemL_eq, storeA, storeT, storeO, itemsRow]; (repeat (first | with_reducible exact trivial | with_reducible refine And.intro ?_ ?_ | with_reducible exact in_int | with_reducible exact in_str | with_reducible exact in_bool | with_reducible exact strs_in _ | with_reducible exact nodes_in _ | with_reducible exact items_in _ | with_reducible exact in_vnil | with_reducible exact in_any | exact hin _ | with_reducible refine take_in ?_ | with_reducible exact strsE_in _ | with_reducible exact nodesE_in _ | with_reducible exact nodeL_in _ | with_reducible exact itemsE_in _ | with_reducible exact itemL_in _ | with_reducible refine app_in ?_ ?_ | with_reducible refine sing_in ?_ | (focus (simp [in_any, in_int, in_bool, in_str, in_ptr, in_own, in_agg, in_vnil, in_rdr, usedOf_cons, strs_in, ints_in, nodes_in, items_in, itemA, itemL_eq, storeA, storeT, storeO, itemsRow]; done)))); done))
      · (repeat (first | with_reducible refine AW.seq ?_ | (refine arun_kn 4 rfl (fun C hC => ?_); ((repeat ((conv => whnf); simp [hlt, hw, hw0, h1, h2, hl, hb1, hb2, hb3, hb4, List.length_append])); refine hC _ ?_; clear hC C; simp only [List.drop_succ_cons, List.drop_zero, List.drop_nil, Nat.reduceAdd])) | (refine arun_kn 1 rfl (fun C hC => ?_); ((repeat ((conv => whnf); simp [hlt, hw, hw0, h1, h2, hl, hb1, hb2, hb3, hb4, List.length_append])); refine hC _ ?_; clear hC C; simp only [List.drop_succ_cons, List.drop_zero, List.drop_nil, Nat.reduceAdd])) | (refine arun_skip ?_ ?_; (focus (simp [awant, hlt, hw, hw0, h1, h2, hl, hb1, hb2, hb3, hb4, List.length_append]; done))) | (refine arunD_kn 4 rfl (fun C hC => ?_); ((repeat ((conv => whnf); simp [hlt, hw, hw0, h1, h2, hl, hb1, hb2, hb3, hb4, List.length_append])); refine hC _ ?_; clear hC C; simp only [List.drop_succ_cons, List.drop_zero, List.drop_nil, Nat.reduceAdd])) | (refine arunD_kn 1 rfl (fun C hC => ?_); ((repeat ((conv => whnf); simp [hlt, hw, hw0, h1, h2, hl, hb1, hb2, hb3, hb4, List.length_append])); refine hC _ ?_; clear hC C; simp only [List.drop_succ_cons, List.drop_zero, List.drop_nil, Nat.reduceAdd])) | (refine arun_nil ?_; (refine hK _ ?_; clear hK K; simp only [thenA_normal, inBlockA_normal, endQ_normal, endR_normal])) | (refine arunD_nil ?_; (refine hK _ ?_; clear hK K; simp only [thenA_normal, inBlockA_normal, endQ_normal, endR_normal])) | (refine AW.regionK [] (fun K hK => ?_)) | (refine AW.regionDK [] (pcs [] []) (by kernel_rfl) (by kernel_rfl) (fun K hK => ?_)) | (refine AW.condT ?_ ?_; (focus (simp [aev, hlt, hw, hw0, h1, h2, hl, hb1, hb2, hb3, hb4, List.length_append]; done))) | (refine AW.condF ?_ ?_; (focus (simp [aev, hlt, hw, hw0, h1, h2, hl, hb1, hb2, hb3, hb4, List.length_append]; done))) | (refine AW.skip ?_; simp only [thenA_normal, inBlockA_normal]) | with_reducible refine AW.block ?_ | (refine AW.exit ?_; simp only [thenA_exit, inBlockA_exit, if_true, if_false, Nat.reduceEqDiff, thenA_normal, inBlockA_normal, reduceIte]) | (refine AW.ret ?_; simp only [thenA_ret, inBlockA_ret, endQ_ret, endR_ret])))
        refine ⟨(i + 1, acc, true), by dsimp only; omega, ⟨by dsimp only; omega, by rw [hf] <;> simp, by simp only [List.length_append, List.length_cons, List.length_nil] at hpl ⊢; omega⟩, ?_⟩
        simp only [List.map_append, List.map_cons, List.map_nil, List.length_append, List.length_cons, List.length_nil]
        rw [itemL_eq nx] at hnx'
        subst hnx
        exact (less_of (by simp [lessL, mkSt, slots, itemA, itemL_eq, storeA, storeT, storeO, itemsRow]) (by simp [upd, mkSt, rowsOf_cons, itemA, itemL_eq, storeA, storeT, storeO, itemsRow]) (by simp [upd, mkSt, usedOf_cons, itemA, itemL_eq, storeA, storeT, storeO, itemsRow]) (by first | exact rd_less (by omega) | simp [mkSt, itemA, itemL_eq, storeA, storeT, storeO, itemsRow]) (by simp [slots, in_any, in_int, in_bool, in_str, in_ptr, in_own, in_agg, in_vnil, in_rdr, usedOf_cons, strs_in, ints_in, nodes_in, items_in, in_tup, itemA, itemL_eq, storeA, storeT, storeO, itemsRow]) (by simp only [List.forall_mem_cons, List.not_mem_nil, false_implies, implies_true, and_true, true_and, itemA, itemL_eq, storeA, storeT, storeO, itemsRow]; (repeat (first | with_reducible exact trivial | with_reducible refine And.intro ?_ ?_ | with_reducible exact in_int | with_reducible exact in_str | with_reducible exact in_bool | with_reducible exact strs_in _ | with_reducible exact nodes_in _ | with_reducible exact items_in _ | with_reducible exact in_vnil | with_reducible exact in_any | exact hin _ | with_reducible refine take_in ?_ | with_reducible exact strsE_in _ | with_reducible exact nodesE_in _ | with_reducible exact nodeL_in _ | with_reducible exact itemsE_in _ | with_reducible exact itemL_in _ | with_reducible refine app_in ?_ ?_ | with_reducible refine sing_in ?_ | (focus (simp [in_any, in_int, in_bool, in_str, in_ptr, in_own, in_agg, in_vnil, in_rdr, usedOf_cons, strs_in, ints_in, nodes_in, items_in, itemA, itemL_eq, storeA, storeT, storeO, itemsRow]; done)))); done))
    · have hi' : s.1.drop i = [] := List.drop_eq_nil_of_le (by omega)
      rw [hi', putL] at hf
      rw [hnx']
      cases d
      · (repeat (first | with_reducible refine AW.seq ?_ | (refine arun_kn 4 rfl (fun C hC => ?_); ((repeat ((conv => whnf); simp [hlt, hw0, hl, hb1, hb2])); refine hC _ ?_; clear hC C; simp only [List.drop_succ_cons, List.drop_zero, List.drop_nil, Nat.reduceAdd])) | (refine arun_kn 1 rfl (fun C hC => ?_); ((repeat ((conv => whnf); simp [hlt, hw0, hl, hb1, hb2])); refine hC _ ?_; clear hC C; simp only [List.drop_succ_cons, List.drop_zero, List.drop_nil, Nat.reduceAdd])) | (refine arun_skip ?_ ?_; (focus (simp [awant, hlt, hw0, hl, hb1, hb2]; done))) | (refine arunD_kn 4 rfl (fun C hC => ?_); ((repeat ((conv => whnf); simp [hlt, hw0, hl, hb1, hb2])); refine hC _ ?_; clear hC C; simp only [List.drop_succ_cons, List.drop_zero, List.drop_nil, Nat.reduceAdd])) | (refine arunD_kn 1 rfl (fun C hC => ?_); ((repeat ((conv => whnf); simp [hlt, hw0, hl, hb1, hb2])); refine hC _ ?_; clear hC C; simp only [List.drop_succ_cons, List.drop_zero, List.drop_nil, Nat.reduceAdd])) | (refine arun_nil ?_; (refine hK _ ?_; clear hK K; simp only [thenA_normal, inBlockA_normal, endQ_normal, endR_normal])) | (refine arunD_nil ?_; (refine hK _ ?_; clear hK K; simp only [thenA_normal, inBlockA_normal, endQ_normal, endR_normal])) | (refine AW.regionK [] (fun K hK => ?_)) | (refine AW.regionDK [] (pcs [] []) (by kernel_rfl) (by kernel_rfl) (fun K hK => ?_)) | (refine AW.condT ?_ ?_; (focus (simp [aev, hlt, hw0, hl, hb1, hb2]; done))) | (refine AW.condF ?_ ?_; (focus (simp [aev, hlt, hw0, hl, hb1, hb2]; done))) | (refine AW.skip ?_; simp only [thenA_normal, inBlockA_normal]) | with_reducible refine AW.block ?_ | (refine AW.exit ?_; simp only [thenA_exit, inBlockA_exit, if_true, if_false, Nat.reduceEqDiff, thenA_normal, inBlockA_normal, reduceIte]) | (refine AW.ret ?_; simp only [thenA_ret, inBlockA_ret, endQ_ret, endR_ret])))
        have e : putS s nm n = (acc ++ [nx], s.2 + 1) := by unfold putS; rw [hnx, hf]; rfl
        exact ⟨storeO (putS s nm n) 7, by rw [e]; simp [ares, aresL, upd, rowsOf_cons], .inr ⟨storeO (putS s nm n), 7, itemsRow (putS s nm n), rfl, by rw [e]; subst hnx; simp [upd, rowsOf_cons, itemsRow], storeO_res _ 7, itemsE_pur _, rfl, rfl⟩⟩
      · (repeat (first | with_reducible refine AW.seq ?_ | (refine arun_kn 4 rfl (fun C hC => ?_); ((repeat ((conv => whnf); simp [hlt, hw0, hl, hb1, hb2])); refine hC _ ?_; clear hC C; simp only [List.drop_succ_cons, List.drop_zero, List.drop_nil, Nat.reduceAdd])) | (refine arun_kn 1 rfl (fun C hC => ?_); ((repeat ((conv => whnf); simp [hlt, hw0, hl, hb1, hb2])); refine hC _ ?_; clear hC C; simp only [List.drop_succ_cons, List.drop_zero, List.drop_nil, Nat.reduceAdd])) | (refine arun_skip ?_ ?_; (focus (simp [awant, hlt, hw0, hl, hb1, hb2]; done))) | (refine arunD_kn 4 rfl (fun C hC => ?_); ((repeat ((conv => whnf); simp [hlt, hw0, hl, hb1, hb2])); refine hC _ ?_; clear hC C; simp only [List.drop_succ_cons, List.drop_zero, List.drop_nil, Nat.reduceAdd])) | (refine arunD_kn 1 rfl (fun C hC => ?_); ((repeat ((conv => whnf); simp [hlt, hw0, hl, hb1, hb2])); refine hC _ ?_; clear hC C; simp only [List.drop_succ_cons, List.drop_zero, List.drop_nil, Nat.reduceAdd])) | (refine arun_nil ?_; (refine hK _ ?_; clear hK K; simp only [thenA_normal, inBlockA_normal, endQ_normal, endR_normal])) | (refine arunD_nil ?_; (refine hK _ ?_; clear hK K; simp only [thenA_normal, inBlockA_normal, endQ_normal, endR_normal])) | (refine AW.regionK [] (fun K hK => ?_)) | (refine AW.regionDK [] (pcs [] []) (by kernel_rfl) (by kernel_rfl) (fun K hK => ?_)) | (refine AW.condT ?_ ?_; (focus (simp [aev, hlt, hw0, hl, hb1, hb2]; done))) | (refine AW.condF ?_ ?_; (focus (simp [aev, hlt, hw0, hl, hb1, hb2]; done))) | (refine AW.skip ?_; simp only [thenA_normal, inBlockA_normal]) | with_reducible refine AW.block ?_ | (refine AW.exit ?_; simp only [thenA_exit, inBlockA_exit, if_true, if_false, Nat.reduceEqDiff, thenA_normal, inBlockA_normal, reduceIte]) | (refine AW.ret ?_; simp only [thenA_ret, inBlockA_ret, endQ_ret, endR_ret])))
        have e : putS s nm n = (acc, s.2 + 1) := by unfold putS; rw [hnx, hf]; simp
        exact ⟨storeO (putS s nm n) 7, by rw [e]; simp [ares, aresL, upd, rowsOf_cons], .inr ⟨storeO (putS s nm n), 7, itemsRow (putS s nm n), rfl, by rw [e]; subst hnx; simp [upd, rowsOf_cons, itemsRow], storeO_res _ 7, itemsE_pur _, rfl, rfl⟩⟩
end Go.Proofs.Ytmeobmegnneegaa.Eng

/-
  A region that draws its order, makes memory and stores into a box of the call's own.
-/
namespace Go.Proofs.Ytmeobmegnneegaa
open Go Go.RowKit

def RB (b n : Nat) (K : World → Prop) (w w' : World) : Prop := Ext (fun k => k = b) w w' ∧ (RowIn w b n → RowIn w' b n) ∧ (K w → K w')

theorem RB.refl (b n : Nat) (K : World → Prop) (w : World) : RB b n K w w := ⟨Ext.refl _ _, fun h => h, fun h => h⟩
theorem RB.trans {b n : Nat} {K : World → Prop} {a c d : World} (h : RB b n K a c) (k : RB b n K c d) : RB b n K a d := ⟨h.1.trans k.1, fun x => k.2.1 (h.2.1 x), fun x => k.2.2 (h.2.2 x)⟩

structure LaterB (b n : Nat) (K : World → Prop) (w : World) : Type where
  at' : World
  rel : RB b n K w at'
def laterB {b n : Nat} {K : World → Prop} (w : World) (x : LaterB b n K w) : World := x.at'
instance laterB_some (b n : Nat) (K : World → Prop) (w : World) : Nonempty (LaterB b n K w) := ⟨⟨w, RB.refl _ _ _ _⟩⟩
theorem laterB_rel {b n : Nat} {K : World → Prop} (w : World) (x : LaterB b n K w) : RB b n K w (laterB w x) := x.rel

@[go_sem] theorem laterB_cell {b n : Nat} {K : World → Prop} (w : World) (x : LaterB b n K w) (a : Addr) (h : (w.cell? a).isSome = true) (hb : ¬ a.block = b) : (laterB w x).cell? a = w.cell? a := by
  obtain ⟨v, hv⟩ := Option.isSome_iff_exists.1 h
  rw [hv]; exact (laterB_rel w x).1.some hv hb

section
variable {P : Program} {ops : Array Oper} {Vs : Nat → Option (Value → World → Prop)} {w : World} {Q : Act → World → Prop} {b n : Nat} {K : World → Prop}

end

end Go.Proofs.Ytmeobmegnneegaa

/-
  The walks of impl.ValidStore and spec.validStore.
-/
namespace Go.Proofs.Ytmeobmegnneegaa
open Go.RowKit

theorem bl_ne {a b : ByteArray} (h : lt a b = true) : (a.toList == b.toList) = false := by
  cases h' : a.toList == b.toList
  · rfl
  · have : a.toList = b.toList := by simpa using h'
    unfold lt at h
    rw [this, bl_irrefl] at h; cases h

theorem isName_same (x : ByteArray) (w : World) (hs : x.size ≤ big) : Calls Try.prog 77 #[.string x] w fun e w' => e = .returned (.bool (nameB x)) ∧ w' = w :=
  (isName_ok x w hs).mono fun _ _ ⟨h1, h2⟩ => ⟨h1, h2.symm⟩

set_option maxHeartbeats 4000000 in
theorem ValidStore_ok (s : Sto) (v : Value) (w : World) (h : RV stoRep packA w any s v) :
    Calls Try.prog 42 #[v] w fun e w' => e = .returned (.bool (storeB s)) ∧ Grow w w' := by
  obtain ⟨a, c, rfl, hs⟩ := sto_open h
  have hbig : s.1.length ≤ 9223372036854775807 := hs.2.1
  have Hs := Lib.hid hs
  clear h hs
  unfold stoV
  by_cases hbad : 10 < s.1.length ∨ s.2 < 0 ∨ 999 < s.2
  · have Hb : Hid (storeB s = false) := Lib.hid (by simp only [storeB, inR, Bool.and_eq_false_iff, decide_eq_false_iff_not]; omega)
    rcases hbad with hb | hb | hb
    · go_enter Try.func42, Try.ntmps42
      go_wp2_with fail
      go_ret
      exact ⟨by simp [Hb.out], (by repeat (first | with_reducible exact Ext.refl _ _ | with_reducible refine Ext.trans ?_ (by assumption) | with_reducible refine Ext.drew ?_ | with_reducible refine Ext.drewN ?_ _ | with_reducible refine Ext.alloc ?_ _ | with_reducible refine Ext.setNew ?_ (by simp; done) _ | with_reducible refine Ext.setNew ?_ (by simp; omega) _))⟩
    · by_cases hl : 10 < s.1.length
      all_goals
        go_enter Try.func42, Try.ntmps42
        go_wp2_with fail
        go_ret
        exact ⟨by simp [Hb.out], (by repeat (first | with_reducible exact Ext.refl _ _ | with_reducible refine Ext.trans ?_ (by assumption) | with_reducible refine Ext.drew ?_ | with_reducible refine Ext.drewN ?_ _ | with_reducible refine Ext.alloc ?_ _ | with_reducible refine Ext.setNew ?_ (by simp; done) _ | with_reducible refine Ext.setNew ?_ (by simp; omega) _))⟩
    · by_cases hl : 10 < s.1.length
      · go_enter Try.func42, Try.ntmps42
        go_wp2_with fail
        go_ret
        exact ⟨by simp [Hb.out], (by repeat (first | with_reducible exact Ext.refl _ _ | with_reducible refine Ext.trans ?_ (by assumption) | with_reducible refine Ext.drew ?_ | with_reducible refine Ext.drewN ?_ _ | with_reducible refine Ext.alloc ?_ _ | with_reducible refine Ext.setNew ?_ (by simp; done) _ | with_reducible refine Ext.setNew ?_ (by simp; omega) _))⟩
      · have h0 : 0 ≤ s.2 := by omega
        go_enter Try.func42, Try.ntmps42
        go_wp2_with fail
        go_ret
        exact ⟨by simp [Hb.out], (by repeat (first | with_reducible exact Ext.refl _ _ | with_reducible refine Ext.trans ?_ (by assumption) | with_reducible refine Ext.drew ?_ | with_reducible refine Ext.drewN ?_ _ | with_reducible refine Ext.alloc ?_ _ | with_reducible refine Ext.setNew ?_ (by simp; done) _ | with_reducible refine Ext.setNew ?_ (by simp; omega) _))⟩
  have hl : s.1.length ≤ 10 := by omega
  have h0 : 0 ≤ s.2 := by omega
  have h9 : s.2 ≤ 999 := by omega
  have Hb : Hid (storeB s = itmsB s.2 s.1) := Lib.hid (by simp [storeB, inR, hl, h0, h9])
  clear hbad
  have HB := Lib.hid (BoxN.new w [.slice a s.1.length c, .int .i64 s.2] 33)
  go_enter Try.func42, Try.ntmps42
  go_wp2_with fail
  go_loopw [2, 3, 4, 22] (fun n _ _ i wr => n = .bool false ∧ Grow w wr ∧ BoxN wr w.heap.size [.slice a s.1.length c, .int .i64 s.2] ∧ ∃ k : Nat, k ≤ s.1.length ∧ i = .int .i64 k ∧ Hid (itmsB s.2 s.1 = itmsAt s.2 s.1 k)) (fun _ _ _ i _ => s.1.length - (intOf i).toNat)
  case atStart => exact ⟨rfl, (by repeat (first | with_reducible exact Ext.refl _ _ | with_reducible refine Ext.trans ?_ (by assumption) | with_reducible refine Ext.drew ?_ | with_reducible refine Ext.drewN ?_ _ | with_reducible refine Ext.alloc ?_ _ | with_reducible refine Ext.setNew ?_ (by simp; done) _ | with_reducible refine Ext.setNew ?_ (by simp; omega) _)), HB.out, 0, Nat.zero_le _, rfl, Lib.hid (itmsAt_zero _ _).symm⟩
  case round =>
    obtain ⟨rfl, hg, hB, k, hk, rfl, Hr⟩ := hrel
    have HB := Lib.hid hB
    have zB := hB.lt
    clear hB
    by_cases hlt : k < s.1.length
    · obtain ⟨_, _, hks⟩ := (Hs.out).grow hg
      rcases hks with hks | ⟨bk, ok, rfl, _, hkr⟩
      · simp [hks] at hlt
      obtain ⟨cs, hcs, hx⟩ := hkr k hlt
      obtain ⟨na0, nc0, ka0, kc0, rfl, hsz, h0⟩ := itmRep_open hx
      rw [itmRep_n] at hcs
      have x0 : wr.cell? ⟨bk, ok + k * 7, none⟩ = _ := hcs 0 _ rfl
      have x1 := hcs 1 _ rfl
      have x2 := hcs 2 _ rfl
      have x3 := hcs 3 _ rfl
      have x4 := hcs 4 _ rfl
      have x5 := hcs 5 _ rfl
      have x6 := hcs 6 _ rfl
      have zb : bk < wr.heap.size := lt_of_cell x0
      have H0 := Lib.hid h0
      have q0 := HB.out.cell 0 _ rfl
      have q1 := HB.out.cell 1 _ rfl
      have prev : ∀ h0 : 0 < k, wr.cell? ⟨bk, ok + (k - 1) * 7, none⟩ = some (.string (s.1[k - 1]'(by omega)).1) := fun h0 => by
        obtain ⟨cs', hcs', hx'⟩ := hkr (k - 1) (by omega)
        obtain ⟨_, _, _, _, rfl, _, _⟩ := itmRep_open hx'
        rw [itmRep_n] at hcs'
        exact hcs' 0 _ rfl
      have Prev := Lib.hid prev
      clear hkr hcs hx h0 prev
      have hg1 : ∀ o : Obj, Grow w (wr.alloc o) := fun o => hg.alloc o
      by_cases hbad : nameB s.1[k].1 = false ∨ (0 < k ∧ lt (s.1[k - 1]'(by omega)).1 s.1[k].1 = false)
      · have Hs : Hid (itmsAt s.2 s.1 k = false) := Lib.hid (itmsAt_bad hlt (hbad.imp (fun h => by unfold itmB; rw [h]; rfl) id))
        by_cases hn : nameB s.1[k].1 = false
        · have Hn := Lib.hid hn
          clear hn hbad
          go_wp2_with fail
          go_quiet ((go_at_call 77; exact Calls.quiet_of_same (by simpa only [Hn.out] using isName_same s.1[k].1 _ hsz)))
          go_wp2_with fail
          go_ret
          exact ⟨by simp [Hb.out, Hr.out, Hs.out], (by repeat (first | with_reducible exact Ext.refl _ _ | with_reducible refine Ext.trans ?_ (by assumption) | with_reducible refine Ext.drew ?_ | with_reducible refine Ext.drewN ?_ _ | with_reducible refine Ext.alloc ?_ _ | with_reducible refine Ext.setNew ?_ (by simp; done) _ | with_reducible refine Ext.setNew ?_ (by simp; omega) _))⟩
        · have hn : nameB s.1[k].1 = true := by simpa using hn
          obtain ⟨hk0, hlt'⟩ := hbad.resolve_left (by simp [hn])
          have Hn := Lib.hid hn
          have hki : (0 : Int) < (k : Int) := by omega
          have y0 := Prev.out hk0
          have k1 : ((k : Int) - 1).toNat = k - 1 := by omega
          have k2 : (0 : Int) ≤ (k : Int) - 1 := by omega
          have k3 : (k : Int) - 1 < (s.1.length : Int) := by omega
          clear hn
          rcases bl_cases (s.1[k - 1]'(by omega)).1 s.1[k].1 with ⟨l1, l2, l3, l4, _⟩ | ⟨l1, l2, l3, l4, _⟩ | l0
          · have := hlt'.symm.trans l1; cases this
          · clear hlt'
            go_wp2_with fail
            go_quiet ((go_at_call 77; exact Calls.quiet_of_same (by simpa only [Hn.out] using isName_same s.1[k].1 _ hsz)))
            go_wp2_with fail
            go_ret
            exact ⟨by simp [Hb.out, Hr.out, Hs.out], (by repeat (first | with_reducible exact Ext.refl _ _ | with_reducible refine Ext.trans ?_ (by assumption) | with_reducible refine Ext.drew ?_ | with_reducible refine Ext.drewN ?_ _ | with_reducible refine Ext.alloc ?_ _ | with_reducible refine Ext.setNew ?_ (by simp; done) _ | with_reducible refine Ext.setNew ?_ (by simp; omega) _))⟩
          · rw [l0] at y0
            clear l0 hlt'
            have l1 := blF_irrefl s.1[k].1
            go_wp2_with fail
            go_quiet ((go_at_call 77; exact Calls.quiet_of_same (by simpa only [Hn.out] using isName_same s.1[k].1 _ hsz)))
            go_wp2_with fail
            go_ret
            exact ⟨by simp [Hb.out, Hr.out, Hs.out], (by repeat (first | with_reducible exact Ext.refl _ _ | with_reducible refine Ext.trans ?_ (by assumption) | with_reducible refine Ext.drew ?_ | with_reducible refine Ext.drewN ?_ _ | with_reducible refine Ext.alloc ?_ _ | with_reducible refine Ext.setNew ?_ (by simp; done) _ | with_reducible refine Ext.setNew ?_ (by simp; omega) _))⟩
      · have hn : nameB s.1[k].1 = true := by
          cases h : nameB s.1[k].1
          · exact absurd (.inl h) hbad
          · rfl
        have hord : ∀ h0 : 0 < k, lt (s.1[k - 1]'(by omega)).1 s.1[k].1 = true := fun h0 => by
          cases h : lt (s.1[k - 1]'(by omega)).1 s.1[k].1
          · exact absurd (.inr ⟨h0, h⟩) hbad
          · rfl
        have Hn := Lib.hid hn
        have Hord := Lib.hid hord
        have fin : ∀ (wz : World), Hid (itmB s.2 s.1[k] = (inR s.1[k].2.1 1 s.2 && validB s.1[k].2.2)) := fun _ => Lib.hid (by unfold itmB; rw [hn]; rfl)
        have Hi := fin w
        clear hbad hn hord fin
        by_cases hk0 : 0 < k
        · have hki : (0 : Int) < (k : Int) := by omega
          have y0 := Prev.out hk0
          have k1 : ((k : Int) - 1).toNat = k - 1 := by omega
          have k2 : (0 : Int) ≤ (k : Int) - 1 := by omega
          have k3 : (k : Int) - 1 < (s.1.length : Int) := by omega
          have l1 : lt (s.1[k - 1]'(by omega)).1 s.1[k].1 = true := Hord.out hk0
          have l2 : Op.bytesLess s.1[k].1.toList (s.1[k - 1]'(by omega)).1.toList = false := bl_asymm _ _ l1
          have l3 : ((s.1[k - 1]'(by omega)).1.toList == s.1[k].1.toList) = false := bl_ne l1
          go_wp2_with fail
          go_quiet ((go_at_call 77; exact Calls.quiet_of_same (by simpa only [Hn.out] using isName_same s.1[k].1 _ hsz)))
          by_cases hv1 : s.1[k].2.1 < 1
          · have Hs : Hid (itmsAt s.2 s.1 k = false) := Lib.hid (itmsAt_bad hlt (.inl (by rw [Hi.out]; simp [inR]; omega)))
            go_wp2_with fail
            go_ret
            exact ⟨by simp [Hb.out, Hr.out, Hs.out], (by repeat (first | with_reducible exact Ext.refl _ _ | with_reducible refine Ext.trans ?_ (by assumption) | with_reducible refine Ext.drew ?_ | with_reducible refine Ext.drewN ?_ _ | with_reducible refine Ext.alloc ?_ _ | with_reducible refine Ext.setNew ?_ (by simp; done) _ | with_reducible refine Ext.setNew ?_ (by simp; omega) _))⟩
          by_cases hv2 : s.2 < s.1[k].2.1
          · have Hs : Hid (itmsAt s.2 s.1 k = false) := Lib.hid (itmsAt_bad hlt (.inl (by rw [Hi.out]; simp [inR]; omega)))
            go_wp2_with fail
            go_ret
            exact ⟨by simp [Hb.out, Hr.out, Hs.out], (by repeat (first | with_reducible exact Ext.refl _ _ | with_reducible refine Ext.trans ?_ (by assumption) | with_reducible refine Ext.drew ?_ | with_reducible refine Ext.drewN ?_ _ | with_reducible refine Ext.alloc ?_ _ | with_reducible refine Ext.setNew ?_ (by simp; done) _ | with_reducible refine Ext.setNew ?_ (by simp; omega) _))⟩
          cases hvb : validB s.1[k].2.2
          · have Hs : Hid (itmsAt s.2 s.1 k = false) := Lib.hid (itmsAt_bad hlt (.inl (by rw [Hi.out, hvb]; simp)))
            have Hv := Lib.hid hvb
            clear hvb
            go_wp2_with fail
            refine (ValidNode_ok s.1[k].2.2 _ _ ⟨_, _, _, _, rfl, H0.out.grow' (by repeat (first | with_reducible exact Ext.refl _ _ | with_reducible refine Ext.trans ?_ (by assumption) | with_reducible refine Ext.drew ?_ | with_reducible refine Ext.drewN ?_ _ | with_reducible refine Ext.alloc ?_ _ | with_reducible refine Ext.setNew ?_ (by simp; done) _ | with_reducible refine Ext.setNew ?_ (by simp; omega) _))⟩).mono ?_
            rintro e w3 ⟨rfl, hg3⟩
            simp only [Hv.out]
            go_wp2_with fail
            go_ret
            exact ⟨by simp [Hb.out, Hr.out, Hs.out], (by repeat (first | with_reducible exact Ext.refl _ _ | with_reducible refine Ext.trans ?_ (by assumption) | with_reducible refine Ext.drew ?_ | with_reducible refine Ext.drewN ?_ _ | with_reducible refine Ext.alloc ?_ _ | with_reducible refine Ext.setNew ?_ (by simp; done) _ | with_reducible refine Ext.setNew ?_ (by simp; omega) _))⟩
          · have Hs : Hid (itmsAt s.2 s.1 k = itmsAt s.2 s.1 (k + 1)) := Lib.hid (itmsAt_good hlt (by rw [Hi.out, hvb]; simp [inR]; omega) Hord.out)
            have Hv := Lib.hid hvb
            clear hvb
            go_wp2_with fail
            refine (ValidNode_ok s.1[k].2.2 _ _ ⟨_, _, _, _, rfl, H0.out.grow' (by repeat (first | with_reducible exact Ext.refl _ _ | with_reducible refine Ext.trans ?_ (by assumption) | with_reducible refine Ext.drew ?_ | with_reducible refine Ext.drewN ?_ _ | with_reducible refine Ext.alloc ?_ _ | with_reducible refine Ext.setNew ?_ (by simp; done) _ | with_reducible refine Ext.setNew ?_ (by simp; omega) _))⟩).mono ?_
            rintro e w3 ⟨rfl, hg3⟩
            simp only [Hv.out]
            have hgr : Grow wr w3 := (by repeat (first | with_reducible exact Ext.refl _ _ | with_reducible refine Ext.trans ?_ (by assumption) | with_reducible refine Ext.drew ?_ | with_reducible refine Ext.drewN ?_ _ | with_reducible refine Ext.alloc ?_ _ | with_reducible refine Ext.setNew ?_ (by simp; done) _ | with_reducible refine Ext.setNew ?_ (by simp; omega) _))
            go_wp2_with fail
            go_roundw
            case rel => exact ⟨rfl, hg.trans hgr, HB.out.grow hgr, k + 1, by omega, by go_num, Lib.hid (by rw [Hr.out, Hs.out])⟩
            case measure => simp [intOf]; omega
        · have hki : ¬ (0 : Int) < (k : Int) := by omega
          go_wp2_with fail
          go_quiet ((go_at_call 77; exact Calls.quiet_of_same (by simpa only [Hn.out] using isName_same s.1[k].1 _ hsz)))
          by_cases hv1 : s.1[k].2.1 < 1
          · have Hs : Hid (itmsAt s.2 s.1 k = false) := Lib.hid (itmsAt_bad hlt (.inl (by rw [Hi.out]; simp [inR]; omega)))
            go_wp2_with fail
            go_ret
            exact ⟨by simp [Hb.out, Hr.out, Hs.out], (by repeat (first | with_reducible exact Ext.refl _ _ | with_reducible refine Ext.trans ?_ (by assumption) | with_reducible refine Ext.drew ?_ | with_reducible refine Ext.drewN ?_ _ | with_reducible refine Ext.alloc ?_ _ | with_reducible refine Ext.setNew ?_ (by simp; done) _ | with_reducible refine Ext.setNew ?_ (by simp; omega) _))⟩
          by_cases hv2 : s.2 < s.1[k].2.1
          · have Hs : Hid (itmsAt s.2 s.1 k = false) := Lib.hid (itmsAt_bad hlt (.inl (by rw [Hi.out]; simp [inR]; omega)))
            go_wp2_with fail
            go_ret
            exact ⟨by simp [Hb.out, Hr.out, Hs.out], (by repeat (first | with_reducible exact Ext.refl _ _ | with_reducible refine Ext.trans ?_ (by assumption) | with_reducible refine Ext.drew ?_ | with_reducible refine Ext.drewN ?_ _ | with_reducible refine Ext.alloc ?_ _ | with_reducible refine Ext.setNew ?_ (by simp; done) _ | with_reducible refine Ext.setNew ?_ (by simp; omega) _))⟩
          cases hvb : validB s.1[k].2.2
          · have Hs : Hid (itmsAt s.2 s.1 k = false) := Lib.hid (itmsAt_bad hlt (.inl (by rw [Hi.out, hvb]; simp)))
            have Hv := Lib.hid hvb
            clear hvb
            go_wp2_with fail
            refine (ValidNode_ok s.1[k].2.2 _ _ ⟨_, _, _, _, rfl, H0.out.grow' (by repeat (first | with_reducible exact Ext.refl _ _ | with_reducible refine Ext.trans ?_ (by assumption) | with_reducible refine Ext.drew ?_ | with_reducible refine Ext.drewN ?_ _ | with_reducible refine Ext.alloc ?_ _ | with_reducible refine Ext.setNew ?_ (by simp; done) _ | with_reducible refine Ext.setNew ?_ (by simp; omega) _))⟩).mono ?_
            rintro e w3 ⟨rfl, hg3⟩
            simp only [Hv.out]
            go_wp2_with fail
            go_ret
            exact ⟨by simp [Hb.out, Hr.out, Hs.out], (by repeat (first | with_reducible exact Ext.refl _ _ | with_reducible refine Ext.trans ?_ (by assumption) | with_reducible refine Ext.drew ?_ | with_reducible refine Ext.drewN ?_ _ | with_reducible refine Ext.alloc ?_ _ | with_reducible refine Ext.setNew ?_ (by simp; done) _ | with_reducible refine Ext.setNew ?_ (by simp; omega) _))⟩
          · have Hs : Hid (itmsAt s.2 s.1 k = itmsAt s.2 s.1 (k + 1)) := Lib.hid (itmsAt_good hlt (by rw [Hi.out, hvb]; simp [inR]; omega) Hord.out)
            have Hv := Lib.hid hvb
            clear hvb
            go_wp2_with fail
            refine (ValidNode_ok s.1[k].2.2 _ _ ⟨_, _, _, _, rfl, H0.out.grow' (by repeat (first | with_reducible exact Ext.refl _ _ | with_reducible refine Ext.trans ?_ (by assumption) | with_reducible refine Ext.drew ?_ | with_reducible refine Ext.drewN ?_ _ | with_reducible refine Ext.alloc ?_ _ | with_reducible refine Ext.setNew ?_ (by simp; done) _ | with_reducible refine Ext.setNew ?_ (by simp; omega) _))⟩).mono ?_
            rintro e w3 ⟨rfl, hg3⟩
            simp only [Hv.out]
            have hgr : Grow wr w3 := (by repeat (first | with_reducible exact Ext.refl _ _ | with_reducible refine Ext.trans ?_ (by assumption) | with_reducible refine Ext.drew ?_ | with_reducible refine Ext.drewN ?_ _ | with_reducible refine Ext.alloc ?_ _ | with_reducible refine Ext.setNew ?_ (by simp; done) _ | with_reducible refine Ext.setNew ?_ (by simp; omega) _))
            go_wp2_with fail
            go_roundw
            case rel => exact ⟨rfl, hg.trans hgr, HB.out.grow hgr, k + 1, by omega, by go_num, Lib.hid (by rw [Hr.out, Hs.out])⟩
            case measure => simp [intOf]; omega
    · have He := Lib.hid (itmsAt_end s.2 s.1 k hlt)
      go_wp2_with fail
      go_ret
      exact ⟨by simp [Hb.out, Hr.out, He.out], hg⟩

end Go.Proofs.Ytmeobmegnneegaa

/-
  The walk of spec.validStore.
-/
namespace Go.Proofs.Ytmeobmegnneegaa
open Go.RowKit

theorem validName_same (x : ByteArray) (w : World) (hs : x.size ≤ big) : Calls Try.prog 71 #[.string x] w fun e w' => e = .returned (.bool (nameB x)) ∧ w' = w :=
  (validName_ok x w hs).mono fun _ _ ⟨h1, h2⟩ => ⟨h1, h2.symm⟩

set_option maxHeartbeats 8000000 in
theorem validStore_ok (s : Sto) (v : Value) (w : World) (h : RV stoRep packA w any s v) :
    Calls Try.prog 70 #[v] w fun e w' => e = .returned (.bool (storeB s)) ∧ Grow w w' := by
  obtain ⟨a, c, rfl, hs⟩ := sto_open h
  have hbig : s.1.length ≤ 9223372036854775807 := hs.2.1
  have Hs := Lib.hid hs
  clear h hs
  unfold stoV
  have Hb : Hid (storeB s = (decide (s.1.length ≤ 10) && inR s.2 0 999 && itmsB s.2 s.1)) := Lib.hid rfl
  have HB := Lib.hid (BoxN.new w [.slice a s.1.length c, .int .i64 s.2] 33)
  go_enter Try.func70, Try.ntmps70
  go_wp2_with fail
  go_loopw [2, 3, 4] (fun n i _ wr => n = .bool false ∧ Grow w wr ∧ BoxN wr w.heap.size [.slice a s.1.length c, .int .i64 s.2] ∧ ∃ k : Nat, k ≤ s.1.length ∧ i = .int .i64 k ∧ Hid (itmsB s.2 s.1 = itmsAt s.2 s.1 k)) (fun _ i _ _ => s.1.length - (intOf i).toNat)
  case atStart => exact ⟨rfl, (by repeat (first | with_reducible exact Ext.refl _ _ | with_reducible refine Ext.trans ?_ (by assumption) | with_reducible refine Ext.drew ?_ | with_reducible refine Ext.drewN ?_ _ | with_reducible refine Ext.alloc ?_ _ | with_reducible refine Ext.setNew ?_ (by simp; done) _ | with_reducible refine Ext.setNew ?_ (by simp; omega) _)), HB.out, 0, Nat.zero_le _, rfl, Lib.hid (itmsAt_zero _ _).symm⟩
  case round =>
    obtain ⟨rfl, hg, hB, k, hk, rfl, Hr⟩ := hrel
    have HB := Lib.hid hB
    have zB := hB.lt
    clear hB
    have q0 := HB.out.cell 0 _ rfl
    have q1 := HB.out.cell 1 _ rfl
    by_cases hlt : k < s.1.length
    · obtain ⟨_, _, hks⟩ := (Hs.out).grow hg
      rcases hks with hks | ⟨bk, ok, rfl, _, hkr⟩
      · simp [hks] at hlt
      obtain ⟨cs, hcs, hx⟩ := hkr k hlt
      obtain ⟨na0, nc0, ka0, kc0, rfl, hsz, h0⟩ := itmRep_open hx
      rw [itmRep_n] at hcs
      have x0 : wr.cell? ⟨bk, ok + k * 7, none⟩ = _ := hcs 0 _ rfl
      have x1 := hcs 1 _ rfl
      have x2 := hcs 2 _ rfl
      have x3 := hcs 3 _ rfl
      have x4 := hcs 4 _ rfl
      have x5 := hcs 5 _ rfl
      have x6 := hcs 6 _ rfl
      have zb : bk < wr.heap.size := lt_of_cell x0
      have H0 := Lib.hid h0
      have prev : ∀ h0 : 0 < k, wr.cell? ⟨bk, ok + (k - 1) * 7, none⟩ = some (.string (s.1[k - 1]'(by omega)).1) := fun h0 => by
        obtain ⟨cs', hcs', hx'⟩ := hkr (k - 1) (by omega)
        obtain ⟨_, _, _, _, rfl, _, _⟩ := itmRep_open hx'
        rw [itmRep_n] at hcs'
        exact hcs' 0 _ rfl
      have Prev := Lib.hid prev
      have HVc : Hid (∀ w', Grow wr w' → Calls Try.prog 72 #[.agg #[.int .i64 s.1[k].2.2.kind, .int .i64 s.1[k].2.2.num, .string s.1[k].2.2.text, .slice na0 s.1[k].2.2.names.length nc0, .slice ka0 s.1[k].2.2.kids.length kc0]] w' fun e w'' => e = .returned (.bool (validB s.1[k].2.2)) ∧ Grow w' w'') := Lib.hid (fun w' hg => validNode_ok s.1[k].2.2 _ _ ⟨_, _, _, _, rfl, H0.out.grow' hg⟩)
      clear hkr hcs hx h0 prev
      by_cases hbad : itmB s.2 s.1[k] = false ∨ (0 < k ∧ lt (s.1[k - 1]'(by omega)).1 s.1[k].1 = false)
      · have Hs' : Hid (itmsAt s.2 s.1 k = false) := Lib.hid (itmsAt_bad hlt hbad)
        have Hsb : Hid (storeB s = false) := Lib.hid (by rw [Hb.out, Hr.out, Hs'.out]; simp)
        cases hn : nameB s.1[k].1
        · have Hn := Lib.hid hn
          clear hn hbad
          go_wp2_with fail
          (refine wp_region_later (by kernel_rfl) (by kernel_rfl) ?_; (repeat (first | go_big_quiet_step ((first | (go_at_call 71; exact later_call_same (v := .bool false) (by simpa only [Hn.out] using validName_same s.1[k].1 _ hsz)) | (go_at_call 72; exact later_call (v := .bool false) (by simpa only [Hv.out] using HVc.out _ (((Ext.refl nil _).alloc _).trans (later_grow _ _)))) | (go_at_call 95; exact later_call_same (v := .bool false) (by simpa only [Hi.out] using inRange_ok s.1[k].2.1 1 s.2 _)))) | quiet_step ((first | (go_at_call 71; exact later_call_same (v := .bool false) (by simpa only [Hn.out] using validName_same s.1[k].1 _ hsz)) | (go_at_call 72; exact later_call (v := .bool false) (by simpa only [Hv.out] using HVc.out _ (((Ext.refl nil _).alloc _).trans (later_grow _ _)))) | (go_at_call 95; exact later_call_same (v := .bool false) (by simpa only [Hi.out] using inRange_ok s.1[k].2.1 1 s.2 _)))))); refine wpQuiet_nil ?_; rintro _ ⟨x_w2, rfl⟩; have hg_w2 := later_grow _ x_w2; generalize later _ x_w2 = w2 at hg_w2 ⊢)
          go_wp2_with fail
          go_ret
          exact ⟨by simp [Hsb.out], (by repeat (first | with_reducible exact Ext.refl _ _ | with_reducible refine Ext.trans ?_ (by assumption) | with_reducible refine Ext.drew ?_ | with_reducible refine Ext.drewN ?_ _ | with_reducible refine Ext.alloc ?_ _ | with_reducible refine Ext.setNew ?_ (by simp; done) _ | with_reducible refine Ext.setNew ?_ (by simp; omega) _))⟩
        have Hn := Lib.hid hn
        cases hv : validB s.1[k].2.2
        · have Hv := Lib.hid hv
          clear hv hn hbad
          go_wp2_with fail
          (refine wp_region_later (by kernel_rfl) (by kernel_rfl) ?_; (repeat (first | go_big_quiet_step ((first | (go_at_call 71; exact later_call_same (v := .bool true) (by simpa only [Hn.out] using validName_same s.1[k].1 _ hsz)) | (go_at_call 72; exact later_call (v := .bool false) (by simpa only [Hv.out] using HVc.out _ (((Ext.refl nil _).alloc _).trans (later_grow _ _)))) | (go_at_call 95; exact later_call_same (v := .bool false) (by simpa only [Hi.out] using inRange_ok s.1[k].2.1 1 s.2 _)))) | quiet_step ((first | (go_at_call 71; exact later_call_same (v := .bool true) (by simpa only [Hn.out] using validName_same s.1[k].1 _ hsz)) | (go_at_call 72; exact later_call (v := .bool false) (by simpa only [Hv.out] using HVc.out _ (((Ext.refl nil _).alloc _).trans (later_grow _ _)))) | (go_at_call 95; exact later_call_same (v := .bool false) (by simpa only [Hi.out] using inRange_ok s.1[k].2.1 1 s.2 _)))))); refine wpQuiet_nil ?_; rintro _ ⟨x_w2, rfl⟩; have hg_w2 := later_grow _ x_w2; generalize later _ x_w2 = w2 at hg_w2 ⊢)
          go_wp2_with fail
          go_ret
          exact ⟨by simp [Hsb.out], (by repeat (first | with_reducible exact Ext.refl _ _ | with_reducible refine Ext.trans ?_ (by assumption) | with_reducible refine Ext.drew ?_ | with_reducible refine Ext.drewN ?_ _ | with_reducible refine Ext.alloc ?_ _ | with_reducible refine Ext.setNew ?_ (by simp; done) _ | with_reducible refine Ext.setNew ?_ (by simp; omega) _))⟩
        have Hv := Lib.hid hv
        cases hi : inR s.1[k].2.1 1 s.2
        · have Hi := Lib.hid hi
          clear hi hv hn hbad
          go_wp2_with fail
          (refine wp_region_later (by kernel_rfl) (by kernel_rfl) ?_; (repeat (first | go_big_quiet_step ((first | (go_at_call 71; exact later_call_same (v := .bool true) (by simpa only [Hn.out] using validName_same s.1[k].1 _ hsz)) | (go_at_call 72; exact later_call (v := .bool true) (by simpa only [Hv.out] using HVc.out _ (((Ext.refl nil _).alloc _).trans (later_grow _ _)))) | (go_at_call 95; exact later_call_same (v := .bool false) (by simpa only [Hi.out] using inRange_ok s.1[k].2.1 1 s.2 _)))) | quiet_step ((first | (go_at_call 71; exact later_call_same (v := .bool true) (by simpa only [Hn.out] using validName_same s.1[k].1 _ hsz)) | (go_at_call 72; exact later_call (v := .bool true) (by simpa only [Hv.out] using HVc.out _ (((Ext.refl nil _).alloc _).trans (later_grow _ _)))) | (go_at_call 95; exact later_call_same (v := .bool false) (by simpa only [Hi.out] using inRange_ok s.1[k].2.1 1 s.2 _)))))); refine wpQuiet_nil ?_; rintro _ ⟨x_w2, rfl⟩; have hg_w2 := later_grow _ x_w2; generalize later _ x_w2 = w2 at hg_w2 ⊢)
          go_wp2_with fail
          go_ret
          exact ⟨by simp [Hsb.out], (by repeat (first | with_reducible exact Ext.refl _ _ | with_reducible refine Ext.trans ?_ (by assumption) | with_reducible refine Ext.drew ?_ | with_reducible refine Ext.drewN ?_ _ | with_reducible refine Ext.alloc ?_ _ | with_reducible refine Ext.setNew ?_ (by simp; done) _ | with_reducible refine Ext.setNew ?_ (by simp; omega) _))⟩
        have Hi := Lib.hid hi
        obtain ⟨hk0, hlt'⟩ := hbad.resolve_left (by simp [itmB, hn, hv, hi])
        have hki : (0 : Int) < (k : Int) := by omega
        have y0 := Prev.out hk0
        have k1 : ((k : Int) - 1).toNat = k - 1 := by omega
        have k2 : (0 : Int) ≤ (k : Int) - 1 := by omega
        have k3 : (k : Int) - 1 < (s.1.length : Int) := by omega
        clear hn hv hi
        rcases bl_cases (s.1[k - 1]'(by omega)).1 s.1[k].1 with ⟨l1, l2, l3, l4, _⟩ | ⟨l1, l2, l3, l4, _⟩ | l0
        · have := hlt'.symm.trans l1; cases this
        · clear hlt'
          go_wp2_with fail
          (refine wp_region_later (by kernel_rfl) (by kernel_rfl) ?_; (repeat (first | go_big_quiet_step ((first | (go_at_call 71; exact later_call_same (v := .bool true) (by simpa only [Hn.out] using validName_same s.1[k].1 _ hsz)) | (go_at_call 72; exact later_call (v := .bool true) (by simpa only [Hv.out] using HVc.out _ (((Ext.refl nil _).alloc _).trans (later_grow _ _)))) | (go_at_call 95; exact later_call_same (v := .bool true) (by simpa only [Hi.out] using inRange_ok s.1[k].2.1 1 s.2 _)))) | quiet_step ((first | (go_at_call 71; exact later_call_same (v := .bool true) (by simpa only [Hn.out] using validName_same s.1[k].1 _ hsz)) | (go_at_call 72; exact later_call (v := .bool true) (by simpa only [Hv.out] using HVc.out _ (((Ext.refl nil _).alloc _).trans (later_grow _ _)))) | (go_at_call 95; exact later_call_same (v := .bool true) (by simpa only [Hi.out] using inRange_ok s.1[k].2.1 1 s.2 _)))))); refine wpQuiet_nil ?_; rintro _ ⟨x_w2, rfl⟩; have hg_w2 := later_grow _ x_w2; generalize later _ x_w2 = w2 at hg_w2 ⊢)
          go_wp2_with fail
          go_ret
          exact ⟨by simp [Hsb.out], (by repeat (first | with_reducible exact Ext.refl _ _ | with_reducible refine Ext.trans ?_ (by assumption) | with_reducible refine Ext.drew ?_ | with_reducible refine Ext.drewN ?_ _ | with_reducible refine Ext.alloc ?_ _ | with_reducible refine Ext.setNew ?_ (by simp; done) _ | with_reducible refine Ext.setNew ?_ (by simp; omega) _))⟩
        · rw [l0] at y0
          clear l0 hlt'
          have l1 := blF_irrefl s.1[k].1
          go_wp2_with fail
          (refine wp_region_later (by kernel_rfl) (by kernel_rfl) ?_; (repeat (first | go_big_quiet_step ((first | (go_at_call 71; exact later_call_same (v := .bool true) (by simpa only [Hn.out] using validName_same s.1[k].1 _ hsz)) | (go_at_call 72; exact later_call (v := .bool true) (by simpa only [Hv.out] using HVc.out _ (((Ext.refl nil _).alloc _).trans (later_grow _ _)))) | (go_at_call 95; exact later_call_same (v := .bool true) (by simpa only [Hi.out] using inRange_ok s.1[k].2.1 1 s.2 _)))) | quiet_step ((first | (go_at_call 71; exact later_call_same (v := .bool true) (by simpa only [Hn.out] using validName_same s.1[k].1 _ hsz)) | (go_at_call 72; exact later_call (v := .bool true) (by simpa only [Hv.out] using HVc.out _ (((Ext.refl nil _).alloc _).trans (later_grow _ _)))) | (go_at_call 95; exact later_call_same (v := .bool true) (by simpa only [Hi.out] using inRange_ok s.1[k].2.1 1 s.2 _)))))); refine wpQuiet_nil ?_; rintro _ ⟨x_w2, rfl⟩; have hg_w2 := later_grow _ x_w2; generalize later _ x_w2 = w2 at hg_w2 ⊢)
          go_wp2_with fail
          go_ret
          exact ⟨by simp [Hsb.out], (by repeat (first | with_reducible exact Ext.refl _ _ | with_reducible refine Ext.trans ?_ (by assumption) | with_reducible refine Ext.drew ?_ | with_reducible refine Ext.drewN ?_ _ | with_reducible refine Ext.alloc ?_ _ | with_reducible refine Ext.setNew ?_ (by simp; done) _ | with_reducible refine Ext.setNew ?_ (by simp; omega) _))⟩
      · have hgood : itmB s.2 s.1[k] = true := by
          cases h : itmB s.2 s.1[k]
          · exact absurd (.inl h) hbad
          · rfl
        have hord : ∀ h0 : 0 < k, lt (s.1[k - 1]'(by omega)).1 s.1[k].1 = true := fun h0 => by
          cases h : lt (s.1[k - 1]'(by omega)).1 s.1[k].1
          · exact absurd (.inr ⟨h0, h⟩) hbad
          · rfl
        have Hord := Lib.hid hord
        have Hs' : Hid (itmsAt s.2 s.1 k = itmsAt s.2 s.1 (k + 1)) := Lib.hid (itmsAt_good hlt hgood hord)
        unfold itmB at hgood
        simp only [Bool.and_eq_true] at hgood
        have Hn := Lib.hid hgood.1.1
        have Hi := Lib.hid hgood.1.2
        have Hv := Lib.hid hgood.2
        clear hbad hgood hord
        by_cases hk0 : 0 < k
        · have hki : (0 : Int) < (k : Int) := by omega
          have y0 := Prev.out hk0
          have k1 : ((k : Int) - 1).toNat = k - 1 := by omega
          have k2 : (0 : Int) ≤ (k : Int) - 1 := by omega
          have k3 : (k : Int) - 1 < (s.1.length : Int) := by omega
          have l1 : lt (s.1[k - 1]'(by omega)).1 s.1[k].1 = true := Hord.out hk0
          have l2 : Op.bytesLess s.1[k].1.toList (s.1[k - 1]'(by omega)).1.toList = false := bl_asymm _ _ l1
          have l3 : ((s.1[k - 1]'(by omega)).1.toList == s.1[k].1.toList) = false := bl_ne l1
          have l4 : (s.1[k].1.toList == (s.1[k - 1]'(by omega)).1.toList) = false := by rw [beq_toList] at l3 ⊢; simp only [decide_eq_false_iff_not] at l3 ⊢; exact fun e => l3 e.symm
          go_wp2_with fail
          (refine wp_region_later (by kernel_rfl) (by kernel_rfl) ?_; (repeat (first | go_big_quiet_step ((first | (go_at_call 71; exact later_call_same (v := .bool true) (by simpa only [Hn.out] using validName_same s.1[k].1 _ hsz)) | (go_at_call 72; exact later_call (v := .bool true) (by simpa only [Hv.out] using HVc.out _ (((Ext.refl nil _).alloc _).trans (later_grow _ _)))) | (go_at_call 95; exact later_call_same (v := .bool true) (by simpa only [Hi.out] using inRange_ok s.1[k].2.1 1 s.2 _)))) | quiet_step ((first | (go_at_call 71; exact later_call_same (v := .bool true) (by simpa only [Hn.out] using validName_same s.1[k].1 _ hsz)) | (go_at_call 72; exact later_call (v := .bool true) (by simpa only [Hv.out] using HVc.out _ (((Ext.refl nil _).alloc _).trans (later_grow _ _)))) | (go_at_call 95; exact later_call_same (v := .bool true) (by simpa only [Hi.out] using inRange_ok s.1[k].2.1 1 s.2 _)))))); refine wpQuiet_nil ?_; rintro _ ⟨x_w2, rfl⟩; have hg_w2 := later_grow _ x_w2; generalize later _ x_w2 = w2 at hg_w2 ⊢)
          have hgr : Grow wr w2 := (by repeat (first | with_reducible exact Ext.refl _ _ | with_reducible refine Ext.trans ?_ (by assumption) | with_reducible refine Ext.drew ?_ | with_reducible refine Ext.drewN ?_ _ | with_reducible refine Ext.alloc ?_ _ | with_reducible refine Ext.setNew ?_ (by simp; done) _ | with_reducible refine Ext.setNew ?_ (by simp; omega) _))
          go_wp2_with fail
          go_roundw
          case rel => exact ⟨rfl, hg.trans hgr, HB.out.grow hgr, k + 1, by omega, by go_num, Lib.hid (by rw [Hr.out, Hs'.out])⟩
          case measure => simp [intOf]; omega
        · have hki : ¬ (0 : Int) < (k : Int) := by omega
          go_wp2_with fail
          (refine wp_region_later (by kernel_rfl) (by kernel_rfl) ?_; (repeat (first | go_big_quiet_step ((first | (go_at_call 71; exact later_call_same (v := .bool true) (by simpa only [Hn.out] using validName_same s.1[k].1 _ hsz)) | (go_at_call 72; exact later_call (v := .bool true) (by simpa only [Hv.out] using HVc.out _ (((Ext.refl nil _).alloc _).trans (later_grow _ _)))) | (go_at_call 95; exact later_call_same (v := .bool true) (by simpa only [Hi.out] using inRange_ok s.1[k].2.1 1 s.2 _)))) | quiet_step ((first | (go_at_call 71; exact later_call_same (v := .bool true) (by simpa only [Hn.out] using validName_same s.1[k].1 _ hsz)) | (go_at_call 72; exact later_call (v := .bool true) (by simpa only [Hv.out] using HVc.out _ (((Ext.refl nil _).alloc _).trans (later_grow _ _)))) | (go_at_call 95; exact later_call_same (v := .bool true) (by simpa only [Hi.out] using inRange_ok s.1[k].2.1 1 s.2 _)))))); refine wpQuiet_nil ?_; rintro _ ⟨x_w2, rfl⟩; have hg_w2 := later_grow _ x_w2; generalize later _ x_w2 = w2 at hg_w2 ⊢)
          have hgr : Grow wr w2 := (by repeat (first | with_reducible exact Ext.refl _ _ | with_reducible refine Ext.trans ?_ (by assumption) | with_reducible refine Ext.drew ?_ | with_reducible refine Ext.drewN ?_ _ | with_reducible refine Ext.alloc ?_ _ | with_reducible refine Ext.setNew ?_ (by simp; done) _ | with_reducible refine Ext.setNew ?_ (by simp; omega) _))
          go_wp2_with fail
          go_roundw
          case rel => exact ⟨rfl, hg.trans hgr, HB.out.grow hgr, k + 1, by omega, by go_num, Lib.hid (by rw [Hr.out, Hs'.out])⟩
          case measure => simp [intOf]; omega
    · have He := Lib.hid (itmsAt_end s.2 s.1 k hlt)
      by_cases hl : s.1.length ≤ 10
      · have Hf : Hid (storeB s = inR s.2 0 999) := Lib.hid (by rw [Hb.out, Hr.out, He.out]; simp [hl])
        go_wp2_with (go_at_call 95; refine (inRange_ok _ _ _ _).mono ?_; rintro e w' ⟨rfl, rfl⟩)
        go_ret
        exact ⟨by simp [Hf.out], hg⟩
      · have Hf : Hid (storeB s = false) := Lib.hid (by rw [Hb.out]; simp [hl])
        go_wp2_with fail
        go_ret
        exact ⟨by simp [Hf.out], hg⟩

end Go.Proofs.Ytmeobmegnneegaa

/-
  Pages of names: what they are, and the walk of impl.PageOf.
-/
namespace Go.Proofs.Ytmeobmegnneegaa
open Go.RowKit

end Go.Proofs.Ytmeobmegnneegaa

/-
  The walk of spec.PageOf.
-/
namespace Go.Proofs.Ytmeobmegnneegaa
open Go.RowKit

end Go.Proofs.Ytmeobmegnneegaa

/-
  Contracts of walks with worlds as contracts on values told without memory: stores.
-/
-- EV: store
namespace Go.Proofs.Ytmeobmegnneegaa.Eng
open Go Go.RowKit

theorem repL2_inv {w : World} {ρ : Cx} {a b : AV} {vs : List Value} (h : RepL w ρ [a, b] vs) : ∃ v0 v1, vs = [v0, v1] ∧ Rep w ρ a v0 ∧ Rep w ρ b v1 := by
  unfold RepL at h; obtain ⟨v0, vs, rfl, h0, h⟩ := h
  unfold RepL at h; obtain ⟨v1, vs, rfl, h1, h⟩ := h
  unfold RepL at h; subst h
  exact ⟨_, _, rfl, h0, h1⟩
theorem repL1_inv {w : World} {ρ : Cx} {a : AV} {vs : List Value} (h : RepL w ρ [a] vs) : ∃ v0, vs = [v0] ∧ Rep w ρ a v0 := by
  unfold RepL at h; obtain ⟨v0, vs, rfl, h0, h⟩ := h
  unfold RepL at h; subst h
  exact ⟨_, rfl, h0⟩
theorem repL2 {w : World} {ρ : Cx} {a b : AV} {v0 v1 : Value} (h0 : Rep w ρ a v0) (h1 : Rep w ρ b v1) : RepL w ρ [a, b] [v0, v1] := by
  unfold RepL; refine ⟨_, _, rfl, h0, ?_⟩
  unfold RepL; refine ⟨_, _, rfl, h1, ?_⟩
  unfold RepL; rfl
theorem repL7 {w : World} {ρ : Cx} {a b c d e f g : AV} {v0 v1 v2 v3 v4 v5 v6 : Value} (h0 : Rep w ρ a v0) (h1 : Rep w ρ b v1) (h2 : Rep w ρ c v2) (h3 : Rep w ρ d v3) (h4 : Rep w ρ e v4) (h5 : Rep w ρ f v5) (h6 : Rep w ρ g v6) : RepL w ρ [a, b, c, d, e, f, g] [v0, v1, v2, v3, v4, v5, v6] := by
  unfold RepL; refine ⟨_, _, rfl, h0, ?_⟩
  unfold RepL; refine ⟨_, _, rfl, h1, ?_⟩
  exact repL5 h2 h3 h4 h5 h6

theorem itmRep_shutE {w : World} {S : Nat → Prop} {x : Itm} {na : Option Addr} {nc : Nat} {ka : Option Addr} {kc : Nat} (h1 : x.1.size ≤ big) (h2 : NodeC w S x.2.2 na nc ka kc) : itmRep.R w S x (itmL x na nc ka kc) :=
  ⟨[.string x.1], _, rfl, ⟨rfl, h1⟩, [.int .i64 x.2.1], _, rfl, rfl, na, nc, ka, kc, rfl, h2⟩
theorem items_of_rep {w : World} {ρ : Cx} {t : VC} {l : List Itm} {v : Value} (h : Rep w ρ (.view t 7 (l.map itemL)) v) : ∃ a c, v = .slice a l.length c ∧ SlR itmRep w any a c l := by
  obtain ⟨a, c, rfl, _, h3, h4, h5, h6⟩ := rep_view.1 h
  simp only [List.length_map] at *
  refine ⟨a, c, rfl, h3, h4, ?_⟩
  rcases h6 with h6 | ⟨b, o, ha, _, he⟩
  · exact .inl (List.map_eq_nil_iff.1 h6)
  · refine .inr ⟨b, o, ha, trivial, fun i hi => ?_⟩
    have e := he.get h5 (i := i) (e := itemL l[i]) (by rw [List.getElem?_map, List.getElem?_eq_getElem hi]; rfl)
    rw [itemL_eq] at e
    generalize l[i] = x at *
    obtain ⟨v0, p0, _, q0⟩ := e.get (i := 0) rfl
    obtain ⟨v1, p1, _, q1⟩ := e.get (i := 1) rfl
    obtain ⟨v2, p2, _, q2⟩ := e.get (i := 2) rfl
    obtain ⟨v3, p3, _, q3⟩ := e.get (i := 3) rfl
    obtain ⟨v4, p4, _, q4⟩ := e.get (i := 4) rfl
    obtain ⟨v5, p5, _, q5⟩ := e.get (i := 5) rfl
    obtain ⟨v6, p6, _, q6⟩ := e.get (i := 6) rfl
    rw [rep_str] at q0
    rw [rep_int] at q1 q2 q3
    have q4' := q4
    rw [rep_str] at q4'
    obtain ⟨na, nc, r5, _⟩ := rep_view.1 q5
    obtain ⟨ka, kc, r6, _⟩ := rep_view.1 q6
    rw [strsE_len] at r5
    rw [List.length_map] at r6
    obtain ⟨rfl, hsz⟩ := q0
    obtain ⟨rfl, _⟩ := q4'
    subst q1 q2 q3 r5 r6
    refine ⟨_, ?_, itmRep_shutE hsz (nodeC_of_rep _ ρ na nc ka kc q4 q5 q6)⟩
    intro j u hj
    rw [show itmRep.n = 7 from rfl]
    unfold itmL at hj
    rcases j with _ | _ | _ | _ | _ | _ | _ | j
    · cases hj; exact p0
    · cases hj; exact p1
    · cases hj; exact p2
    · cases hj; exact p3
    · cases hj; exact p4
    · cases hj; exact p5
    · cases hj; exact p6
    · simp at hj

theorem store_of_rep {w : World} {ρ : Cx} {t : VC} {s : Sto} {v : Value} (h : Rep w ρ (storeT t s) v) : RV stoRep packA w any s v := by
  obtain ⟨vs, rfl, _, h2⟩ := rep_agg.1 h
  obtain ⟨v0, v1, rfl, q0, q1⟩ := repL2_inv h2
  rw [rep_int] at q1
  subst q1
  obtain ⟨a, c, rfl, hs⟩ := items_of_rep q0
  exact sto_shut hs

theorem AC.ofNew {P : Program} {f : FuncId} {args : List AV} {Post : AV → Prop} (he : Enters P f)
    (h : ∀ w L S rb vs, RepL w (pureC L S rb) args vs → Calls P f vs.toArray w fun e w' => ∃ v r, e = .returned v ∧ Grow w w' ∧ Rep w' (pureC nil (fun b => w.heap.size ≤ b ∧ b < w'.heap.size) none) r v ∧ Post r) : AC P f args 0 Post := by
  refine ⟨he, fun w L S rb k vs _ hS hr hargs => (h w L S rb vs hargs).mono ?_⟩
  rintro e w' ⟨v, r, rfl, hg, h1, h2⟩
  refine ⟨v, r, fun b => S b ∨ (w.heap.size ≤ b ∧ b < w'.heap.size), rfl, hg.mono (fun _ h => h.elim), fun _ h => .inl h, fun _ h => h, fun b hb => ((hr b hb).2.moved hg (fun h => h) (fun b hb => ⟨.inl hb, fun h => h⟩)).less (by omega), ?_, h2⟩
  exact Rep.le (ρ := pureC nil (fun b => w.heap.size ≤ b ∧ b < w'.heap.size) none) (ρ' := pureC nil (fun b => S b ∨ (w.heap.size ≤ b ∧ b < w'.heap.size)) none) ⟨fun b hb => ⟨.inr hb, fun _ => rfl⟩, fun b hb => False.elim hb, fun id hid => False.elim hid, fun _ h => by cases h⟩ h1

theorem ValidStore_AC (s : Sto) (t : VC) : AC Try.prog 42 [storeT t s] 0 (fun r => r = .bool (storeB s)) := by
  refine AC.ofGrow (enters_of Try.func42 (by kernel_rfl) (by kernel_rfl)) (fun w L S rb vs h => ?_)
  obtain ⟨v, rfl, h1⟩ := repL1_inv h
  refine (ValidStore_ok s v w (store_of_rep h1)).mono ?_
  rintro e w' ⟨rfl, hg⟩
  exact ⟨_, _, rfl, hg, rep_bool.2 rfl, rfl⟩
theorem validStore_AC (s : Sto) (t : VC) : AC Try.prog 70 [storeT t s] 0 (fun r => r = .bool (storeB s)) := by
  refine AC.ofGrow (enters_of Try.func70 (by kernel_rfl) (by kernel_rfl)) (fun w L S rb vs h => ?_)
  obtain ⟨v, rfl, h1⟩ := repL1_inv h
  refine (validStore_ok s v w (store_of_rep h1)).mono ?_
  rintro e w' ⟨rfl, hg⟩
  exact ⟨_, _, rfl, hg, rep_bool.2 rfl, rfl⟩
theorem validName_AC (x : ByteArray) : AC Try.prog 71 [.str x] 0 (fun r => r = .bool (nameB x)) := by
  refine AC.ofGrow (enters_of Try.func71 (by kernel_rfl) (by kernel_rfl)) (fun w L S rb vs h => ?_)
  obtain ⟨v, rfl, h1⟩ := repL1_inv h
  obtain ⟨rfl, hs⟩ := rep_str.1 h1
  refine (validName_same x w hs).mono ?_
  rintro e w' ⟨rfl, rfl⟩
  exact ⟨_, _, rfl, Ext.refl _ _, rep_bool.2 rfl, rfl⟩
theorem free_fresh {B : Nat} {w : World} {fp : List Nat} (h : Free B w fp) : ∀ b ∈ fp, B ≤ b ∧ b < w.heap.size := fun b hb => ⟨(h.2 b hb).1, (h.2 b hb).2.1⟩
theorem tup2_rep {w : World} {ρ : Cx} {a b : AV} {v u : Value} (h0 : Rep w ρ a v) (h1 : Rep w ρ b u) : Rep w ρ (.tup [a, b]) (.tuple #[v, u]) := rep_tup.2 ⟨[v, u], rfl, repL2 h0 h1⟩

end Go.Proofs.Ytmeobmegnneegaa.Eng
