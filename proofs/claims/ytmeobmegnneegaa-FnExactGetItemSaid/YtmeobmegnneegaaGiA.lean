/-
  Texts of this claim, joined: Mem, Lift, Join, Own, Shape, Txt, Reg, Leaf, Measure, Valid, SpecValid, ShapeValid, ShapeOwn, LawTo, Rep, Search, NameIn, Decimal, Later.
-/
import Derived.WalkKit
import Derived.WalkSpells
import Derived.WalkLawsBesides
import Derived.Lib.Hide
import Derived.Test.YtmeobmegnneegaaRows
import Derived.ProofKit
import Derived.BigQuiet
import Derived.Deep.LoopGhost
import Derived.Laws.IdiomStrings

/-
  Nodes told by themselves, how they lie in memory, and worlds that only grow.
-/
namespace Go.Proofs.Ytmeobmegnneegaa
open Go Go.RowKit

/-- A node, told by itself. -/
structure Nd where
  kind : Int
  num : Int
  text : ByteArray
  names : List ByteArray
  kids : List Nd

theorem Nd.ind (P : Nd → Prop) (h : ∀ kind num text names kids, (∀ k ∈ kids, P k) → P ⟨kind, num, text, names, kids⟩) : ∀ n, P n := by
  intro n
  refine Nd.rec (motive_1 := P) (motive_2 := fun l => ∀ k ∈ l, P k) ?_ ?_ ?_ n
  · intro kind num text names kids ih
    exact h _ _ _ _ _ ih
  · intro k hk; cases hk
  · intro k ks h1 h2 x hx
    rcases List.mem_cons.1 hx with rfl | hx
    · exact h1
    · exact h2 _ hx

theorem Nd.ind' (P : Nd → Prop) (h : ∀ n : Nd, (∀ k ∈ n.kids, P k) → P n) : ∀ n, P n :=
  Nd.ind P (fun kind num text names kids ih => h ⟨kind, num, text, names, kids⟩ ih)

/-- Any block. -/
def any (_ : Nat) : Prop := True

/-- The greatest length. -/
def big : Nat := 9223372036854775807

/-- A slice of texts: its address, its capacity, its texts. -/
def StrsR (w : World) (S : Nat → Prop) (a : Option Addr) (c : Nat) (xs : List ByteArray) : Prop :=
  xs.length ≤ c ∧ xs.length ≤ big ∧ (∀ x ∈ xs, x.size ≤ big) ∧ (xs = [] ∨ ∃ b o, a = some ⟨b, o, none⟩ ∧ S b ∧ ∀ i (h : i < xs.length), w.cell? ⟨b, o + i, none⟩ = some (.string xs[i]))

mutual
def NodeC (w : World) (S : Nat → Prop) : Nd → Option Addr → Nat → Option Addr → Nat → Prop
  | ⟨_, _, text, names, kids⟩, na, nc, ka, kc => text.size ≤ big ∧ StrsR w S na nc names ∧ kids.length ≤ kc ∧ kids.length ≤ big ∧ (kids = [] ∨ ∃ b o, ka = some ⟨b, o, none⟩ ∧ S b ∧ KidsR w S b o kids)
def KidsR (w : World) (S : Nat → Prop) (b : Nat) : Nat → List Nd → Prop
  | _, [] => True
  | o, k :: ks => (∃ na nc ka kc, w.cell? ⟨b, o, none⟩ = some (.int .i64 k.kind) ∧ w.cell? ⟨b, o + 1, none⟩ = some (.int .i64 k.num) ∧ w.cell? ⟨b, o + 2, none⟩ = some (.string k.text) ∧
      w.cell? ⟨b, o + 3, none⟩ = some (.slice na k.names.length nc) ∧ w.cell? ⟨b, o + 4, none⟩ = some (.slice ka k.kids.length kc) ∧ NodeC w S k na nc ka kc) ∧ KidsR w S b (o + 5) ks
end

/-- The value of a node. -/
def nodeV (n : Nd) (na : Option Addr) (nc : Nat) (ka : Option Addr) (kc : Nat) : Value :=
  .agg #[.int .i64 n.kind, .int .i64 n.num, .string n.text, .slice na n.names.length nc, .slice ka n.kids.length kc]

def NodeR (w : World) (S : Nat → Prop) (n : Nd) (v : Value) : Prop := ∃ na nc ka kc, v = nodeV n na nc ka kc ∧ NodeC w S n na nc ka kc

/-- A slice of nodes. -/
def NodesR (w : World) (S : Nat → Prop) (a : Option Addr) (c : Nat) (l : List Nd) : Prop :=
  l.length ≤ c ∧ l.length ≤ big ∧ (l = [] ∨ ∃ b o, a = some ⟨b, o, none⟩ ∧ S b ∧ KidsR w S b o l)

theorem KidsR.get {w : World} {S : Nat → Prop} {b : Nat} : ∀ {l : List Nd} {o : Nat}, KidsR w S b o l → ∀ i (h : i < l.length), ∃ na nc ka kc,
    w.cell? ⟨b, o + i * 5, none⟩ = some (.int .i64 l[i].kind) ∧ w.cell? ⟨b, o + i * 5 + 1, none⟩ = some (.int .i64 l[i].num) ∧ w.cell? ⟨b, o + i * 5 + 2, none⟩ = some (.string l[i].text) ∧
      w.cell? ⟨b, o + i * 5 + 3, none⟩ = some (.slice na l[i].names.length nc) ∧ w.cell? ⟨b, o + i * 5 + 4, none⟩ = some (.slice ka l[i].kids.length kc) ∧ NodeC w S l[i] na nc ka kc
  | [], _, _, i, h => absurd h (by simp)
  | k :: ks, o, hk, 0, _ => by
    unfold KidsR at hk
    simpa using hk.1
  | k :: ks, o, hk, i + 1, h => by
    unfold KidsR at hk
    have := KidsR.get hk.2 i (by simpa using h)
    simp only [List.getElem_cons_succ]
    have e : o + (i + 1) * 5 = o + 5 + i * 5 := by omega
    rw [e]
    exact this

theorem KidsR.of_get {w : World} {S : Nat → Prop} {b : Nat} : ∀ {l : List Nd} {o : Nat}, (∀ i (h : i < l.length), ∃ na nc ka kc,
    w.cell? ⟨b, o + i * 5, none⟩ = some (.int .i64 l[i].kind) ∧ w.cell? ⟨b, o + i * 5 + 1, none⟩ = some (.int .i64 l[i].num) ∧ w.cell? ⟨b, o + i * 5 + 2, none⟩ = some (.string l[i].text) ∧
      w.cell? ⟨b, o + i * 5 + 3, none⟩ = some (.slice na l[i].names.length nc) ∧ w.cell? ⟨b, o + i * 5 + 4, none⟩ = some (.slice ka l[i].kids.length kc) ∧ NodeC w S l[i] na nc ka kc) → KidsR w S b o l
  | [], _, _ => by unfold KidsR; trivial
  | k :: ks, o, h => by
    unfold KidsR
    have h0 := h 0 (by simp)
    simp only [Nat.zero_mul, Nat.add_zero, List.getElem_cons_zero] at h0
    refine ⟨h0, KidsR.of_get (fun i hi => ?_)⟩
    have := h (i + 1) (by simpa using hi)
    have e : o + (i + 1) * 5 = o + 5 + i * 5 := by omega
    rw [e] at this
    simp only [List.getElem_cons_succ] at this
    exact this

theorem NodeC.parts {w : World} {S : Nat → Prop} {n : Nd} {na : Option Addr} {nc : Nat} {ka : Option Addr} {kc : Nat} (h : NodeC w S n na nc ka kc) :
    n.text.size ≤ big ∧ StrsR w S na nc n.names ∧ NodesR w S ka kc n.kids := by
  cases n; unfold NodeC at h; exact ⟨h.1, h.2.1, h.2.2⟩

theorem NodeC.mk {w : World} {S : Nat → Prop} {n : Nd} {na : Option Addr} {nc : Nat} {ka : Option Addr} {kc : Nat} 
    (h1 : n.text.size ≤ big) (h2 : StrsR w S na nc n.names) (h3 : NodesR w S ka kc n.kids) : NodeC w S n na nc ka kc := by
  cases n; unfold NodeC; exact ⟨h1, h2, h3⟩

/-! ### The world grows -/

/-- All blocks that were there are as they were, but for those in X. -/
structure Ext (X : Nat → Prop) (w w' : World) : Prop where
  os : w'.os = w.os
  tape : w'.tape = w.tape
  output : w'.output = w.output
  size : w.heap.size ≤ w'.heap.size
  block : ∀ k, k < w.heap.size → ¬ X k → w'.heap[k]? = w.heap[k]?

/-- Nothing that was there has turned. -/
def nil (_ : Nat) : Prop := False
abbrev Grow (w w' : World) : Prop := Ext nil w w'

theorem Ext.refl (X : Nat → Prop) (w : World) : Ext X w w := ⟨rfl, rfl, rfl, Nat.le_refl _, fun _ _ _ => rfl⟩
theorem Ext.trans {X : Nat → Prop} {a b c : World} (h : Ext X a b) (k : Ext X b c) : Ext X a c :=
  ⟨k.os.trans h.os, k.tape.trans h.tape, k.output.trans h.output, Nat.le_trans h.size k.size, fun i hi hx => (k.block i (Nat.lt_of_lt_of_le hi h.size) hx).trans (h.block i hi hx)⟩
theorem Ext.mono {X Y : Nat → Prop} {a b : World} (h : Ext X a b) (hXY : ∀ k, X k → Y k) : Ext Y a b := ⟨h.os, h.tape, h.output, h.size, fun k hk hy => h.block k hk (fun hx => hy (hXY k hx))⟩
theorem Ext.drew {X : Nat → Prop} {a w : World} (h : Ext X a w) : Ext X a w.drew := ⟨h.os, h.tape, h.output, h.size, h.block⟩
theorem Ext.drewN {X : Nat → Prop} {a w : World} (h : Ext X a w) (n : Nat) : Ext X a (w.drewN n) := ⟨h.os, h.tape, h.output, h.size, h.block⟩
theorem Ext.alloc {X : Nat → Prop} {a w : World} (h : Ext X a w) (o : Obj) : Ext X a (w.alloc o) :=
  h.trans ⟨rfl, rfl, rfl, by simp, fun k hk _ => Below.heap_alloc _ _ _ hk⟩
theorem Ext.cell {X : Nat → Prop} {w w' : World} (h : Ext X w w') {p : Addr} (hp : p.block < w.heap.size) (hx : ¬ X p.block) : w'.cell? p = w.cell? p := World.cell?_of_block (w := w) (h.block p.block hp hx)
theorem Ext.frozen {X : Nat → Prop} {w w' : World} (h : Ext X w w') {p : Addr} (hp : p.block < w.heap.size) (hx : ¬ X p.block) : w'.frozen? p = w.frozen? p := World.frozen?_of_block (w := w) (h.block p.block hp hx)
theorem Grow.below {w w' : World} (h : Grow w w') : Below w.heap.size w w' := ⟨h.os, h.tape, h.output, h.size, fun k hk => h.block k hk (fun hx => hx)⟩

/-- What turns in blocks of the call's own. -/
theorem Grow.inner {X : Nat → Prop} {a b c : World} (h : Grow a b) (k : Ext X b c) (hX : ∀ i, X i → a.heap.size ≤ i) : Grow a c :=
  ⟨k.os.trans h.os, k.tape.trans h.tape, k.output.trans h.output, Nat.le_trans h.size k.size, fun i hi _ => (k.block i (Nat.lt_of_lt_of_le hi h.size) (fun hx => by have := hX i hx; omega)).trans (h.block i hi (fun h => h))⟩

/-- A local struct of five cells. -/
structure Box5 (w : World) (b : Nat) (c0 c1 c2 c3 c4 : Value) : Prop where
  k0 : w.cell? ⟨b, 0, none⟩ = some c0
  k1 : w.cell? ⟨b, 1, none⟩ = some c1
  k2 : w.cell? ⟨b, 2, none⟩ = some c2
  k3 : w.cell? ⟨b, 3, none⟩ = some c3
  k4 : w.cell? ⟨b, 4, none⟩ = some c4
  fr : ∀ o, w.frozen? ⟨b, o, none⟩ = false
  lt : b < w.heap.size

theorem Box5.new (w : World) (c0 c1 c2 c3 c4 : Value) (t : TypeId) : Box5 (w.alloc (.cells #[c0, c1, c2, c3, c4] t)) w.heap.size c0 c1 c2 c3 c4 :=
  ⟨by rw [World.cell?_alloc_new]; rfl, by rw [World.cell?_alloc_new]; rfl, by rw [World.cell?_alloc_new]; rfl, by rw [World.cell?_alloc_new]; rfl, by rw [World.cell?_alloc_new]; rfl,
    fun o => World.frozen?_alloc_new w _ t o, by simp⟩

theorem Box5.ext {X : Nat → Prop} {w w' : World} {b : Nat} {c0 c1 c2 c3 c4 : Value} (hb : Box5 w b c0 c1 c2 c3 c4) (h : Ext X w w') (hx : ¬ X b) : Box5 w' b c0 c1 c2 c3 c4 :=
  ⟨by rw [h.cell hb.lt hx]; exact hb.k0, by rw [h.cell hb.lt hx]; exact hb.k1, by rw [h.cell hb.lt hx]; exact hb.k2, by rw [h.cell hb.lt hx]; exact hb.k3, by rw [h.cell hb.lt hx]; exact hb.k4,
    fun o => by rw [h.frozen (p := ⟨b, o, none⟩) hb.lt hx]; exact hb.fr o, Nat.lt_of_lt_of_le hb.lt h.size⟩

theorem Box5.grow {w w' : World} {b : Nat} {c0 c1 c2 c3 c4 : Value} (hb : Box5 w b c0 c1 c2 c3 c4) (h : Grow w w') : Box5 w' b c0 c1 c2 c3 c4 := hb.ext h (fun h => h)

theorem lt_of_cell {w : World} {p : Addr} {v : Value} (h : w.cell? p = some v) : p.block < w.heap.size := by
  unfold World.cell? at h
  rcases Nat.lt_or_ge p.block w.heap.size with h' | h'
  · exact h'
  · rw [Array.getElem?_eq_none h'] at h; simp at h

/-- A cell that was there holds what it held. -/
theorem Ext.some {X : Nat → Prop} {w w' : World} (h : Ext X w w') {p : Addr} {v : Value} (hp : w.cell? p = some v) (hx : ¬ X p.block) : w'.cell? p = some v := by
  rw [h.cell (lt_of_cell hp) hx]; exact hp
theorem Grow.some {w w' : World} (h : Grow w w') {p : Addr} {v : Value} (hp : w.cell? p = some v) : w'.cell? p = some v := Ext.some h hp (fun h => h)

theorem StrsR.ext {X S : Nat → Prop} {w w' : World} (h : Ext X w w') (hS : ∀ k, S k → ¬ X k) {a : Option Addr} {c : Nat} {xs : List ByteArray} (hs : StrsR w S a c xs) : StrsR w' S a c xs := by
  obtain ⟨h1, h2, h3, h4⟩ := hs
  refine ⟨h1, h2, h3, h4.imp id ?_⟩
  rintro ⟨b, o, rfl, hb, hc⟩
  exact ⟨b, o, rfl, hb, fun i hi => h.some (hc i hi) (hS b hb)⟩

theorem StrsR.mono {S T : Nat → Prop} {w : World} (hS : ∀ k, S k → T k) {a : Option Addr} {c : Nat} {xs : List ByteArray} (hs : StrsR w S a c xs) : StrsR w T a c xs := by
  obtain ⟨h1, h2, h3, h4⟩ := hs
  refine ⟨h1, h2, h3, h4.imp id ?_⟩
  rintro ⟨b, o, rfl, hb, hc⟩
  exact ⟨b, o, rfl, hS b hb, hc⟩

mutual
theorem NodeC.ext {X S : Nat → Prop} {w w' : World} (h : Ext X w w') (hS : ∀ k, S k → ¬ X k) : ∀ {n : Nd} {na : Option Addr} {nc : Nat} {ka : Option Addr} {kc : Nat}, NodeC w S n na nc ka kc → NodeC w' S n na nc ka kc
  | ⟨_, _, _, _, kids⟩, na, nc, ka, kc, hn => by
    unfold NodeC at hn ⊢
    obtain ⟨h1, h2, h3, h4, h5⟩ := hn
    refine ⟨h1, h2.ext h hS, h3, h4, h5.imp id ?_⟩
    rintro ⟨b, o, rfl, hb, hc⟩
    exact ⟨b, o, rfl, hb, KidsR.ext h hS (hS b hb) hc⟩
theorem KidsR.ext {X S : Nat → Prop} {w w' : World} (h : Ext X w w') (hS : ∀ k, S k → ¬ X k) {b : Nat} (hb : ¬ X b) : ∀ {l : List Nd} {o : Nat}, KidsR w S b o l → KidsR w' S b o l
  | [], _, _ => by unfold KidsR; trivial
  | k :: ks, o, hk => by
    unfold KidsR at hk ⊢
    obtain ⟨⟨na, nc, ka, kc, c0, c1, c2, c3, c4, hn⟩, hr⟩ := hk
    exact ⟨⟨na, nc, ka, kc, h.some c0 hb, h.some c1 hb, h.some c2 hb, h.some c3 hb, h.some c4 hb, NodeC.ext h hS hn⟩, KidsR.ext h hS hb hr⟩
end

theorem NodeR.ext {X S : Nat → Prop} {w w' : World} (h : Ext X w w') (hS : ∀ k, S k → ¬ X k) {n : Nd} {v : Value} (hn : NodeR w S n v) : NodeR w' S n v := by
  obtain ⟨na, nc, ka, kc, hv, hc⟩ := hn
  exact ⟨na, nc, ka, kc, hv, hc.ext h hS⟩
theorem NodesR.ext {X S : Nat → Prop} {w w' : World} (h : Ext X w w') (hS : ∀ k, S k → ¬ X k) {a : Option Addr} {c : Nat} {l : List Nd} (hs : NodesR w S a c l) : NodesR w' S a c l := by
  obtain ⟨h1, h2, h4⟩ := hs
  refine ⟨h1, h2, h4.imp id ?_⟩
  rintro ⟨b, o, rfl, hb, hc⟩
  exact ⟨b, o, rfl, hb, hc.ext h hS (hS b hb)⟩

theorem StrsR.grow {S : Nat → Prop} {w w' : World} {a : Option Addr} {c : Nat} {xs : List ByteArray} (hs : StrsR w S a c xs) (h : Grow w w') : StrsR w' S a c xs := hs.ext h (fun _ _ h => h)
theorem NodesR.grow {S : Nat → Prop} {w w' : World} {a : Option Addr} {c : Nat} {l : List Nd} (hs : NodesR w S a c l) (h : Grow w w') : NodesR w' S a c l := hs.ext h (fun _ _ h => h)
theorem NodeR.grow {S : Nat → Prop} {w w' : World} {n : Nd} {v : Value} (hn : NodeR w S n v) (h : Grow w w') : NodeR w' S n v := hn.ext h (fun _ _ h => h)

end Go.Proofs.Ytmeobmegnneegaa

/-
  What every lift of a law over memory takes: the arguments read behind the call as they read before, where the call only made memory.
-/
namespace Go.Proofs.Ytmeobmegnneegaa
open Go.ChangeShapes Go.WideShapes Go.ChangeAt Go.RowKit

theorem Try.own : ownKnob Try.prog.godebug = none := by kernel_rfl
theorem Try.laidOut : laidOutB Try.prog = true := by kernel_rfl

section
variable {H : Type} {enc : TypeId × Value → H}

theorem trodAll_stays {W W' : World} (hb : Grow W W') : ∀ {ts : List TypeId} {vs : List Value} {ds : List (DataW H)} {ps : List MemPlace},
    (∀ t ∈ ts, Try.prog.readableRec t = true ∧ t < Try.prog.types.size) → (∀ x ∈ ps, x.block < W.heap.size) → DataW.TrodAll enc Try.prog W 0 (fun _ => true) true ts vs ds ps →
    DataW.TrodAll enc Try.prog W' 0 (fun b => decide (b < W.heap.size)) true ts vs ds ps
  | [], [], [], _, _, _, h => h
  | [], [], _ :: _, _, _, _, h => h.elim
  | [], _ :: _, _, _, _, _, h => by cases h
  | _ :: _, [], _, _, _, _, h => by cases h
  | _ :: _, _ :: _, [], _, _, _, h => h.elim
  | t :: ts, v :: vs, d :: ds, ps, hr, hlt, h => by
    obtain ⟨p, q, h1, h2, rfl⟩ := h
    exact ⟨p, q, Below.trod Try.laidOut (hr t (by simp)).1 (hr t (by simp)).2 h1 hb.below (fun x hx => hlt x (by simp [hx])),
      trodAll_stays hb (fun t ht => hr t (by simp [ht])) (fun x hx => hlt x (by simp [hx])) h2, rfl⟩

theorem post_grow {f : Func} {s : ChangeSpec} {W W' : World} {args : Array Value} {ds : List (DataW H)} {before : List MemPlace} (hv : s.vars = []) (hr : ∀ t ∈ f.params.toList, Try.prog.readableRec t = true ∧ t < Try.prog.types.size)
    (hres : f.resultTypes = #[4]) (hs : s.fn H ds = { results := [.lit (.bool true)], args := ds })
    (hW : DataW.Whole enc Try.prog f.params.toList s.vars false W args.toList ds [] before) (hg : Grow W W') :
    s.post enc Try.prog f false true false false W args (.bool true) W' := by
  have hlt := hW.lt
  have hW0 := hW
  obtain ⟨p, q, hA, hV, rfl, hz, hn⟩ := hW
  rw [hv] at hV
  obtain ⟨_, rfl⟩ := trodVars_none hV
  refine ⟨ds, [], p ++ [], [], p, [], hW0, ?_, ?_, ?_, hg.below.frame _, fun h => by cases h⟩
  · rw [List.append_nil, hs, hres]
    exact trodAll_mk1 (shut_bool Try.underlying4 true)
  · rw [List.append_nil, hs]
    exact trodAll_stays hg hr (fun x hx => hlt x (by simp [hx])) hA
  · rw [List.append_nil, hs, hv]
    rfl
end
end Go.Proofs.Ytmeobmegnneegaa

/-
  The closed facts of a claim, one by one.
-/
namespace Go.Proofs.Ytmeobmegnneegaa
open Go.ChangeShapes Go.WideShapes Go.ChangeAt Go.RowKit

theorem joined_mk {P : Program} {f : FuncId} {fn : Func} {s : ChangeSpec} {c : OpenClaim}
    (h1 : c.wf (OpenSpec.ofChange s) = true) (h2 : laidOutB P = true) (h3 : mapsRowed P = true) (h4 : fn.params.all (P.readableRec ·) = true) (h5 : namedTie P c.named s.vars = true)
    (h6 : (c.stops == []) = true) (h7 : (P.stops == []) = true) (h8 : (c.knobs == []) = true) (h9 : (P.stopKnobs == []) = true) (h10 : (c.inPlace == P.inPlace f) = true) (h11 : (c.unfollowed == P.unfollowed f) = true)
    (h12 : (c.recurses == P.recurses f) = true) (h13 : (c.named == P.varsNamed f) = true)
    (h14 : (c.maps == (fn.params.toList ++ s.plain.varTypes P).any (P.mapsRec ·)) = true) (h15 : (c.ifaces == (fn.params.toList ++ s.plain.varTypes P).any (P.ifacesRec ·)) = true) (h16 : (c.mapsOut == P.mapsAmong fn.resultTypes.toList) = true)
    (h17 : (c.loops == (fn.params.toList ++ s.plain.varTypes P).any (P.loopsFrom ·)) = true) (h18 : (c.wideKeys == (fn.params.toList ++ s.plain.varTypes P ++ fn.resultTypes.toList).any (P.wideKeysFrom ·)) = true)
    (h19 : s.vars.all (P.varReadable ·) = true) (h20 : fn.resultTypes.all (fun t => P.readableRec t && decide (t < P.types.size)) = true) (h21 : (c.ifacesOut == fn.resultTypes.toList.any (P.ifacesRec ·)) = true)
    (h22 : (c.loopsOut == fn.resultTypes.toList.any (P.loopsFrom ·)) = true) (h23 : (c.plainKeys == P.plainKeys) = true) (h24 : c.shortTexts.isNone = true) (h25 : P.stopsHeard = true) (h26 : P.mayEnter = true)
    (h27 : (c.lifted == P.liftsFinal) = true) (h28 : (P.make == some c.make) = true)
    (h29 : (c.kinds == (if c.domain.isEmpty then [] else fn.params.toList.map fun t => match P.underlying t with | some (.int k) => some k | _ => none)) = true) (h30 : (c.pinned == c.pinnedBy) = true)
    (h31 : (c.veiled == (fn.params.toList ++ s.plain.varTypes P ++ fn.resultTypes.toList).any (P.veiledRec ·)) = true)
    (h32 : c.veiledFits P fn.params.toList (fn.params.toList ++ s.plain.varTypes P ++ fn.resultTypes.toList) = true) : joinedFacts P f fn s c = true := by
  unfold joinedFacts
  simp only [Bool.and_eq_true]
  and_intros
  · exact h1
  · exact h2
  · exact h3
  · exact h4
  · exact h5
  · exact h6
  · exact h7
  · exact h8
  · exact h9
  · exact h10
  · exact h11
  · exact h12
  · exact h13
  · exact h14
  · exact h15
  · exact h16
  · exact h17
  · exact h18
  · exact h19
  · exact h20
  · exact h21
  · exact h22
  · exact h23
  · exact h24
  · exact h25
  · exact h26
  · exact h27
  · exact h28
  · exact h29
  · exact h30
  · exact h31
  · exact h32

/-! ### The program's head line, as a list of words -/
def sp : Char := Char.ofNat 32
def joinW : List (List Char) → List Char
  | [] => []
  | [w] => w
  | w :: r => w ++ sp :: joinW r
theorem words_cons (c : Char) (hc : (c == sp) = false) (r : List Char) : wordsSigns (c :: r) = match wordsSigns r with | w :: ws => (c :: w) :: ws | [] => [[c]] := by
  have hne : c ≠ sp := by intro e; rw [e] at hc; revert hc; decide
  rw [wordsSigns]
  all_goals first | rfl | exact hne | exact fun h => hne h
theorem words_app (r : List Char) (ws : List (List Char)) (h : wordsSigns r = [] :: ws) : ∀ w : List Char, (w.all fun c => !(c == sp)) = true → wordsSigns (w ++ r) = w :: ws
  | [], _ => by simpa using h
  | c :: w, hw => by
    simp only [List.all_cons, Bool.and_eq_true, Bool.not_eq_true'] at hw
    rw [List.cons_append, words_cons c hw.1, words_app r ws h w hw.2]
theorem words_join : ∀ ws : List (List Char), ws ≠ [] → (ws.all fun w => w.all fun c => !(c == sp)) = true → wordsSigns (joinW ws) = ws
  | [], h, _ => absurd rfl h
  | [w], _, hw => by
    simp only [List.all_cons, List.all_nil, Bool.and_true] at hw
    have := words_app [] [] rfl w hw
    simpa [joinW] using this
  | w :: v :: r, _, hw => by
    simp only [List.all_cons, Bool.and_eq_true] at hw
    have ih := words_join (v :: r) (by simp) (by simp only [List.all_cons, Bool.and_eq_true]; exact hw.2)
    have h1 : wordsSigns (sp :: joinW (v :: r)) = [] :: (v :: r) := by
      show [] :: wordsSigns (joinW (v :: r)) = _
      rw [ih]
    exact words_app _ _ h1 w hw.1
set_option maxRecDepth 100000 in
def ioW : List (List Char) := List.map (List.map Char.ofNat) [[104, 97, 114, 110, 101, 115, 115], [101, 51, 57, 102, 100, 51, 52, 57, 56, 56, 99, 53, 49, 51, 50, 100, 100, 98, 102, 56, 48, 97, 50, 97, 98, 57, 51, 49, 57, 56, 57, 55, 57, 54, 98, 49, 98, 51, 51, 52, 50, 57, 99, 54, 99, 56, 48, 51, 52, 53, 52, 48, 51, 97, 54, 49, 49, 50, 48, 97, 100, 98, 55, 101], [99, 117, 116], [97, 116], [108, 111, 111, 112, 46, 101, 120, 97, 109, 112, 108, 101, 47, 114, 101, 115, 111, 117, 114, 99, 101, 115, 116, 111, 114, 101, 47, 108, 97, 119, 115, 46, 70, 110, 69, 120, 97, 99, 116, 80, 117, 116, 73, 116, 101, 109], [108, 111, 111, 112, 46, 101, 120, 97, 109, 112, 108, 101, 47, 114, 101, 115, 111, 117, 114, 99, 101, 115, 116, 111, 114, 101, 47, 108, 97, 119, 115, 46, 70, 110, 80, 97, 103, 101, 79, 102], [108, 111, 111, 112, 46, 101, 120, 97, 109, 112, 108, 101, 47, 114, 101, 115, 111, 117, 114, 99, 101, 115, 116, 111, 114, 101, 47, 108, 97, 119, 115, 46, 70, 110, 80, 97, 103, 101, 79, 102, 78, 101, 120, 116], [108, 111, 111, 112, 46, 101, 120, 97, 109, 112, 108, 101, 47, 114, 101, 115, 111, 117, 114, 99, 101, 115, 116, 111, 114, 101, 47, 108, 97, 119, 115, 46, 70, 110, 69, 120, 97, 99, 116, 65, 108, 108, 80, 97, 103, 101, 115], [108, 111, 111, 112, 46, 101, 120, 97, 109, 112, 108, 101, 47, 114, 101, 115, 111, 117, 114, 99, 101, 115, 116, 111, 114, 101, 47, 108, 97, 119, 115, 46, 70, 110, 80, 97, 103, 101, 79, 102, 87, 104, 111, 108, 101], [108, 111, 111, 112, 46, 101, 120, 97, 109, 112, 108, 101, 47, 114, 101, 115, 111, 117, 114, 99, 101, 115, 116, 111, 114, 101, 47, 108, 97, 119, 115, 46, 70, 110, 65, 108, 108, 80, 97, 103, 101, 115], [108, 111, 111, 112, 46, 101, 120, 97, 109, 112, 108, 101, 47, 114, 101, 115, 111, 117, 114, 99, 101, 115, 116, 111, 114, 101, 47, 108, 97, 119, 115, 46, 70, 110, 65, 108, 108, 80, 97, 103, 101, 115, 70, 117, 108, 108], [108, 111, 111, 112, 46, 101, 120, 97, 109, 112, 108, 101, 47, 114, 101, 115, 111, 117, 114, 99, 101, 115, 116, 111, 114, 101, 47, 108, 97, 119, 115, 46, 70, 110, 71, 101, 116, 73, 116, 101, 109, 65, 108, 108], [108, 111, 111, 112, 46, 101, 120, 97, 109, 112, 108, 101, 47, 114, 101, 115, 111, 117, 114, 99, 101, 115, 116, 111, 114, 101, 47, 108, 97, 119, 115, 46, 70, 110, 71, 101, 116, 73, 116, 101, 109], [108, 111, 111, 112, 46, 101, 120, 97, 109, 112, 108, 101, 47, 114, 101, 115, 111, 117, 114, 99, 101, 115, 116, 111, 114, 101, 47, 108, 97, 119, 115, 46, 70, 110, 65, 112, 112, 108, 121, 67, 104, 97, 110, 103, 101], [108, 111, 111, 112, 46, 101, 120, 97, 109, 112, 108, 101, 47, 114, 101, 115, 111, 117, 114, 99, 101, 115, 116, 111, 114, 101, 47, 108, 97, 119, 115, 46, 70, 110, 69, 120, 97, 99, 116, 71, 101, 116, 73, 116, 101, 109], [108, 111, 111, 112, 46, 101, 120, 97, 109, 112, 108, 101, 47, 114, 101, 115, 111, 117, 114, 99, 101, 115, 116, 111, 114, 101, 47, 108, 97, 119, 115, 46, 70, 110, 68, 114, 111, 112, 73, 116, 101, 109, 84, 119, 105, 99, 101], [108, 111, 111, 112, 46, 101, 120, 97, 109, 112, 108, 101, 47, 114, 101, 115, 111, 117, 114, 99, 101, 115, 116, 111, 114, 101, 47, 108, 97, 119, 115, 46, 70, 110, 68, 114, 111, 112, 73, 116, 101, 109], [108, 111, 111, 112, 46, 101, 120, 97, 109, 112, 108, 101, 47, 114, 101, 115, 111, 117, 114, 99, 101, 115, 116, 111, 114, 101, 47, 108, 97, 119, 115, 46, 70, 110, 69, 120, 97, 99, 116, 68, 114, 111, 112, 73, 116, 101, 109], [108, 111, 111, 112, 46, 101, 120, 97, 109, 112, 108, 101, 47, 114, 101, 115, 111, 117, 114, 99, 101, 115, 116, 111, 114, 101, 47, 108, 97, 119, 115, 46, 70, 110, 78, 101, 119, 101, 115, 116, 73, 116, 101, 109], [108, 111, 111, 112, 46, 101, 120, 97, 109, 112, 108, 101, 47, 114, 101, 115, 111, 117, 114, 99, 101, 115, 116, 111, 114, 101, 47, 108, 97, 119, 115, 46, 70, 110, 80, 117, 116, 73, 116, 101, 109], [108, 111, 111, 112, 46, 101, 120, 97, 109, 112, 108, 101, 47, 114, 101, 115, 111, 117, 114, 99, 101, 115, 116, 111, 114, 101, 47, 108, 97, 119, 115, 46, 70, 110, 80, 117, 116, 73, 116, 101, 109, 79, 110, 99, 101], [108, 111, 111, 112, 46, 101, 120, 97, 109, 112, 108, 101, 47, 114, 101, 115, 111, 117, 114, 99, 101, 115, 116, 111, 114, 101, 47, 108, 97, 119, 115, 46, 70, 110, 80, 117, 116, 73, 116, 101, 109, 83, 97, 109, 101], [108, 111, 111, 112, 46, 101, 120, 97, 109, 112, 108, 101, 47, 114, 101, 115, 111, 117, 114, 99, 101, 115, 116, 111, 114, 101, 47, 108, 97, 119, 115, 46, 70, 110, 68, 114, 111, 112, 73, 116, 101, 109, 80, 117, 116]]
set_option maxRecDepth 100000 in
theorem io_eq : Try.prog.initOrder = String.ofList (joinW ioW) := by kernel_rfl
set_option maxRecDepth 100000 in
theorem io_clean : (ioW.all fun w => w.all fun c => !(c == sp)) = true := by kernel_rfl
theorem io_words : wordsSigns Try.prog.initOrder.toList = ioW := by
  rw [io_eq, String.toList_ofList]
  exact words_join _ (by unfold ioW; simp) io_clean
def ioR : List (List Char) := ioW.drop 2
theorem io_behind : behindMainWord ioW = ioR := by decide +kernel
theorem io_lifts : Try.prog.liftsFinal = false := by
  unfold Program.liftsFinal Program.headLifts
  rw [io_words, io_behind]
  kernel_rfl
theorem enter_of {P : Program} {c : List Char} {rest : List (List Char)} (hb : behindMainWord (wordsSigns P.initOrder.toList) = c :: rest) (h1 : (stripLifts liftWords (c :: rest)).2.head? = some "cut".toList)
    (h2 : (stripLifts liftWords (c :: rest)).1 = []) (h3 : P.laysLater = false) (h4 : P.bearsReflect = false) (h5 : P.doorFits [] = true) : P.mayEnter = true := by
  unfold Program.mayEnter
  rw [hb]
  simp [h1, h2, h3, h4, h5]
theorem make_of {P : Program} {c : List Char} {rest : List (List Char)} (hb : behindMainWord (wordsSigns P.initOrder.toList) = c :: rest) (h1 : (c == "gc".toList || c == "spec".toList) = false) (h2 : (c == "cut".toList) = true) : P.make = some .cut := by
  unfold Program.make
  rw [hb]
  simp only [h1, h2, Bool.true_or, if_true, Bool.false_eq_true, if_false]
def ioC : List Char := List.map Char.ofNat [99, 117, 116]
theorem io_cons : behindMainWord (wordsSigns Try.prog.initOrder.toList) = ioC :: ioR.tail := by
  rw [io_words, io_behind]
  kernel_rfl
theorem io_later : Try.prog.laysLater = false := by kernel_rfl
theorem io_reflect : Try.prog.bearsReflect = false := by kernel_rfl
theorem io_door : Try.prog.doorFits [] = true := by kernel_rfl
theorem io_head : (stripLifts liftWords (ioC :: ioR.tail)).2.head? = some "cut".toList := by kernel_rfl
theorem io_first : (stripLifts liftWords (ioC :: ioR.tail)).1 = [] := by kernel_rfl
theorem io_enter : Try.prog.mayEnter = true := enter_of io_cons io_head io_first io_later io_reflect io_door
theorem io_make : Try.prog.make = some .cut := make_of io_cons (by kernel_rfl) (by kernel_rfl)

end Go.Proofs.Ytmeobmegnneegaa

/-
  Nodes that own their memory: each slice in a block of its own, the blocks listed, none frozen.
-/
namespace Go.Proofs.Ytmeobmegnneegaa
open Go Go.RowKit

def StrsF (w : World) (a : Option Addr) (c : Nat) (xs : List ByteArray) (fp : List Nat) : Prop :=
  xs.length ≤ c ∧ xs.length ≤ big ∧ (∀ x ∈ xs, x.size ≤ big) ∧ ((xs = [] ∧ fp = []) ∨ ∃ b o, xs ≠ [] ∧ a = some ⟨b, o, none⟩ ∧ fp = [b] ∧ ∀ i (h : i < xs.length), w.cell? ⟨b, o + i, none⟩ = some (.string xs[i]))

mutual
def NodeF (w : World) : Nd → Option Addr → Nat → Option Addr → Nat → List Nat → Prop
  | ⟨_, _, text, names, kids⟩, na, nc, ka, kc, fp => ∃ f1 f2, fp = f1 ++ f2 ∧ text.size ≤ big ∧ StrsF w na nc names f1 ∧ kids.length ≤ kc ∧ kids.length ≤ big ∧
      ((kids = [] ∧ f2 = []) ∨ ∃ b o f3, kids ≠ [] ∧ ka = some ⟨b, o, none⟩ ∧ f2 = b :: f3 ∧ KidsF w b o kids f3)
def KidsF (w : World) (b : Nat) : Nat → List Nd → List Nat → Prop
  | _, [], fp => fp = []
  | o, k :: ks, fp => ∃ f1 f2, fp = f1 ++ f2 ∧ (∃ na nc ka kc, w.cell? ⟨b, o, none⟩ = some (.int .i64 k.kind) ∧ w.cell? ⟨b, o + 1, none⟩ = some (.int .i64 k.num) ∧ w.cell? ⟨b, o + 2, none⟩ = some (.string k.text) ∧
      w.cell? ⟨b, o + 3, none⟩ = some (.slice na k.names.length nc) ∧ w.cell? ⟨b, o + 4, none⟩ = some (.slice ka k.kids.length kc) ∧ NodeF w k na nc ka kc f1) ∧ KidsF w b (o + 5) ks f2
end

/-- A slice of nodes that owns its memory. -/
def NodesF (w : World) (a : Option Addr) (c : Nat) (l : List Nd) (fp : List Nat) : Prop :=
  l.length ≤ c ∧ l.length ≤ big ∧ ((l = [] ∧ fp = []) ∨ ∃ b o f, l ≠ [] ∧ a = some ⟨b, o, none⟩ ∧ fp = b :: f ∧ KidsF w b o l f)

theorem NodeF.parts {w : World} {n : Nd} {na : Option Addr} {nc : Nat} {ka : Option Addr} {kc : Nat} {fp : List Nat} (h : NodeF w n na nc ka kc fp) :
    ∃ f1 f2, fp = f1 ++ f2 ∧ n.text.size ≤ big ∧ StrsF w na nc n.names f1 ∧ NodesF w ka kc n.kids f2 := by
  cases n; unfold NodeF at h
  obtain ⟨f1, f2, h1, h2, h3, h4, h5, h6⟩ := h
  exact ⟨f1, f2, h1, h2, h3, h4, h5, h6⟩

theorem NodeF.mk {w : World} {n : Nd} {na : Option Addr} {nc : Nat} {ka : Option Addr} {kc : Nat} {f1 f2 : List Nat}
    (h2 : n.text.size ≤ big) (h3 : StrsF w na nc n.names f1) (h4 : NodesF w ka kc n.kids f2) : NodeF w n na nc ka kc (f1 ++ f2) := by
  cases n; unfold NodeF
  exact ⟨f1, f2, rfl, h2, h3, h4⟩

def NodeO (w : World) (n : Nd) (v : Value) (fp : List Nat) : Prop := ∃ na nc ka kc, v = nodeV n na nc ka kc ∧ NodeF w n na nc ka kc fp

/-- The blocks of a list are each there once, from B on, and not frozen. -/
def Free (B : Nat) (w : World) (fp : List Nat) : Prop := fp.Nodup ∧ ∀ b ∈ fp, B ≤ b ∧ b < w.heap.size ∧ ∀ o, w.frozen? ⟨b, o, none⟩ = false

/-! ### What turns elsewhere leaves them as they are -/

theorem StrsF.keep {w w' : World} {a : Option Addr} {c : Nat} {xs : List ByteArray} {fp : List Nat} (hs : StrsF w a c xs fp)
    (h : ∀ b ∈ fp, ∀ o, w'.cell? ⟨b, o, none⟩ = w.cell? ⟨b, o, none⟩) : StrsF w' a c xs fp := by
  obtain ⟨h1, h2, h3, h4⟩ := hs
  refine ⟨h1, h2, h3, h4.imp id ?_⟩
  rintro ⟨b, o, hne, rfl, rfl, hc⟩
  exact ⟨b, o, hne, rfl, rfl, fun i hi => by rw [h b (by simp)]; exact hc i hi⟩

mutual
theorem NodeF.keep {w w' : World} : ∀ {n : Nd} {na : Option Addr} {nc : Nat} {ka : Option Addr} {kc : Nat} {fp : List Nat}, NodeF w n na nc ka kc fp →
    (∀ b ∈ fp, ∀ o, w'.cell? ⟨b, o, none⟩ = w.cell? ⟨b, o, none⟩) → NodeF w' n na nc ka kc fp
  | ⟨_, _, _, _, kids⟩, na, nc, ka, kc, fp, hn, h => by
    unfold NodeF at hn ⊢
    obtain ⟨f1, f2, rfl, h1, h2, h3, h4, h5⟩ := hn
    refine ⟨f1, f2, rfl, h1, h2.keep (fun b hb => h b (by simp [hb])), h3, h4, h5.imp id ?_⟩
    rintro ⟨b, o, f3, hne, rfl, rfl, hc⟩
    exact ⟨b, o, f3, hne, rfl, rfl, KidsF.keep hc (fun x hx => h x (by simp [hx])) (fun o' _ _ => h b (by simp) o')⟩
theorem KidsF.keep {w w' : World} {b : Nat} : ∀ {l : List Nd} {o : Nat} {fp : List Nat}, KidsF w b o l fp → (∀ x ∈ fp, ∀ o', w'.cell? ⟨x, o', none⟩ = w.cell? ⟨x, o', none⟩) →
    (∀ o', o ≤ o' → o' < o + 5 * l.length → w'.cell? ⟨b, o', none⟩ = w.cell? ⟨b, o', none⟩) → KidsF w' b o l fp
  | [], _, _, hk, _, _ => by unfold KidsF at hk ⊢; exact hk
  | k :: ks, o, fp, hk, h, hb => by
    unfold KidsF at hk ⊢
    obtain ⟨f1, f2, rfl, ⟨na, nc, ka, kc, c0, c1, c2, c3, c4, hn⟩, hr⟩ := hk
    simp only [List.length_cons] at hb
    refine ⟨f1, f2, rfl, ⟨na, nc, ka, kc, ?_, ?_, ?_, ?_, ?_, NodeF.keep hn (fun x hx => h x (by simp [hx]))⟩, KidsF.keep hr (fun x hx => h x (by simp [hx])) (fun o' h1 h2 => hb o' (by omega) (by omega))⟩
    · rw [hb _ (by omega) (by omega)]; exact c0
    · rw [hb _ (by omega) (by omega)]; exact c1
    · rw [hb _ (by omega) (by omega)]; exact c2
    · rw [hb _ (by omega) (by omega)]; exact c3
    · rw [hb _ (by omega) (by omega)]; exact c4
end

theorem NodesF.keep {w w' : World} {a : Option Addr} {c : Nat} {l : List Nd} {fp : List Nat} (hs : NodesF w a c l fp)
    (h : ∀ b ∈ fp, ∀ o, w'.cell? ⟨b, o, none⟩ = w.cell? ⟨b, o, none⟩) : NodesF w' a c l fp := by
  obtain ⟨h1, h2, h4⟩ := hs
  refine ⟨h1, h2, h4.imp id ?_⟩
  rintro ⟨b, o, f, hne, rfl, rfl, hc⟩
  exact ⟨b, o, f, hne, rfl, rfl, hc.keep (fun x hx => h x (by simp [hx])) (fun o' _ _ => h b (by simp) o')⟩

theorem Ext.keeps {X : Nat → Prop} {w w' : World} (h : Ext X w w') {B : Nat} {fp : List Nat} (hf : Free B w fp) (hx : ∀ b ∈ fp, ¬ X b) : ∀ b ∈ fp, ∀ o, w'.cell? ⟨b, o, none⟩ = w.cell? ⟨b, o, none⟩ :=
  fun b hb o => h.cell (p := ⟨b, o, none⟩) (hf.2 b hb).2.1 (hx b hb)

theorem Free.ext {X : Nat → Prop} {w w' : World} (h : Ext X w w') {B : Nat} {fp : List Nat} (hf : Free B w fp) (hx : ∀ b ∈ fp, ¬ X b) : Free B w' fp :=
  ⟨hf.1, fun b hb => ⟨(hf.2 b hb).1, Nat.lt_of_lt_of_le (hf.2 b hb).2.1 h.size, fun o => by rw [h.frozen (p := ⟨b, o, none⟩) (hf.2 b hb).2.1 (hx b hb)]; exact (hf.2 b hb).2.2 o⟩⟩

theorem Free.mono {B B' : Nat} {w : World} {fp : List Nat} (hf : Free B w fp) (h : B' ≤ B) : Free B' w fp := ⟨hf.1, fun b hb => ⟨Nat.le_trans h (hf.2 b hb).1, (hf.2 b hb).2⟩⟩
theorem Free.nil (B : Nat) (w : World) : Free B w [] := ⟨List.nodup_nil, fun b hb => by cases hb⟩
theorem Free.append {B C : Nat} {w w' : World} {f g : List Nat} (hf : Free B w f) (hg : Free C w' g) (hw : Grow w w') (hC : w.heap.size ≤ C) (hBC : B ≤ C) : Free B w' (f ++ g) := by
  refine ⟨List.nodup_append.2 ⟨hf.1, hg.1, fun a ha b hb e => ?_⟩, fun b hb => ?_⟩
  · subst e
    have := (hf.2 a ha).2.1
    have := (hg.2 a hb).1
    omega
  · rcases List.mem_append.1 hb with h | h
    · exact (hf.ext hw (fun _ _ h => h)).2 b h
    · have := hg.2 b h; exact ⟨Nat.le_trans hBC this.1, this.2⟩

/-! ### They read as nodes -/

theorem StrsF.toR {w : World} {a : Option Addr} {c : Nat} {xs : List ByteArray} {fp : List Nat} (hs : StrsF w a c xs fp) {S : Nat → Prop} (hS : ∀ b ∈ fp, S b) : StrsR w S a c xs := by
  obtain ⟨h1, h2, h3, h4⟩ := hs
  refine ⟨h1, h2, h3, h4.imp (fun h => h.1) ?_⟩
  rintro ⟨b, o, _, rfl, rfl, hc⟩
  exact ⟨b, o, rfl, hS b (by simp), hc⟩

mutual
theorem NodeF.toC {w : World} {S : Nat → Prop} : ∀ {n : Nd} {na : Option Addr} {nc : Nat} {ka : Option Addr} {kc : Nat} {fp : List Nat}, NodeF w n na nc ka kc fp → (∀ b ∈ fp, S b) → NodeC w S n na nc ka kc
  | ⟨_, _, _, _, kids⟩, na, nc, ka, kc, fp, hn, h => by
    unfold NodeF at hn; unfold NodeC
    obtain ⟨f1, f2, rfl, h1, h2, h3, h4, h5⟩ := hn
    refine ⟨h1, h2.toR (fun b hb => h b (by simp [hb])), h3, h4, h5.imp (fun h => h.1) ?_⟩
    rintro ⟨b, o, f3, _, rfl, rfl, hc⟩
    exact ⟨b, o, rfl, h b (by simp), KidsF.toR hc (fun x hx => h x (by simp [hx]))⟩
theorem KidsF.toR {w : World} {S : Nat → Prop} {b : Nat} : ∀ {l : List Nd} {o : Nat} {fp : List Nat}, KidsF w b o l fp → (∀ x ∈ fp, S x) → KidsR w S b o l
  | [], _, _, _, _ => by unfold KidsR; trivial
  | k :: ks, o, fp, hk, h => by
    unfold KidsF at hk; unfold KidsR
    obtain ⟨f1, f2, rfl, ⟨na, nc, ka, kc, c0, c1, c2, c3, c4, hn⟩, hr⟩ := hk
    exact ⟨⟨na, nc, ka, kc, c0, c1, c2, c3, c4, NodeF.toC hn (fun x hx => h x (by simp [hx]))⟩, KidsF.toR hr (fun x hx => h x (by simp [hx]))⟩
end

theorem NodesF.toR {w : World} {a : Option Addr} {c : Nat} {l : List Nd} {fp : List Nat} (hs : NodesF w a c l fp) {S : Nat → Prop} (hS : ∀ b ∈ fp, S b) : NodesR w S a c l := by
  obtain ⟨h1, h2, h4⟩ := hs
  refine ⟨h1, h2, h4.imp (fun h => h.1) ?_⟩
  rintro ⟨b, o, f, _, rfl, rfl, hc⟩
  exact ⟨b, o, rfl, hS b (by simp), hc.toR (fun x hx => hS x (by simp [hx]))⟩

theorem NodeO.toR {w : World} {n : Nd} {v : Value} {fp : List Nat} (h : NodeO w n v fp) {S : Nat → Prop} (hS : ∀ b ∈ fp, S b) : NodeR w S n v := by
  obtain ⟨na, nc, ka, kc, hv, hc⟩ := h
  exact ⟨na, nc, ka, kc, hv, hc.toC hS⟩

/-! ### One more at the end of a row -/

theorem KidsF.snoc {w : World} {b : Nat} {k : Nd} {f' : List Nat} {na : Option Addr} {nc : Nat} {ka : Option Addr} {kc : Nat} : ∀ {l : List Nd} {o : Nat} {fp : List Nat}, KidsF w b o l fp →
    w.cell? ⟨b, o + 5 * l.length, none⟩ = some (.int .i64 k.kind) → w.cell? ⟨b, o + 5 * l.length + 1, none⟩ = some (.int .i64 k.num) → w.cell? ⟨b, o + 5 * l.length + 2, none⟩ = some (.string k.text) →
    w.cell? ⟨b, o + 5 * l.length + 3, none⟩ = some (.slice na k.names.length nc) → w.cell? ⟨b, o + 5 * l.length + 4, none⟩ = some (.slice ka k.kids.length kc) → NodeF w k na nc ka kc f' →
    KidsF w b o (l ++ [k]) (fp ++ f')
  | [], o, fp, hk, c0, c1, c2, c3, c4, hn => by
    unfold KidsF at hk; subst hk
    simp only [List.length_nil, Nat.mul_zero, Nat.add_zero] at c0 c1 c2 c3 c4
    simp only [List.nil_append]
    unfold KidsF
    exact ⟨f', [], by simp, ⟨na, nc, ka, kc, c0, c1, c2, c3, c4, hn⟩, by unfold KidsF; rfl⟩
  | x :: l, o, fp, hk, c0, c1, c2, c3, c4, hn => by
    unfold KidsF at hk
    obtain ⟨f1, f2, rfl, hx, hr⟩ := hk
    have e : o + 5 * (x :: l).length = o + 5 + 5 * l.length := by simp; omega
    rw [e] at c0 c1 c2 c3 c4
    simp only [List.cons_append]
    unfold KidsF
    exact ⟨f1, f2 ++ f', by simp, hx, KidsF.snoc hr c0 c1 c2 c3 c4 hn⟩

/-! ### A row that is being filled -/

/-- Block b is there, its first n cells too, and it is not frozen. -/
def RowIn (w : World) (b n : Nat) : Prop := b < w.heap.size ∧ (∀ j, j < n → ∃ u, w.cell? ⟨b, j, none⟩ = some u) ∧ ∀ j, w.frozen? ⟨b, j, none⟩ = false

theorem RowIn.made (w : World) (z : Array Value) (n : Nat) (t : TypeId) : RowIn (w.alloc (.cells (madeCells z n) t)) w.heap.size n := by
  refine ⟨by simp, fun j hj => ?_, fun j => World.frozen?_alloc_new w _ t j⟩
  rw [World.cell?_alloc_new]
  exact ⟨_, Array.getElem?_eq_getElem (by rw [size_madeCells]; exact hj)⟩

theorem RowIn.ext {X : Nat → Prop} {w w' : World} {b n : Nat} (h : Ext X w w') (hx : ¬ X b) (hr : RowIn w b n) : RowIn w' b n := by
  obtain ⟨h1, h2, h3⟩ := hr
  refine ⟨Nat.lt_of_lt_of_le h1 h.size, fun j hj => ?_, fun j => ?_⟩
  · rw [h.cell (p := ⟨b, j, none⟩) h1 hx]; exact h2 j hj
  · rw [h.frozen (p := ⟨b, j, none⟩) h1 hx]; exact h3 j

theorem cell_set {w : World} {p : Addr} {u : Value} (h : w.cell? p = some u) (v : Value) (q : Addr) : (w.setCell p v).cell? q = if q = p then some v else w.cell? q := by
  by_cases e : q = p
  · subst e; rw [if_pos rfl]; exact World.cell?_setCell_same w q v h
  · rw [if_neg e]; exact World.cell?_setCell_other w p q v (fun h => e h.symm)

theorem size_setCell (w : World) (p : Addr) (v : Value) : (w.setCell p v).heap.size = w.heap.size := by simp [World.setCell]

theorem RowIn.setCell {w : World} {b n : Nat} (hr : RowIn w b n) (p : Addr) (v : Value) : RowIn (w.setCell p v) b n := by
  obtain ⟨h1, h2, h3⟩ := hr
  refine ⟨by rw [size_setCell]; exact h1, fun j hj => cell?_setCell_some (h2 j hj).choose_spec, fun j => ?_⟩
  rw [World.frozen?_setCell]; exact h3 j

/-- A store into a block that was not there. -/
theorem Ext.setNew {X : Nat → Prop} {a w : World} (h : Ext X a w) {p : Addr} (hp : a.heap.size ≤ p.block) (v : Value) : Ext X a (w.setCell p v) :=
  ⟨h.os, h.tape, h.output, by rw [size_setCell]; exact h.size, fun k hk hx => by rw [Below.heap_setCell _ _ _ _ (by omega)]; exact h.block k hk hx⟩

/-- A store into a block of X. -/
theorem Ext.setIn {X : Nat → Prop} {a w : World} (h : Ext X a w) {p : Addr} (hp : X p.block) (v : Value) : Ext X a (w.setCell p v) :=
  ⟨h.os, h.tape, h.output, by rw [size_setCell]; exact h.size, fun k hk hx => by rw [Below.heap_setCell _ _ _ _ (fun e => hx (by rw [e]; exact hp))]; exact h.block k hk hx⟩

theorem Free.setCell {B : Nat} {w : World} {fp : List Nat} (hf : Free B w fp) (p : Addr) (v : Value) : Free B (w.setCell p v) fp :=
  ⟨hf.1, fun b hb => ⟨(hf.2 b hb).1, by rw [size_setCell]; exact (hf.2 b hb).2.1, fun o => by rw [World.frozen?_setCell]; exact (hf.2 b hb).2.2 o⟩⟩

theorem Free.one {B : Nat} {w : World} {b n : Nat} (hr : RowIn w b n) (h : B ≤ b) : Free B w [b] :=
  ⟨by simp, fun x hx => by simp at hx; subst hx; exact ⟨h, hr.1, hr.2.2⟩⟩

theorem Free.cons {B : Nat} {w : World} {b n : Nat} {fp : List Nat} (hr : RowIn w b n) (h : B ≤ b) (hf : Free (b + 1) w fp) : Free B w (b :: fp) :=
  ⟨List.nodup_cons.2 ⟨fun hm => by have := (hf.2 b hm).1; omega, hf.1⟩, fun x hx => by
    rcases List.mem_cons.1 hx with rfl | hx
    · exact ⟨h, hr.1, hr.2.2⟩
    · have := hf.2 x hx; exact ⟨by omega, this.2⟩⟩

/-- Five stores, one behind the other. -/
def store5 (w : World) (b o : Nat) (v0 v1 v2 v3 v4 : Value) : World :=
  ((((w.setCell ⟨b, o, none⟩ v0).setCell ⟨b, o + 1, none⟩ v1).setCell ⟨b, o + 2, none⟩ v2).setCell ⟨b, o + 3, none⟩ v3).setCell ⟨b, o + 4, none⟩ v4

theorem store5_ext (w : World) (b o : Nat) (v0 v1 v2 v3 v4 : Value) : Ext (fun k => k = b) w (store5 w b o v0 v1 v2 v3 v4) :=
  (((((Ext.refl (fun k => k = b) w).setIn (p := ⟨b, o, none⟩) rfl v0).setIn (p := ⟨b, o + 1, none⟩) rfl v1).setIn (p := ⟨b, o + 2, none⟩) rfl v2).setIn (p := ⟨b, o + 3, none⟩) rfl v3).setIn (p := ⟨b, o + 4, none⟩) rfl v4

theorem store5_row {w : World} {b n : Nat} (hr : RowIn w b n) (o : Nat) (v0 v1 v2 v3 v4 : Value) : RowIn (store5 w b o v0 v1 v2 v3 v4) b n :=
  ((((hr.setCell _ _).setCell _ _).setCell _ _).setCell _ _).setCell _ _

theorem store5_free {B : Nat} {w : World} {fp : List Nat} (hf : Free B w fp) (b o : Nat) (v0 v1 v2 v3 v4 : Value) : Free B (store5 w b o v0 v1 v2 v3 v4) fp :=
  ((((hf.setCell _ _).setCell _ _).setCell _ _).setCell _ _).setCell _ _

theorem store5_cell {w : World} {b n o : Nat} (hr : RowIn w b n) (ho : o + 5 ≤ n) (v0 v1 v2 v3 v4 : Value) (q : Nat) :
    (store5 w b o v0 v1 v2 v3 v4).cell? ⟨b, q, none⟩ = if q = o then some v0 else if q = o + 1 then some v1 else if q = o + 2 then some v2 else if q = o + 3 then some v3 else if q = o + 4 then some v4 else w.cell? ⟨b, q, none⟩ := by
  unfold store5
  have h0 := hr
  have h1 := h0.setCell ⟨b, o, none⟩ v0
  have h2 := h1.setCell ⟨b, o + 1, none⟩ v1
  have h3 := h2.setCell ⟨b, o + 2, none⟩ v2
  have h4 := h3.setCell ⟨b, o + 3, none⟩ v3
  obtain ⟨u0, e0⟩ := h0.2.1 o (by omega)
  obtain ⟨u1, e1⟩ := h1.2.1 (o + 1) (by omega)
  obtain ⟨u2, e2⟩ := h2.2.1 (o + 2) (by omega)
  obtain ⟨u3, e3⟩ := h3.2.1 (o + 3) (by omega)
  obtain ⟨u4, e4⟩ := h4.2.1 (o + 4) (by omega)
  rw [cell_set e4, cell_set e3, cell_set e2, cell_set e1, cell_set e0]
  simp only [Addr.mk.injEq, true_and, and_true]
  by_cases c0 : q = o
  · subst c0; simp
  by_cases c1 : q = o + 1
  · subst c1; simp
  by_cases c2 : q = o + 2
  · subst c2; simp
  by_cases c3 : q = o + 3
  · subst c3; simp
  by_cases c4 : q = o + 4
  · subst c4; simp
  simp [c0, c1, c2, c3, c4]

/-- A node is laid at the end of a row. -/
theorem KidsF.lay {w : World} {b n : Nat} {l : List Nd} {k : Nd} {fp f' : List Nat} {na : Option Addr} {nc : Nat} {ka : Option Addr} {kc : Nat} (hr : RowIn w b n) (hk : KidsF w b 0 l fp)
    (hn : NodeF w k na nc ka kc f') (hlen : (l.length + 1) * 5 ≤ n) (h1 : b ∉ fp) (h2 : b ∉ f') :
    KidsF (store5 w b (l.length * 5) (.int .i64 k.kind) (.int .i64 k.num) (.string k.text) (.slice na k.names.length nc) (.slice ka k.kids.length kc)) b 0 (l ++ [k]) (fp ++ f') := by
  have hc := fun q => store5_cell hr (o := l.length * 5) (by omega) (.int .i64 k.kind) (.int .i64 k.num) (.string k.text) (.slice na k.names.length nc) (.slice ka k.kids.length kc) q
  have he := store5_ext w b (l.length * 5) (.int .i64 k.kind) (.int .i64 k.num) (.string k.text) (.slice na k.names.length nc) (.slice ka k.kids.length kc)
  have other : ∀ x, x ≠ b → ∀ o, (store5 w b (l.length * 5) (.int .i64 k.kind) (.int .i64 k.num) (.string k.text) (.slice na k.names.length nc) (.slice ka k.kids.length kc)).cell? ⟨x, o, none⟩ = w.cell? ⟨x, o, none⟩ := by
    intro x hx o
    unfold store5
    rw [World.cell?_setCell_other _ _ _ _ (by intro e; cases e; exact hx rfl), World.cell?_setCell_other _ _ _ _ (by intro e; cases e; exact hx rfl), World.cell?_setCell_other _ _ _ _ (by intro e; cases e; exact hx rfl),
      World.cell?_setCell_other _ _ _ _ (by intro e; cases e; exact hx rfl), World.cell?_setCell_other _ _ _ _ (by intro e; cases e; exact hx rfl)]
  have e0 : 0 + 5 * l.length = l.length * 5 := by omega
  refine KidsF.snoc (hk.keep (fun x hx o => other x (fun e => h1 (e ▸ hx)) o) (fun o' _ ho => ?_)) ?_ ?_ ?_ ?_ ?_ (hn.keep (fun x hx o => other x (fun e => h2 (e ▸ hx)) o))
  · rw [hc, if_neg (by omega), if_neg (by omega), if_neg (by omega), if_neg (by omega), if_neg (by omega)]
  · rw [e0, hc, if_pos rfl]
  · rw [e0, hc, if_neg (by omega), if_pos rfl]
  · rw [e0, hc, if_neg (by omega), if_neg (by omega), if_pos rfl]
  · rw [e0, hc, if_neg (by omega), if_neg (by omega), if_neg (by omega), if_pos rfl]
  · rw [e0, hc, if_neg (by omega), if_neg (by omega), if_neg (by omega), if_neg (by omega), if_pos rfl]

/-! ### A local struct of five cells, written -/

theorem Box5.other {w : World} {b : Nat} {c0 c1 c2 c3 c4 : Value} (hb : Box5 w b c0 c1 c2 c3 c4) {p : Addr} (hp : p.block ≠ b) (v : Value) : Box5 (w.setCell p v) b c0 c1 c2 c3 c4 :=
  hb.ext (X := fun k => k = p.block) (Ext.setIn (X := fun k => k = p.block) (Ext.refl _ w) (p := p) rfl v) (fun h => hp h.symm)
theorem Box5.set0 {w : World} {b : Nat} {c0 c1 c2 c3 c4 : Value} (hb : Box5 w b c0 c1 c2 c3 c4) (v : Value) : Box5 (w.setCell ⟨b, 0, none⟩ v) b v c1 c2 c3 c4 :=
  ⟨by rw [cell_set hb.k0, if_pos rfl], by rw [cell_set hb.k0, if_neg (by simp)]; exact hb.k1, by rw [cell_set hb.k0, if_neg (by simp)]; exact hb.k2, by rw [cell_set hb.k0, if_neg (by simp)]; exact hb.k3, by rw [cell_set hb.k0, if_neg (by simp)]; exact hb.k4, fun o => by rw [World.frozen?_setCell]; exact hb.fr o, by rw [size_setCell]; exact hb.lt⟩
theorem Box5.set1 {w : World} {b : Nat} {c0 c1 c2 c3 c4 : Value} (hb : Box5 w b c0 c1 c2 c3 c4) (v : Value) : Box5 (w.setCell ⟨b, 1, none⟩ v) b c0 v c2 c3 c4 :=
  ⟨by rw [cell_set hb.k1, if_neg (by simp)]; exact hb.k0, by rw [cell_set hb.k1, if_pos rfl], by rw [cell_set hb.k1, if_neg (by simp)]; exact hb.k2, by rw [cell_set hb.k1, if_neg (by simp)]; exact hb.k3, by rw [cell_set hb.k1, if_neg (by simp)]; exact hb.k4, fun o => by rw [World.frozen?_setCell]; exact hb.fr o, by rw [size_setCell]; exact hb.lt⟩
theorem Box5.set2 {w : World} {b : Nat} {c0 c1 c2 c3 c4 : Value} (hb : Box5 w b c0 c1 c2 c3 c4) (v : Value) : Box5 (w.setCell ⟨b, 2, none⟩ v) b c0 c1 v c3 c4 :=
  ⟨by rw [cell_set hb.k2, if_neg (by simp)]; exact hb.k0, by rw [cell_set hb.k2, if_neg (by simp)]; exact hb.k1, by rw [cell_set hb.k2, if_pos rfl], by rw [cell_set hb.k2, if_neg (by simp)]; exact hb.k3, by rw [cell_set hb.k2, if_neg (by simp)]; exact hb.k4, fun o => by rw [World.frozen?_setCell]; exact hb.fr o, by rw [size_setCell]; exact hb.lt⟩
theorem Box5.set3 {w : World} {b : Nat} {c0 c1 c2 c3 c4 : Value} (hb : Box5 w b c0 c1 c2 c3 c4) (v : Value) : Box5 (w.setCell ⟨b, 3, none⟩ v) b c0 c1 c2 v c4 :=
  ⟨by rw [cell_set hb.k3, if_neg (by simp)]; exact hb.k0, by rw [cell_set hb.k3, if_neg (by simp)]; exact hb.k1, by rw [cell_set hb.k3, if_neg (by simp)]; exact hb.k2, by rw [cell_set hb.k3, if_pos rfl], by rw [cell_set hb.k3, if_neg (by simp)]; exact hb.k4, fun o => by rw [World.frozen?_setCell]; exact hb.fr o, by rw [size_setCell]; exact hb.lt⟩
theorem Box5.set4 {w : World} {b : Nat} {c0 c1 c2 c3 c4 : Value} (hb : Box5 w b c0 c1 c2 c3 c4) (v : Value) : Box5 (w.setCell ⟨b, 4, none⟩ v) b c0 c1 c2 c3 v :=
  ⟨by rw [cell_set hb.k4, if_neg (by simp)]; exact hb.k0, by rw [cell_set hb.k4, if_neg (by simp)]; exact hb.k1, by rw [cell_set hb.k4, if_neg (by simp)]; exact hb.k2, by rw [cell_set hb.k4, if_neg (by simp)]; exact hb.k3, by rw [cell_set hb.k4, if_pos rfl], fun o => by rw [World.frozen?_setCell]; exact hb.fr o, by rw [size_setCell]; exact hb.lt⟩

/-- A local struct. -/
structure BoxN (w : World) (b : Nat) (cs : List Value) : Prop where
  cell : ∀ i v, cs[i]? = some v → w.cell? ⟨b, i, none⟩ = some v
  fr : ∀ o, w.frozen? ⟨b, o, none⟩ = false
  lt : b < w.heap.size

theorem BoxN.new (w : World) (cs : List Value) (t : TypeId) : BoxN (w.alloc (.cells cs.toArray t)) w.heap.size cs :=
  ⟨fun i v h => by rw [World.cell?_alloc_new]; simpa using h, fun o => World.frozen?_alloc_new w _ t o, by simp⟩
theorem BoxN.new1 (w : World) (x : Obj) (cs : List Value) (t : TypeId) : BoxN ((w.alloc x).alloc (.cells cs.toArray t)) (w.heap.size + 1) cs := by
  have := BoxN.new (w.alloc x) cs t
  rw [World.size_alloc] at this; exact this
theorem BoxN.new2 (w : World) (x y : Obj) (cs : List Value) (t : TypeId) : BoxN (((w.alloc x).alloc y).alloc (.cells cs.toArray t)) (w.heap.size + 1 + 1) cs := by
  have := BoxN.new ((w.alloc x).alloc y) cs t
  rw [World.size_alloc, World.size_alloc] at this; exact this
theorem BoxN.ext {X : Nat → Prop} {w w' : World} {b : Nat} {cs : List Value} (hb : BoxN w b cs) (h : Ext X w w') (hx : ¬ X b) : BoxN w' b cs :=
  ⟨fun i v hi => by rw [h.cell hb.lt hx]; exact hb.cell i v hi, fun o => by rw [h.frozen (p := ⟨b, o, none⟩) hb.lt hx]; exact hb.fr o, Nat.lt_of_lt_of_le hb.lt h.size⟩
theorem BoxN.grow {w w' : World} {b : Nat} {cs : List Value} (hb : BoxN w b cs) (h : Grow w w') : BoxN w' b cs := hb.ext h (fun h => h)
theorem BoxN.other {w : World} {b : Nat} {cs : List Value} (hb : BoxN w b cs) {p : Addr} (hp : p.block ≠ b) (v : Value) : BoxN (w.setCell p v) b cs :=
  hb.ext (X := fun k => k = p.block) (Ext.setIn (X := fun k => k = p.block) (Ext.refl _ w) (p := p) rfl v) (fun h => hp h.symm)
theorem BoxN.set {w : World} {b : Nat} {cs : List Value} (hb : BoxN w b cs) (i : Nat) (hi : i < cs.length) (v : Value) : BoxN (w.setCell ⟨b, i, none⟩ v) b (cs.set i v) := by
  refine ⟨fun j u h => ?_, fun o => by rw [World.frozen?_setCell]; exact hb.fr o, by rw [size_setCell]; exact hb.lt⟩
  rw [cell_set (hb.cell i cs[i] (List.getElem?_eq_getElem hi))]
  rw [List.getElem?_set] at h
  by_cases e : j = i
  · subst e; simpa [hi] using h
  · rw [if_neg (by intro h'; cases h'; exact e rfl)]
    rw [if_neg (fun h' => e h'.symm)] at h
    exact hb.cell j u h

/-- The cells of a node. -/
def nodeL (n : Nd) (na : Option Addr) (nc : Nat) (ka : Option Addr) (kc : Nat) : List Value :=
  [.int .i64 n.kind, .int .i64 n.num, .string n.text, .slice na n.names.length nc, .slice ka n.kids.length kc]

mutual
theorem NodeC.mono {w : World} {S T : Nat → Prop} (hS : ∀ k, S k → T k) : ∀ {n : Nd} {na : Option Addr} {nc : Nat} {ka : Option Addr} {kc : Nat}, NodeC w S n na nc ka kc → NodeC w T n na nc ka kc
  | ⟨_, _, _, _, kids⟩, na, nc, ka, kc, hn => by
    unfold NodeC at hn ⊢
    obtain ⟨h1, h2, h3, h4, h5⟩ := hn
    refine ⟨h1, h2.mono hS, h3, h4, h5.imp id ?_⟩
    rintro ⟨b, o, e, hb, hk⟩
    exact ⟨b, o, e, hS b hb, KidsR.mono hS hk⟩
theorem KidsR.mono {w : World} {S T : Nat → Prop} (hS : ∀ k, S k → T k) {b : Nat} : ∀ {l : List Nd} {o : Nat}, KidsR w S b o l → KidsR w T b o l
  | [], _, _ => by unfold KidsR; trivial
  | k :: ks, o, hk => by
    unfold KidsR at hk ⊢
    obtain ⟨⟨na, nc, ka, kc, c0, c1, c2, c3, c4, hn⟩, hr⟩ := hk
    exact ⟨⟨na, nc, ka, kc, c0, c1, c2, c3, c4, NodeC.mono hS hn⟩, KidsR.mono hS hr⟩
end

/-- Blocks from B on. -/
def upB (B : Nat) (k : Nat) : Prop := B ≤ k

/-! ### Several stores, one behind the other -/

/-- Stores of a list of values from a place on. -/
def storeL (w : World) (b : Nat) : Nat → List Value → World
  | _, [] => w
  | o, v :: vs => storeL (w.setCell ⟨b, o, none⟩ v) b (o + 1) vs

theorem storeL_ext (b : Nat) : ∀ (vs : List Value) (w : World) (o : Nat), Ext (fun k => k = b) w (storeL w b o vs)
  | [], _, _ => Ext.refl _ _
  | v :: vs, w, o => (Ext.setIn (X := fun k => k = b) (Ext.refl _ w) (p := ⟨b, o, none⟩) rfl v).trans (storeL_ext b vs _ _)
theorem storeL_row (b : Nat) {n : Nat} : ∀ (vs : List Value) {w : World} (o : Nat), RowIn w b n → RowIn (storeL w b o vs) b n
  | [], _, _, h => h
  | _ :: vs, _, o, h => storeL_row b vs (o + 1) (h.setCell _ _)
theorem storeL_free (b : Nat) {B : Nat} {fp : List Nat} : ∀ (vs : List Value) {w : World} (o : Nat), Free B w fp → Free B (storeL w b o vs) fp
  | [], _, _, h => h
  | _ :: vs, _, o, h => storeL_free b vs (o + 1) (h.setCell _ _)
theorem storeL_elsewhere (b : Nat) : ∀ (vs : List Value) (w : World) (o : Nat) (x q : Nat), x ≠ b → (storeL w b o vs).cell? ⟨x, q, none⟩ = w.cell? ⟨x, q, none⟩
  | [], _, _, _, _, _ => rfl
  | v :: vs, w, o, x, q, h => by
    rw [storeL, storeL_elsewhere b vs _ _ x q h, World.cell?_setCell_other _ _ _ _ (by intro e; cases e; exact h rfl)]
theorem storeL_cell (b : Nat) {n : Nat} : ∀ (vs : List Value) {w : World} (o : Nat), RowIn w b n → o + vs.length ≤ n → ∀ q, (storeL w b o vs).cell? ⟨b, q, none⟩ = if o ≤ q ∧ q < o + vs.length then vs[q - o]? else w.cell? ⟨b, q, none⟩
  | [], _, o, _, _, q => by rw [if_neg (by simp only [List.length_nil]; omega)]; rfl
  | v :: vs, _, o, h, hn, q => by
    simp only [List.length_cons] at hn
    obtain ⟨u, hu⟩ := h.2.1 o (by omega)
    rw [storeL, storeL_cell b vs (o + 1) (h.setCell _ _) (by omega) q, cell_set hu]
    simp only [List.length_cons]
    by_cases hq : q = o
    · subst hq
      rw [if_neg (by omega), if_pos rfl, if_pos (by omega)]; simp
    · have hne : ¬ (⟨b, q, none⟩ : Addr) = ⟨b, o, none⟩ := by intro h'; exact hq (congrArg Addr.off h')
      rw [if_neg hne]
      by_cases h1 : o + 1 ≤ q ∧ q < o + 1 + vs.length
      · have h2 : o ≤ q ∧ q < o + (vs.length + 1) := by omega
        rw [if_pos h1, if_pos h2, show q - o = (q - (o + 1)) + 1 by omega]; simp
      · have h2 : ¬ (o ≤ q ∧ q < o + (vs.length + 1)) := by omega
        rw [if_neg h1, if_neg h2]

theorem storeL_at {w : World} {b n o : Nat} {vs : List Value} (hr : RowIn w b n) (hn : o + vs.length ≤ n) (i : Nat) (v : Value) (hi : vs[i]? = some v) : (storeL w b o vs).cell? ⟨b, o + i, none⟩ = some v := by
  have hl := (List.getElem?_eq_some_iff.1 hi).1
  rw [storeL_cell b vs o hr hn, if_pos (by omega), show o + i - o = i by omega]; exact hi
theorem storeL_below {w : World} {b n o : Nat} {vs : List Value} (hr : RowIn w b n) (hn : o + vs.length ≤ n) (q : Nat) (hq : q < o) : (storeL w b o vs).cell? ⟨b, q, none⟩ = w.cell? ⟨b, q, none⟩ := by
  rw [storeL_cell b vs o hr hn, if_neg (by omega)]

end Go.Proofs.Ytmeobmegnneegaa

/-
  Shapes told by themselves, and how they lie in memory. 
-/
namespace Go.Proofs.Ytmeobmegnneegaa
open Go Go.RowKit

/-- A shape, told by itself. -/
structure Shp where
  kind : Int
  names : List ByteArray
  needs : List Bool
  kids : List Shp

theorem Shp.ind' (P : Shp → Prop) (h : ∀ n : Shp, (∀ k ∈ n.kids, P k) → P n) : ∀ n, P n := by
  intro n
  refine Shp.rec (motive_1 := P) (motive_2 := fun l => ∀ k ∈ l, P k) ?_ ?_ ?_ n
  · intro kind names needs kids ih
    exact h ⟨kind, names, needs, kids⟩ ih
  · intro k hk; cases hk
  · intro k ks h1 h2 x hx
    rcases List.mem_cons.1 hx with rfl | hx
    · exact h1
    · exact h2 _ hx

/-- A slice of truth values. -/
def BoolsR (w : World) (S : Nat → Prop) (a : Option Addr) (c : Nat) (xs : List Bool) : Prop :=
  xs.length ≤ c ∧ xs.length ≤ big ∧ (xs = [] ∨ ∃ b o, a = some ⟨b, o, none⟩ ∧ S b ∧ ∀ i (h : i < xs.length), w.cell? ⟨b, o + i, none⟩ = some (.bool xs[i]))

mutual
def ShapeC (w : World) (S : Nat → Prop) : Shp → Option Addr → Nat → Option Addr → Nat → Option Addr → Nat → Prop
  | ⟨_, names, needs, kids⟩, na, nc, ba, bc, ka, kc => StrsR w S na nc names ∧ BoolsR w S ba bc needs ∧ kids.length ≤ kc ∧ kids.length ≤ big ∧ (kids = [] ∨ ∃ b o, ka = some ⟨b, o, none⟩ ∧ S b ∧ ShpsR w S b o kids)
def ShpsR (w : World) (S : Nat → Prop) (b : Nat) : Nat → List Shp → Prop
  | _, [] => True
  | o, k :: ks => (∃ na nc ba bc ka kc, w.cell? ⟨b, o, none⟩ = some (.int .i64 k.kind) ∧ w.cell? ⟨b, o + 1, none⟩ = some (.slice na k.names.length nc) ∧
      w.cell? ⟨b, o + 2, none⟩ = some (.slice ba k.needs.length bc) ∧ w.cell? ⟨b, o + 3, none⟩ = some (.slice ka k.kids.length kc) ∧ ShapeC w S k na nc ba bc ka kc) ∧ ShpsR w S b (o + 4) ks
end

/-- The value of a shape. -/
def shapeV (n : Shp) (na : Option Addr) (nc : Nat) (ba : Option Addr) (bc : Nat) (ka : Option Addr) (kc : Nat) : Value :=
  .agg #[.int .i64 n.kind, .slice na n.names.length nc, .slice ba n.needs.length bc, .slice ka n.kids.length kc]
def ShapeR (w : World) (S : Nat → Prop) (n : Shp) (v : Value) : Prop := ∃ na nc ba bc ka kc, v = shapeV n na nc ba bc ka kc ∧ ShapeC w S n na nc ba bc ka kc

theorem BoolsR.ext {X S : Nat → Prop} {w w' : World} (h : Ext X w w') (hS : ∀ k, S k → ¬ X k) {a : Option Addr} {c : Nat} {xs : List Bool} (hs : BoolsR w S a c xs) : BoolsR w' S a c xs := by
  obtain ⟨h1, h2, h4⟩ := hs
  refine ⟨h1, h2, h4.imp id ?_⟩
  rintro ⟨b, o, rfl, hb, hc⟩
  exact ⟨b, o, rfl, hb, fun i hi => h.some (hc i hi) (hS b hb)⟩

theorem ShapeC.parts {w : World} {S : Nat → Prop} {n : Shp} {na : Option Addr} {nc : Nat} {ba : Option Addr} {bc : Nat} {ka : Option Addr} {kc : Nat} (h : ShapeC w S n na nc ba bc ka kc) :
    StrsR w S na nc n.names ∧ BoolsR w S ba bc n.needs ∧ n.kids.length ≤ kc ∧ n.kids.length ≤ big ∧ (n.kids = [] ∨ ∃ b o, ka = some ⟨b, o, none⟩ ∧ S b ∧ ShpsR w S b o n.kids) := by
  cases n; unfold ShapeC at h; exact h

mutual
theorem ShapeC.ext {X S : Nat → Prop} {w w' : World} (h : Ext X w w') (hS : ∀ k, S k → ¬ X k) : ∀ {n : Shp} {na : Option Addr} {nc : Nat} {ba : Option Addr} {bc : Nat} {ka : Option Addr} {kc : Nat}, ShapeC w S n na nc ba bc ka kc → ShapeC w' S n na nc ba bc ka kc
  | ⟨_, _, _, kids⟩, na, nc, ba, bc, ka, kc, hn => by
    unfold ShapeC at hn ⊢
    obtain ⟨h1, h2, h3, h4, h5⟩ := hn
    refine ⟨h1.ext h hS, h2.ext h hS, h3, h4, h5.imp id ?_⟩
    rintro ⟨b, o, e, hb, hk⟩
    exact ⟨b, o, e, hb, ShpsR.ext h hS (hS b hb) hk⟩
theorem ShpsR.ext {X S : Nat → Prop} {w w' : World} (h : Ext X w w') (hS : ∀ k, S k → ¬ X k) {b : Nat} (hb : ¬ X b) : ∀ {l : List Shp} {o : Nat}, ShpsR w S b o l → ShpsR w' S b o l
  | [], _, _ => by unfold ShpsR; trivial
  | k :: ks, o, hk => by
    unfold ShpsR at hk ⊢
    obtain ⟨⟨na, nc, ba, bc, ka, kc, c0, c1, c2, c3, hn⟩, hr⟩ := hk
    exact ⟨⟨na, nc, ba, bc, ka, kc, h.some c0 hb, h.some c1 hb, h.some c2 hb, h.some c3 hb, ShapeC.ext h hS hn⟩, ShpsR.ext h hS hb hr⟩
end

theorem ShpsR.get {w : World} {S : Nat → Prop} {b : Nat} : ∀ {l : List Shp} {o : Nat}, ShpsR w S b o l → ∀ i (h : i < l.length), ∃ na nc ba bc ka kc,
    w.cell? ⟨b, o + i * 4, none⟩ = some (.int .i64 l[i].kind) ∧ w.cell? ⟨b, o + i * 4 + 1, none⟩ = some (.slice na l[i].names.length nc) ∧
      w.cell? ⟨b, o + i * 4 + 2, none⟩ = some (.slice ba l[i].needs.length bc) ∧ w.cell? ⟨b, o + i * 4 + 3, none⟩ = some (.slice ka l[i].kids.length kc) ∧ ShapeC w S l[i] na nc ba bc ka kc
  | [], _, _, i, h => absurd h (by simp)
  | k :: ks, o, hk, 0, _ => by
    unfold ShpsR at hk
    simpa using hk.1
  | k :: ks, o, hk, i + 1, h => by
    unfold ShpsR at hk
    have := ShpsR.get hk.2 i (by simpa using h)
    simp only [List.getElem_cons_succ]
    have e : o + (i + 1) * 4 = o + 4 + i * 4 := by omega
    rw [e]
    exact this

theorem ShapeR.ext {X S : Nat → Prop} {w w' : World} (h : Ext X w w') (hS : ∀ k, S k → ¬ X k) {n : Shp} {v : Value} (hn : ShapeR w S n v) : ShapeR w' S n v := by
  obtain ⟨na, nc, ba, bc, ka, kc, hv, hc⟩ := hn
  exact ⟨na, nc, ba, bc, ka, kc, hv, hc.ext h hS⟩
theorem ShapeR.grow {S : Nat → Prop} {w w' : World} {n : Shp} {v : Value} (hn : ShapeR w S n v) (h : Grow w w') : ShapeR w' S n v := hn.ext h (fun _ _ h => h)

end Go.Proofs.Ytmeobmegnneegaa

/-
  The order of texts, byte by byte.
-/
namespace Go.Proofs.Ytmeobmegnneegaa
open Go Go.RowKit

/-- Text a is less than text b. -/
abbrev lt (a b : ByteArray) : Bool := Op.bytesLess a.toList b.toList

theorem bl_irrefl : ∀ x : List UInt8, Op.bytesLess x x = false
  | [] => rfl
  | a :: x => by simp [Op.bytesLess, bl_irrefl x]

theorem bl_tri : ∀ x y : List UInt8, (Op.bytesLess x y || x == y) = !Op.bytesLess y x
  | [], [] => rfl
  | [], b :: y => by simp [Op.bytesLess]
  | a :: x, [] => by simp [Op.bytesLess]
  | a :: x, b :: y => by
    have ih := bl_tri x y
    simp only [Op.bytesLess, List.cons_beq_cons]
    rcases (show a.toNat < b.toNat ∨ a.toNat = b.toNat ∨ b.toNat < a.toNat from by omega) with h | h | h
    · have h1 : a < b := UInt8.lt_iff_toNat_lt.2 h
      have h2 : ¬ b < a := fun h' => by have := UInt8.lt_iff_toNat_lt.1 h'; omega
      have h3 : ¬ a = b := fun e => by subst e; omega
      have h4 : ¬ b = a := fun e => h3 e.symm
      simp [h1, h2, h4]
    · have h3 : a = b := UInt8.toNat_inj.1 h
      subst h3
      have h1 : ¬ a < a := fun h' => by have := UInt8.lt_iff_toNat_lt.1 h'; omega
      simp [h1, ih]
    · have h1 : b < a := UInt8.lt_iff_toNat_lt.2 h
      have h2 : ¬ a < b := fun h' => by have := UInt8.lt_iff_toNat_lt.1 h'; omega
      have h3 : ¬ a = b := fun e => by subst e; omega
      have h4 : ¬ b = a := fun e => h3 e.symm
      simp [h1, h2, h3]

theorem bl_trans : ∀ x y z : List UInt8, Op.bytesLess x y = true → Op.bytesLess y z = true → Op.bytesLess x z = true
  | x, [], _, h, _ => by cases x <;> simp [Op.bytesLess] at h
  | _, _ :: _, [], _, h => by simp [Op.bytesLess] at h
  | [], _ :: _, _ :: _, _, _ => rfl
  | a :: x, b :: y, c :: z, h1, h2 => by
    simp only [Op.bytesLess, Bool.or_eq_true, Bool.and_eq_true, decide_eq_true_eq, beq_iff_eq] at h1 h2 ⊢
    rcases h1 with h1 | ⟨rfl, h1⟩
    · rcases h2 with h2 | ⟨rfl, h2⟩
      · exact .inl (UInt8.lt_iff_toNat_lt.2 (Nat.lt_trans (UInt8.lt_iff_toNat_lt.1 h1) (UInt8.lt_iff_toNat_lt.1 h2)))
      · exact .inl h1
    · rcases h2 with h2 | ⟨rfl, h2⟩
      · exact .inl h2
      · exact .inr ⟨rfl, bl_trans x y z h1 h2⟩

theorem bl_asymm (x y : List UInt8) (h : Op.bytesLess x y = true) : Op.bytesLess y x = false := by
  cases h' : Op.bytesLess y x
  · rfl
  · have := bl_trans _ _ _ h h'
    rw [bl_irrefl] at this; cases this

theorem toList_inj {a b : ByteArray} (h : a.toList = b.toList) : a = b := by
  have h' : a.data.toList = b.data.toList := by rw [← ByteArray.toList_eq, ← ByteArray.toList_eq]; exact h
  cases a; cases b; simp_all [Array.toList_inj]

theorem beq_toList (a b : ByteArray) : (a.toList == b.toList) = decide (a = b) := by
  by_cases h : a = b
  · simp [h]
  · have : ¬ a.toList = b.toList := fun e => h (toList_inj e)
    simp [h, this]

/-- Of two texts one is less, or they are equal: all tests at once. -/
theorem bl_cases (x y : ByteArray) :
    (Op.bytesLess x.toList y.toList = true ∧ Op.bytesLess y.toList x.toList = false ∧ (x.toList == y.toList) = false ∧ (y.toList == x.toList) = false ∧ x ≠ y) ∨
    (Op.bytesLess x.toList y.toList = false ∧ Op.bytesLess y.toList x.toList = true ∧ (x.toList == y.toList) = false ∧ (y.toList == x.toList) = false ∧ x ≠ y) ∨
    x = y := by
  by_cases h : x = y
  · exact .inr (.inr h)
  · have h1 : (x.toList == y.toList) = false := by rw [beq_toList]; simp [h]
    have h2 : (y.toList == x.toList) = false := by rw [beq_toList]; simp [Ne.symm h]
    have h3 := bl_tri x.toList y.toList
    rw [h1, Bool.or_false] at h3
    cases h4 : Op.bytesLess y.toList x.toList
    · exact .inl ⟨by rw [h3, h4]; rfl, rfl, h1, h2, h⟩
    · exact .inr (.inl ⟨by rw [h3, h4]; rfl, rfl, h1, h2, h⟩)

theorem blF_irrefl (x : ByteArray) : Op.bytesLess x.toList x.toList = false := bl_irrefl _

end Go.Proofs.Ytmeobmegnneegaa

/-
  A region that draws its order: one walk of the order of the text serves every order, where each operation that makes memory or calls tells a fact that stays true while the world goes on.
-/
namespace Go.Proofs.Ytmeobmegnneegaa
open Go

section
variable {P : Program} {ops : Array Oper} {md : Region.Mode} {R : World → World → Prop} {Vs : Nat → Option (Value → World → Prop)} {C : World → Prop}

abbrev Env := Nat → World → Prop
def Env.upd (E : Env) (i : Nat) (F : World → Prop) : Env := fun k w => E k w ∧ (k = i → F w)

/-- An operation that runs by itself and hands back one value, the same in every world of the class. -/
def valUpon (R : World → World → Prop) (w : World) (c : Value) : Result Next → Prop
  | .ok (.value u) w' => u = c ∧ R w w'
  | .ok .skip w' => c = undef ∧ R w w'
  | _ => False

def stabUpon (P : Program) (R : World → World → Prop) (w : World) (V : Value → World → Prop) : Result Next → Prop
  | .ok (.value u) w' => R w w' ∧ V u w'
  | .ok .skip w' => R w w' ∧ V undef w'
  | .ok (.enter f args) w' => w' = w ∧ Calls P f args w (fun e w'' => ∃ v, e = .returned v ∧ R w w'' ∧ V v w'')
  | _ => False

def valAt (R : World → World → Prop) (P : Program) (o : Oper) (a : Act) (w : World) (c : Value) : Prop := valUpon R w c ((execOp a.eval o).run P w)
def stabAt (R : World → World → Prop) (P : Program) (o : Oper) (a : Act) (w : World) (V : Value → World → Prop) : Prop := stabUpon P R w V ((execOp a.eval o).run P w)

def cls (C : World → Prop) (o : Oper) (E : Env) (w : World) : Prop := C w ∧ ∀ e ∈ o.after, Region.binds .any e = true → E e.on w

/-- What operation 'o', number i, does in state (a, E). -/
def does (P : Program) (R : World → World → Prop) (Vs : Nat → Option (Value → World → Prop)) (C : World → Prop) (i : Nat) (o : Oper) (K : Act → Env → Prop) (a : Act) (E : Env) : Prop :=
  match Vs i with
  | none => ∃ c, (∀ w, cls C o E w → valAt R P o a w c) ∧ K (a.put o.dst c) E
  | some V => (∀ w, cls C o E w → stabAt R P o a w V) ∧ ∀ v w, C w → (∀ k, E k w) → V v w → K (a.put o.dst v) (E.upd i (V v))

def step (P : Program) (ops : Array Oper) (R : World → World → Prop) (Vs : Nat → Option (Value → World → Prop)) (C : World → Prop) (i : Nat) (K : Act → Env → Prop) (a : Act) (E : Env) : Prop :=
  match ops[i]? with
  | none => K a E
  | some o => if Region.wanted o (yielded ops a.tmps) then does P R Vs C i o K a E else K (a.put o.dst undef) E

/-- The lexical walk. -/
def wpStab (P : Program) (ops : Array Oper) (R : World → World → Prop) (Vs : Nat → Option (Value → World → Prop)) (C : World → Prop) (Q : Act → World → Prop) : List Oper → Nat → Act → Env → Prop
  | [], _, a, E => ∀ w, C w → (∀ k, E k w) → Q a w
  | o :: rest, k, a, E => if Region.wanted o (yielded ops a.tmps) then does P R Vs C k o (wpStab P ops R Vs C Q rest (k + 1)) a E else wpStab P ops R Vs C Q rest (k + 1) (a.put o.dst undef) E

def wpAnyT (P : Program) (md : Region.Mode) (ops : Array Oper) (R : World → World → Prop) (Vs : Nat → Option (Value → World → Prop)) (C : World → Prop) (Q : Act → World → Prop) : Nat → Array Bool → Act → Env → Prop
  | 0, listed, a, E => Region.ready md ops listed = [] ∧ ∀ w, C w → (∀ k, E k w) → Q a w
  | fuel + 1, listed, a, E =>
    (Region.ready md ops listed = [] → ∀ w, C w → (∀ k, E k w) → Q a w) ∧
    ∀ i ∈ Region.ready md ops listed, step P ops R Vs C i (wpAnyT P md ops R Vs C Q fuel (listed.setIfInBounds i true)) a E

theorem does_mono {i : Nat} {o : Oper} {K K' : Act → Env → Prop} {a : Act} {E : Env} (h : ∀ a E, K a E → K' a E) (hh : does P R Vs C i o K a E) : does P R Vs C i o K' a E := by
  unfold does at *
  split at hh
  · obtain ⟨c, h1, h2⟩ := hh; exact ⟨c, h1, h _ _ h2⟩
  · exact ⟨hh.1, fun v w h1 h2 h3 => h _ _ (hh.2 v w h1 h2 h3)⟩

theorem does_mono' {i : Nat} {o : Oper} {K K' : Act → Env → Prop} {a : Act} {E : Env} (hex : ∃ w, C w ∧ ∀ k, E k w)
    (h : ∀ a E, (∃ w, C w ∧ ∀ k, E k w) → K a E → K' a E) (hh : does P R Vs C i o K a E) : does P R Vs C i o K' a E := by
  unfold does at *
  split at hh
  · obtain ⟨c, h1, h2⟩ := hh; exact ⟨c, h1, h _ _ hex h2⟩
  · exact ⟨hh.1, fun v w h1 h2 h3 => h _ _ ⟨w, h1, fun k => ⟨h2 k, fun _ => h3⟩⟩ (hh.2 v w h1 h2 h3)⟩

theorem step_mono' {i : Nat} {K K' : Act → Env → Prop} {a : Act} {E : Env} (hex : ∃ w, C w ∧ ∀ k, E k w)
    (h : ∀ a E, (∃ w, C w ∧ ∀ k, E k w) → K a E → K' a E) (hh : step P ops R Vs C i K a E) : step P ops R Vs C i K' a E := by
  unfold step at *
  split
  · rename_i ho; simp only [ho] at hh; exact h _ _ hex hh
  · rename_i o ho
    simp only [ho] at hh
    split
    · rename_i hw; simp only [hw, if_true] at hh; exact does_mono' hex h hh
    · rename_i hw; simp only [hw] at hh; exact h _ _ hex hh

structure Closed (R : World → World → Prop) (C : World → Prop) (Vs : Nat → Option (Value → World → Prop)) : Prop where
  refl : ∀ w, R w w
  cl : ∀ w w', R w w' → C w → C w'
  st : ∀ i V, Vs i = some V → ∀ v w w', R w w' → V v w → V v w'

def EnvSt (R : World → World → Prop) (E : Env) : Prop := ∀ k w w', R w w' → E k w → E k w'

theorem EnvSt.upd {E : Env} (h : EnvSt R E) {i : Nat} {F : World → Prop} (hF : ∀ w w', R w w' → F w → F w') : EnvSt R (E.upd i F) :=
  fun k w w' hr hk => ⟨h k w w' hr hk.1, fun e => hF _ _ hr (hk.2 e)⟩

theorem wpOp_of_step (hc : Closed R C Vs) {i : Nat} {a : Act} {E : Env} {K : Act → Env → Prop} {K' : Act → World → Prop} {Q' : Exit → Act → World → Prop} {w : World}
    (hw : C w) (hE : ∀ k, E k w) (hs : EnvSt R E) (h : ∀ a E w', C w' → (∀ k, E k w') → EnvSt R E → K a E → K' a w') (hh : step P ops R Vs C i K a E) : wpOp P ops Q' i K' a w := by
  unfold step at hh
  unfold wpOp
  split
  · rename_i ho; simp only [ho] at hh; exact h _ _ _ hw hE hs hh
  · rename_i o ho
    simp only [ho] at hh
    split
    · rename_i hwt
      simp only [hwt, if_true] at hh
      refine .inl ?_
      unfold does at hh
      unfold Oper.wp
      cases hV : Vs i with
      | none =>
        simp only [hV] at hh
        obtain ⟨c, h1, h2⟩ := hh
        have h3 := h1 w ⟨hw, fun e _ _ => hE e.on⟩
        unfold valAt at h3
        generalize (execOp a.eval o).run P w = r at *
        cases r with
        | ok n w' =>
          cases n <;> simp only [valUpon] at h3 <;> simp only [Oper.upon]
          case value u =>
            obtain ⟨rfl, h4⟩ := h3
            exact h _ _ _ (hc.cl _ _ h4 hw) (fun k => hs k _ _ h4 (hE k)) hs h2
          case skip =>
            obtain ⟨rfl, h4⟩ := h3
            exact h _ _ _ (hc.cl _ _ h4 hw) (fun k => hs k _ _ h4 (hE k)) hs h2
        | halt x w' => simp only [valUpon] at h3
      | some V =>
        simp only [hV] at hh
        obtain ⟨h1, h2⟩ := hh
        have h3 := h1 w ⟨hw, fun e _ _ => hE e.on⟩
        have fin : ∀ v w', R w w' → V v w' → K' (a.put o.dst v) w' := fun v w' hr hv => by
          have hE' : ∀ k, (E.upd i (V v)) k w' := fun k => ⟨hs k _ _ hr (hE k), fun _ => hv⟩
          exact h _ _ _ (hc.cl _ _ hr hw) hE' (hs.upd fun _ _ => hc.st i V hV v _ _) (h2 v w' (hc.cl _ _ hr hw) (fun k => hs k _ _ hr (hE k)) hv)
        unfold stabAt at h3
        generalize (execOp a.eval o).run P w = r at *
        cases r with
        | ok n w' =>
          cases n <;> simp only [stabUpon] at h3 <;> simp only [Oper.upon]
          case value u => exact fin _ _ h3.1 h3.2
          case skip => exact fin _ _ h3.1 h3.2
          case enter f args =>
            obtain ⟨rfl, hcl⟩ := h3
            exact hcl.mono fun e w'' ⟨v, he, hr, hv⟩ => by subst he; exact fin _ _ hr hv
        | halt x w' => simp only [stabUpon] at h3
    · rename_i hwt; simp only [hwt] at hh; exact h _ _ _ hw hE hs hh

theorem wpAny_of_T (hc : Closed R C Vs) {Q : Act → World → Prop} {Q' : Exit → Act → World → Prop} (hQ : ∀ a w, Q a w → Q' .normal a w) :
    ∀ (fuel : Nat) (listed : Array Bool) (a : Act) (E : Env) (w : World), C w → (∀ k, E k w) → EnvSt R E → wpAnyT P md ops R Vs C Q fuel listed a E → wpAny P md ops Q' fuel listed a w
  | 0, _, _, _, _, hw, hE, _, h => ⟨h.1, hQ _ _ (h.2 _ hw hE)⟩
  | fuel + 1, _, _, _, _, hw, hE, hs, h => ⟨fun h0 => hQ _ _ (h.1 h0 _ hw hE), fun i hi => wpOp_of_step hc hw hE hs (fun a' E' w' hw' hE' hs' => wpAny_of_T hc hQ fuel _ a' E' w' hw' hE' hs') (h.2 i hi)⟩

theorem cls_upd {oj : Oper} {E : Env} {i : Nat} {F : World → Prop} (hno : ∀ e ∈ oj.after, Region.binds .any e = true → e.on ≠ i) (w : World) : cls C oj (E.upd i F) w ↔ cls C oj E w := by
  unfold cls Env.upd
  exact ⟨fun ⟨h1, h2⟩ => ⟨h1, fun e he hb => (h2 e he hb).1⟩, fun ⟨h1, h2⟩ => ⟨h1, fun e he hb => ⟨h2 e he hb, fun h => absurd h (hno e he hb)⟩⟩⟩

theorem upd_comm {E : Env} {i j : Nat} {F G : World → Prop} : (E.upd i F).upd j G = (E.upd j G).upd i F := by
  funext k w
  unfold Env.upd
  exact propext ⟨fun ⟨⟨h1, h2⟩, h3⟩ => ⟨⟨h1, h3⟩, h2⟩, fun ⟨⟨h1, h2⟩, h3⟩ => ⟨⟨h1, h3⟩, h2⟩⟩

theorem valAt_put {oj : Oper} (hsj : ∀ cs b, oj.op ≠ .select cs b) {a : Act} {d : Option Tmp} {v : Value} (h : ∀ t, d = some t → t ∉ oj.looksAt ops) {w : World} {c : Value} :
    valAt R P oj (a.put d v) w c = valAt R P oj a w c := by unfold valAt; rw [execOp_put oj hsj a d v h]
theorem stabAt_put {oj : Oper} (hsj : ∀ cs b, oj.op ≠ .select cs b) {a : Act} {d : Option Tmp} {v : Value} (h : ∀ t, d = some t → t ∉ oj.looksAt ops) {w : World} {V : Value → World → Prop} :
    stabAt R P oj (a.put d v) w V = stabAt R P oj a w V := by unfold stabAt; rw [execOp_put oj hsj a d v h]

theorem valAt_det {o : Oper} {a : Act} {w : World} {c c' : Value} (h : valAt R P o a w c) (h' : valAt R P o a w c') : c = c' := by
  unfold valAt at *
  generalize (execOp a.eval o).run P w = r at *
  cases r with
  | ok n w' => cases n <;> simp only [valUpon] at h h' <;> first | exact h.1.symm.trans h'.1 | exact h.1.trans h'.1.symm
  | halt x w' => simp only [valUpon] at h

theorem stab_some {o : Oper} {a : Act} {w : World} {V : Value → World → Prop} (h : stabAt R P o a w V) : ∃ v w', R w w' ∧ V v w' := by
  unfold stabAt at *
  generalize (execOp a.eval o).run P w = r at *
  cases r with
  | ok n w' =>
    cases n <;> simp only [stabUpon] at h
    case value u => exact ⟨_, _, h⟩
    case skip => exact ⟨_, _, h⟩
    case enter f args =>
      obtain ⟨rfl, hcl⟩ := h
      obtain ⟨e, w'', fr, ⟨v, he, hr, hv⟩, _⟩ := hcl []
      exact ⟨v, w'', hr, hv⟩
  | halt x w' => simp only [stabUpon] at h

/-- The two steps change places. -/
theorem exch (hc : Closed R C Vs) {i j : Nat} {oi oj : Oper} (hi : ops[i]? = some oi) (hj : ops[j]? = some oj) (hap : oi.apart ops oj = true)
    (hsi : ∀ cs b, oi.op ≠ .select cs b) (hsj : ∀ cs b, oj.op ≠ .select cs b)
    (hnj : ∀ e ∈ oj.after, Region.binds .any e = true → e.on ≠ i) (hni : ∀ e ∈ oi.after, Region.binds .any e = true → e.on ≠ j)
    {K : Act → Env → Prop} {a : Act} {E : Env} (hE : EnvSt R E) (hex : ∃ w, C w ∧ ∀ k, E k w)
    (h : step P ops R Vs C i (fun a' E' => step P ops R Vs C j K a' E') a E) : step P ops R Vs C j (fun a' E' => step P ops R Vs C i K a' E') a E := by
  obtain ⟨p1, p2, p3⟩ := Oper.apart_spec hap
  unfold step at *
  simp only [hi, hj] at *
  have wj : ∀ v, Region.wanted oj (yielded ops (a.put oi.dst v).tmps) = Region.wanted oj (yielded ops a.tmps) := fun v => wanted_put oj a oi.dst v p1
  have wi : ∀ v, Region.wanted oi (yielded ops (a.put oj.dst v).tmps) = Region.wanted oi (yielded ops a.tmps) := fun v => wanted_put oi a oj.dst v p3
  have pc : ∀ u v, (a.put oi.dst v).put oj.dst u = (a.put oj.dst u).put oi.dst v := fun u v => Act.put_comm a v u p2
  have vj : ∀ v w c, valAt R P oj (a.put oi.dst v) w c = valAt R P oj a w c := fun v w c => valAt_put hsj p1
  have vi : ∀ v w c, valAt R P oi (a.put oj.dst v) w c = valAt R P oi a w c := fun v w c => valAt_put hsi p3
  have sj : ∀ v w V, stabAt R P oj (a.put oi.dst v) w V = stabAt R P oj a w V := fun v w V => stabAt_put hsj p1
  have si : ∀ v w V, stabAt R P oi (a.put oj.dst v) w V = stabAt R P oi a w V := fun v w V => stabAt_put hsi p3
  cases hwi : Region.wanted oi (yielded ops a.tmps) <;> cases hwj : Region.wanted oj (yielded ops a.tmps)
  · simp only [hwi, hwj, wi, wj, Bool.false_eq_true, if_false] at h ⊢
    rw [← pc]; exact h
  · simp only [hwi, hwj, wj, if_true, Bool.false_eq_true, if_false] at h ⊢
    unfold does at *
    cases hVj : Vs j with
    | none =>
      simp only [hVj, vj, wi, hwi, Bool.false_eq_true, if_false] at h ⊢
      obtain ⟨c, h1, h2⟩ := h
      exact ⟨c, h1, by rw [← pc]; exact h2⟩
    | some V =>
      simp only [hVj, sj, wi, hwi, Bool.false_eq_true, if_false] at h ⊢
      obtain ⟨h1, h2⟩ := h
      exact ⟨h1, fun v w k1 k2 k3 => by rw [← pc]; exact h2 v w k1 k2 k3⟩
  · simp only [hwi, wi, if_true, Bool.false_eq_true, if_false] at h ⊢
    unfold does at *
    cases hVi : Vs i with
    | none =>
      simp only [hVi, vi, wj, hwj, Bool.false_eq_true, if_false] at h ⊢
      obtain ⟨c, h1, h2⟩ := h
      exact ⟨c, h1, by rw [← pc]; exact h2⟩
    | some V =>
      simp only [hVi, si, wj, hwj, Bool.false_eq_true, if_false] at h ⊢
      obtain ⟨h1, h2⟩ := h
      exact ⟨h1, fun v w k1 k2 k3 => by rw [← pc]; exact h2 v w k1 k2 k3⟩
  · simp only [hwi, if_true] at h ⊢
    unfold does at *
    cases hVi : Vs i with
    | none =>
      cases hVj : Vs j with
      | none =>
        simp only [hVi, hVj, vi, vj, wi, wj, hwi, hwj, if_true] at h ⊢
        obtain ⟨c, h1, d, h3, h4⟩ := h
        exact ⟨d, h3, c, h1, by rw [← pc]; exact h4⟩
      | some V' =>
        simp only [hVi, hVj, vi, sj, wi, wj, hwi, hwj, if_true] at h ⊢
        obtain ⟨c, h1, h3, h4⟩ := h
        exact ⟨h3, fun u w k1 k2 k3 => ⟨c, fun w' hw' => h1 w' ((cls_upd hni w').1 hw'), by rw [← pc]; exact h4 u w k1 k2 k3⟩⟩
    | some V =>
      cases hVj : Vs j with
      | none =>
        simp only [hVi, hVj, si, vj, wi, wj, hwi, hwj, if_true] at h ⊢
        obtain ⟨h1, h2⟩ := h
        obtain ⟨w0, hw0, hE0⟩ := hex
        obtain ⟨v0, w1, hr, hv0⟩ := stab_some (R := R) (h1 w0 ⟨hw0, fun e _ _ => hE0 e.on⟩)
        have hw1 := hc.cl _ _ hr hw0
        have hE1 : ∀ k, E k w1 := fun k => hE k _ _ hr (hE0 k)
        obtain ⟨d, h4, h5⟩ := h2 v0 w1 hw1 hE1 hv0
        have h4' : ∀ w, cls C oj E w → valAt R P oj a w d := fun w hw => h4 w ((cls_upd hnj w).2 hw)
        refine ⟨d, h4', h1, fun v w k1 k2 k3 => ?_⟩
        obtain ⟨d', h6, h7⟩ := h2 v w k1 k2 k3
        have hw' : cls C oj E w := ⟨k1, fun e _ _ => k2 e.on⟩
        have e1 := h6 w ((cls_upd hnj w).2 hw')
        rw [← valAt_det e1 (h4' w hw')]
        rw [← pc]; exact h7
      | some V' =>
        simp only [hVi, hVj, si, sj, wi, wj, hwi, hwj, if_true] at h ⊢
        obtain ⟨h1, h2⟩ := h
        obtain ⟨w0, hw0, hE0⟩ := hex
        obtain ⟨v0, w1, hr, hv0⟩ := stab_some (R := R) (h1 w0 ⟨hw0, fun e _ _ => hE0 e.on⟩)
        have hw1 := hc.cl _ _ hr hw0
        have hE1 : ∀ k, E k w1 := fun k => hE k _ _ hr (hE0 k)
        obtain ⟨h4, h5⟩ := h2 v0 w1 hw1 hE1 hv0
        refine ⟨fun w hw => h4 w ((cls_upd hnj w).2 hw), fun u w k1 k2 k3 => ⟨fun w' hw' => h1 w' ((cls_upd hni w').1 hw'), fun v w' q1 q2 q3 => ?_⟩⟩
        have := (h2 v w' q1 (fun k => (q2 k).1) q3).2 u w' q1 (fun k => ⟨(q2 k).1, fun _ => q3⟩) ((q2 j).2 rfl)
        rw [← pc, upd_comm]; exact this

theorem step_some (hc : Closed R C Vs) {i : Nat} {K : Act → Env → Prop} {a : Act} {E : Env} (hE : EnvSt R E) (hex : ∃ w, C w ∧ ∀ k, E k w)
    (h : step P ops R Vs C i K a E) : ∃ a' E', (∃ w, C w ∧ ∀ k, E' k w) ∧ K a' E' := by
  unfold step at h
  split at h
  · exact ⟨_, _, hex, h⟩
  · split at h
    · unfold does at h
      split at h
      · obtain ⟨c, _, h2⟩ := h; exact ⟨_, _, hex, h2⟩
      · obtain ⟨w0, hw0, hE0⟩ := hex
        obtain ⟨v0, w1, hr, hv0⟩ := stab_some (R := R) (h.1 w0 ⟨hw0, fun e _ _ => hE0 e.on⟩)
        have hw1 := hc.cl _ _ hr hw0
        have hE1 : ∀ k, E k w1 := fun k => hE k _ _ hr (hE0 k)
        exact ⟨_, _, ⟨w1, hw1, fun k => ⟨hE1 k, fun _ => hv0⟩⟩, h.2 v0 w1 hw1 hE1 hv0⟩
    · exact ⟨_, _, hex, h⟩

/-- Being stable goes along with a step. -/
theorem step_mono_st (hc : Closed R C Vs) {i : Nat} {K K' : Act → Env → Prop} {a : Act} {E : Env} (hE : EnvSt R E) (hex : ∃ w, C w ∧ ∀ k, E k w)
    (h : ∀ a E, EnvSt R E → (∃ w, C w ∧ ∀ k, E k w) → K a E → K' a E) (hh : step P ops R Vs C i K a E) : step P ops R Vs C i K' a E := by
  unfold step at *
  split
  · rename_i ho; simp only [ho] at hh; exact h _ _ hE hex hh
  · rename_i o ho
    simp only [ho] at hh
    split
    · rename_i hw
      simp only [hw, if_true] at hh
      unfold does at *
      split at hh
      · obtain ⟨c, h1, h2⟩ := hh; exact ⟨c, h1, h _ _ hE hex h2⟩
      · rename_i V hV
        exact ⟨hh.1, fun v w h1 h2 h3 => h _ _ (hE.upd fun _ _ => hc.st i V hV v _ _) ⟨w, h1, fun k => ⟨h2 k, fun _ => h3⟩⟩ (hh.2 v w h1 h2 h3)⟩
    · rename_i hw; simp only [hw] at hh; exact h _ _ hE hex hh

theorem wpAnyT_first (hc : Closed R C Vs) {Q : Act → World → Prop} {i : Nat} {oi : Oper} (hi : ops[i]? = some oi) (hsel : ∀ (j : Nat) (o : Oper) cs b, ops[j]? = some o → o.op ≠ .select cs b) :
    ∀ (fuel : Nat) (listed : Array Bool) (a : Act) (E : Env),
      (∀ j oj, ops[j]? = some oj → j ≠ i → listed.getD j true = false → (∀ e ∈ oj.after, Region.binds .any e = true → e.on ≠ i) → oi.apart ops oj = true) →
      i ∈ Region.ready .any ops listed → EnvSt R E → (∃ w, C w ∧ ∀ k, E k w) →
      step P ops R Vs C i (wpAnyT P .any ops R Vs C Q fuel (listed.setIfInBounds i true)) a E → wpAnyT P .any ops R Vs C Q (fuel + 1) listed a E := by
  intro fuel
  induction fuel with
  | zero =>
    intro listed a E _ hr hE hex H
    refine ⟨fun h => (by rw [h] at hr; cases hr), fun j hj => ?_⟩
    by_cases hji : j = i
    · subst hji; exact H
    · obtain ⟨a', E', _, h⟩ := step_some hc hE hex H
      have := ready_mono hj hji
      rw [h.1] at this
      cases this
  | succ fuel ih =>
    intro listed a E hfree hr hE hex H
    refine ⟨fun h => (by rw [h] at hr; cases hr), fun j hj => ?_⟩
    by_cases hji : j = i
    · subst hji; exact H
    · obtain ⟨hjun, oj, hoj, hall⟩ := mem_ready.1 hj
      have key : ∀ (k : Nat), listed.getD k true = false → ∀ e : Edge, listed.getD e.on false = true → e.on ≠ k := fun k hk e he heq => by
        rw [heq] at he
        rcases Nat.lt_or_ge k listed.size with h' | h'
        · simp [h'] at hk he; rw [hk] at he; cases he
        · simp [Array.getElem?_eq_none h'] at he
      have hnot : ∀ e ∈ oj.after, Region.binds .any e = true → e.on ≠ i := fun e he hb => key i (mem_ready.1 hr).1 e (hall e he hb)
      have hnoti : ∀ e ∈ oi.after, Region.binds .any e = true → e.on ≠ j := fun e he hb => by
        obtain ⟨_, oi', hoi', halli⟩ := mem_ready.1 hr
        rw [hi] at hoi'; cases hoi'
        exact key j hjun e (halli e he hb)
      have h1 : step P ops R Vs C i (fun a' E' => step P ops R Vs C j (wpAnyT P .any ops R Vs C Q fuel ((listed.setIfInBounds i true).setIfInBounds j true)) a' E') a E :=
        step_mono' hex (fun a' E' _ h => h.2 j (ready_mono hj hji)) H
      have h2 := exch hc hi hoj (hfree j oj hoj hji hjun hnot) (fun cs b => hsel i oi cs b hi) (fun cs b => hsel j oj cs b hoj) hnot hnoti hE hex h1
      have hfree' : ∀ k ok, ops[k]? = some ok → k ≠ i → (listed.setIfInBounds j true).getD k true = false →
          (∀ e ∈ ok.after, Region.binds .any e = true → e.on ≠ i) → oi.apart ops ok = true := fun k ok hk hki hun hno => by
        refine hfree k ok hk hki ?_ hno
        by_cases hjk : j = k
        · subst hjk; exact hjun
        · rw [getD_set_ne true hjk] at hun; exact hun
      refine step_mono_st hc hE hex (fun a' E' hE' hex' h3 => ih (listed.setIfInBounds j true) a' E' hfree' (ready_mono hr (Ne.symm hji)) hE' hex' ?_) h2
      rw [Array.setIfInBounds_comm _ _ hji]
      exact h3

theorem wpAnyT_lex (hc : Closed R C Vs) {Q : Act → World → Prop} (hs : Region.noSelect ops = true) : ∀ (l : List Oper) (k : Nat) (listed : Array Bool) (a : Act) (E : Env), (∀ j, l[j]? = ops[k + j]?) →
    Region.lexFrom .any ops l.length k listed = true → EnvSt R E → (∃ w, C w ∧ ∀ k, E k w) → wpStab P ops R Vs C Q l k a E → wpAnyT P .any ops R Vs C Q l.length listed a E
  | [], _, _, _, _, _, hB, _, _, h => ⟨by simpa [Region.lexFrom] using hB, h⟩
  | o :: l, k, listed, a, E, hl, hB, hE, hex, h => by
    have h0 : ops[k]? = some o := by simpa using (hl 0).symm
    simp only [List.length_cons, Region.lexFrom, Bool.and_eq_true] at hB
    obtain ⟨⟨hr, hf⟩, hB'⟩ := hB
    have hst : step P ops R Vs C k (wpStab P ops R Vs C Q l (k + 1)) a E := by unfold step; simp only [h0]; exact h
    exact wpAnyT_first hc h0 (Region.noSelect_spec hs) l.length listed a E (Region.free_spec h0 hf) (by simpa using hr) hE hex
      (step_mono_st hc hE hex (fun a' E' hE' hex' h' => wpAnyT_lex hc hs l (k + 1) _ _ _ (fun j => by have := hl (j + 1); simpa [Nat.add_assoc, Nat.add_comm 1 j] using this) hB' hE' hex' h') hst)

/-- One walk of the lexical order serves every order. -/
theorem wp_region_stab {id : Nat} {Q : Exit → Act → World → Prop} {a : Act} {w : World} {l : List Oper} (R : World → World → Prop) (Vs : Nat → Option (Value → World → Prop))
    (hm : P.follows .mixedOrders = true) (hB : Region.lexB .any l.toArray = true) (hc : Closed R (fun w' => R w.drew w') Vs)
    (h : wpStab P l.toArray R Vs (fun w' => R w.drew w') (fun a' w' => Q .normal a' w') l 0 a (fun _ _ => True)) : (Code.region id l.toArray true).wp P Q a w := by
  simp only [Region.lexB, Bool.and_eq_true] at hB
  have hE : EnvSt R (fun _ _ => True) := fun _ _ _ _ _ => trivial
  refine wp_region_any hm (wpAny_of_T (C := fun w' => R w.drew w') hc (fun _ _ h => h) _ _ _ (fun _ _ => True) _ (hc.refl _) (fun _ => trivial) hE ?_)
  have := wpAnyT_lex (P := P) (ops := l.toArray) hc hB.1 l 0 (Array.replicate l.toArray.size false) a _ (by simp) (by simpa using hB.2) hE ⟨_, hc.refl _, fun _ => trivial⟩ h
  simpa using this

end
end Go.Proofs.Ytmeobmegnneegaa

/-
  The walks of the leaves: texts, names, parts of nodes.
-/
namespace Go.Proofs.Ytmeobmegnneegaa
open Go.RowKit

def okB (c : UInt8) : Bool := decide (32 ≤ (c.toNat : Int)) && decide ((c.toNat : Int) ≤ 126)
def plainT (s : ByteArray) : Bool := decide (s.size ≤ 12) && s.data.toList.all okB

theorem take_snoc (s : ByteArray) (k : Nat) (h : k < s.size) : s.data.toList.take (k + 1) = s.data.toList.take k ++ [s[k]] := by
  rw [List.take_succ_eq_append_getElem (by simpa using h)]; rfl

theorem all_step {p : UInt8 → Bool} (s : ByteArray) (k : Nat) (h : k < s.size) (h1 : (s.data.toList.take k).all p = true) (h2 : p s[k] = true) : (s.data.toList.take (k + 1)).all p = true := by
  rw [take_snoc s k h, List.all_append, h1]; simp [h2]

theorem all_stop {p : UInt8 → Bool} (s : ByteArray) (k : Nat) (h : k < s.size) (h2 : p s[k] = false) : s.data.toList.all p = false := by
  rw [List.all_eq_false]
  exact ⟨s[k], by simp [ByteArray.getElem_eq_getElem_data], by simp [h2]⟩

set_option maxHeartbeats 400000 in
theorem isPlainText_ok (s : ByteArray) (w : World) (hs : s.size ≤ big) :
    Calls Try.prog 137 #[.string s] w fun e w' => e = .returned (.bool (plainT s)) ∧ w' = w := by
  unfold big at hs
  by_cases hl : 12 < s.size
  · go_enter Try.func137, Try.ntmps137
    go_wp2
    go_ret
    exact ⟨by simp [plainT]; omega, rfl⟩
  · go_enter Try.func137, Try.ntmps137
    go_wp2
    go_loop [2, 3] (fun n i => n = .bool false ∧ ∃ k : Nat, k ≤ s.size ∧ i = .int .i64 k ∧ (s.data.toList.take k).all okB = true) (fun _ i => s.size - (intOf i).toNat)
    case atStart => exact ⟨rfl, 0, Nat.zero_le _, rfl, rfl⟩
    case round =>
      obtain ⟨rfl, k, hk, rfl, hall⟩ := hrel
      by_cases hlt : k < s.size
      · have Hall := Lib.hid hall
        clear hall
        by_cases hc : 32 ≤ (s[k].toNat : Int) ∧ (s[k].toNat : Int) ≤ 126
        · obtain ⟨hc1, hc2⟩ := hc
          go_wp2
          go_round
          case rel => exact ⟨rfl, k + 1, by omega, by go_num, all_step s k hlt Hall.out (by simp [okB]; omega)⟩
          case measure => simp [intOf]; omega
        · have hf : okB s[k] = false := by simp [okB]; omega
          have Hf := Lib.hid (all_stop s k hlt hf)
          clear hf
          go_wp2
          all_goals (go_ret; exact ⟨by simp [plainT, Hf.out], rfl⟩)
      · go_wp2
        go_ret
        exact ⟨by have : k = s.data.toList.length := by simp; omega
                  rw [this, List.take_length] at hall
                  simp [plainT, hall]; omega, rfl⟩

theorem take_snoc' {α : Type} (l : List α) (k : Nat) (h : k < l.length) : l.take (k + 1) = l.take k ++ [l[k]] := List.take_succ_eq_append_getElem h
theorem drop_cons {α : Type} (xs : List α) (k : Nat) (h : k < xs.length) : xs.drop k = xs[k] :: xs.drop (k + 1) := List.drop_eq_getElem_cons h

def namesFrom : Option ByteArray → List ByteArray → Bool
  | _, [] => true
  | p, x :: r => plainT x && (match p with | none => true | some y => Op.bytesLess y.toList x.toList) && namesFrom (some x) r
def namesB (xs : List ByteArray) : Bool := namesFrom none xs
def areNamesB (xs : List ByteArray) : Bool := decide (xs.length ≤ 6) && namesB xs

/-- What is left of the names from place k on. -/
def namesAt (xs : List ByteArray) (k : Nat) : Bool := namesFrom (if k = 0 then none else xs[k - 1]?) (xs.drop k)

theorem namesAt_zero (xs : List ByteArray) : namesAt xs 0 = namesB xs := by simp [namesAt, namesB]
theorem namesAt_end (xs : List ByteArray) (k : Nat) (h : ¬ k < xs.length) : namesAt xs k = true := by
  unfold namesAt; rw [List.drop_eq_nil_of_le (by omega)]; cases k <;> simp [namesFrom]
theorem namesAt_first (xs : List ByteArray) (h : 0 < xs.length) : namesAt xs 0 = (plainT xs[0] && namesAt xs 1) := by
  unfold namesAt; rw [drop_cons xs 0 h]; simp [namesFrom, h]
theorem namesAt_next (xs : List ByteArray) (k : Nat) (h : k < xs.length) (h0 : 0 < k) : namesAt xs k = (plainT xs[k] && Op.bytesLess xs[k - 1].toList xs[k].toList && namesAt xs (k + 1)) := by
  unfold namesAt
  rw [drop_cons xs k h, if_neg (by omega), List.getElem?_eq_getElem (by omega)]
  simp [namesFrom, h]

set_option maxHeartbeats 400000 in
theorem areNames_ok (a : Option Addr) (c : Nat) (xs : List ByteArray) (w : World) (S : Nat → Prop) (ha : StrsR w S a c xs) :
    Calls Try.prog 138 #[.slice a xs.length c] w fun e w' => e = .returned (.bool (areNamesB xs)) ∧ Grow w w' := by
  have hbig : xs.length ≤ 9223372036854775807 := ha.2.1
  have Ha := Lib.hid ha
  clear ha
  by_cases hl : 6 < xs.length
  · go_enter Try.func138, Try.ntmps138
    go_wp2
    go_ret
    exact ⟨by simp [areNamesB]; omega, Ext.refl _ _⟩
  · go_enter Try.func138, Try.ntmps138
    go_wp2
    go_loopw [2, 3, 4, 10] (fun n _ _ i wr => n = .bool false ∧ Grow w wr ∧ ∃ k : Nat, k ≤ xs.length ∧ i = .int .i64 k ∧ namesB xs = namesAt xs k) (fun _ _ _ i _ => xs.length - (intOf i).toNat)
    case atStart => exact ⟨rfl, Ext.refl _ _, 0, Nat.zero_le _, rfl, (namesAt_zero xs).symm⟩
    case round =>
      obtain ⟨rfl, hg, k, hk, rfl, hr⟩ := hrel
      have Hr := Lib.hid hr
      clear hr
      by_cases hlt : k < xs.length
      · obtain ⟨_, _, hxs, ha4⟩ := (Ha.out).ext hg (fun _ _ h => h)
        rcases ha4 with rfl | ⟨ba, oa, rfl, _, hca⟩
        · simp at hlt
        have hx := hca k hlt
        have hsz := hxs _ (List.getElem_mem hlt)
        by_cases hk0 : 0 < k
        · have hy := hca (k - 1) (by omega)
          have hs := namesAt_next xs k hlt hk0
          have Hs := Lib.hid hs
          clear hca Ha hs
          go_wp2_with (go_at_call 137; refine (isPlainText_ok _ _ hsz).mono ?_; rintro e w' ⟨rfl, rfl⟩)
          all_goals first
            | (go_ret; exact ⟨by simp_all [areNamesB, Hr.out, Hs.out], hg⟩)
            | (go_roundw
               case rel => exact ⟨rfl, hg, k + 1, by omega, by go_num, by rw [Hr.out, Hs.out]; simp_all⟩
               case measure => simp [intOf]; omega)
        · obtain rfl : k = 0 := by omega
          simp only [Nat.add_zero] at hx
          have hs := namesAt_first xs hlt
          have Hs := Lib.hid hs
          clear hca Ha hs
          go_wp2_with (go_at_call 137; refine (isPlainText_ok _ _ hsz).mono ?_; rintro e w' ⟨rfl, rfl⟩)
          all_goals first
            | (go_ret; exact ⟨by simp_all [areNamesB, Hr.out, Hs.out], hg⟩)
            | (go_roundw
               case rel => exact ⟨rfl, hg, 1, by omega, by go_num, by rw [Hr.out, Hs.out]; simp_all⟩
               case measure => simp [intOf]; omega)
      · go_wp2
        go_ret
        exact ⟨by simp [areNamesB, Hr.out, namesAt_end _ _ hlt]; omega, hg⟩

def partsB (n : Nd) : Bool :=
  (decide (n.kind = 1) || decide (n.num = 0)) && (decide (n.kind = 2) || n.text.toList.isEmpty) && (decide (n.kind = 4) || decide (n.names.length = 0)) &&
  (if n.kind = 0 then decide (n.kids.length = 0) else if n.kind = 1 then decide (-999999 ≤ n.num) && decide (n.num ≤ 999999) && decide (n.kids.length = 0)
   else if n.kind = 2 then plainT n.text && decide (n.kids.length = 0) else if n.kind = 3 then decide (n.kids.length ≤ 6)
   else if n.kind = 4 then areNamesB n.names && decide (n.kids.length = n.names.length) else false)

theorem ibeq (a b : Int) : (a == b) = decide (a = b) := by by_cases h : a = b <;> simp [h]
theorem ibne (a b : Int) : (a != b) = !decide (a = b) := by by_cases h : a = b <;> simp [h]

theorem bcell {w w' : World} (hg : Grow w w') : (∀ b o, b < w.heap.size → w'.cell? ⟨b, o, none⟩ = w.cell? ⟨b, o, none⟩) := fun b o h => hg.cell (p := ⟨b, o, none⟩) h (fun h => h)

set_option maxHeartbeats 1000000 in
theorem hasValidParts_ok (n : Nd) (v : Value) (w : World) (S : Nat → Prop) (hn : NodeR w S n v) :
    Calls Try.prog 130 #[v] w fun e w' => e = .returned (.bool (partsB n)) ∧ Grow w w' := by
  obtain ⟨na, nc, ka, kc, rfl, hc⟩ := hn
  obtain ⟨htx, hns, hks⟩ := hc.parts
  have hnl : n.names.length ≤ 9223372036854775807 := hns.2.1
  have hkl : n.kids.length ≤ 9223372036854775807 := hks.2.1
  have Hns := Lib.hid hns
  have Hks := Lib.hid hks
  have Htx := Lib.hid htx
  clear hns hks hc htx
  unfold nodeV
  go_enter Try.func130, Try.ntmps130
  go_wp2_with (first | (go_at_call 137; refine (isPlainText_ok _ _ Htx.out).mono ?_; rintro e w' ⟨rfl, rfl⟩) | (go_at_call 138; refine (areNames_ok _ _ _ _ S (Hns.out.ext ((Ext.refl nil w).alloc _) (fun _ _ h => h))).mono ?_; rintro e w' ⟨rfl, hg⟩; have hcc := bcell hg))
  all_goals go_ret
  all_goals refine ⟨?_, by repeat (first | exact Ext.refl _ _ | refine Ext.trans ?_ (by assumption) | refine Ext.drew ?_ | refine Ext.alloc ?_ _)⟩
  all_goals clear Hns Hks Htx
  all_goals (simp_all [partsB, ibeq, -List.length_eq_zero_iff])
  all_goals omega
end Go.Proofs.Ytmeobmegnneegaa

/-
  The walk of measureNode and what hangs on it: the number of nodes, the depth, whether all parts are valid.
-/
namespace Go.Proofs.Ytmeobmegnneegaa
open Go.RowKit

mutual
def Nd.count : Nd → Nat
  | ⟨_, _, _, _, kids⟩ => 1 + countL kids
def countL : List Nd → Nat
  | [] => 0
  | k :: ks => k.count + countL ks
end
mutual
def Nd.depth : Nd → Nat
  | ⟨_, _, _, _, kids⟩ => 1 + depthL kids
def depthL : List Nd → Nat
  | [] => 0
  | k :: ks => max k.depth (depthL ks)
end
mutual
def shapeB : Nd → Nat → Bool
  | ⟨kind, num, text, names, kids⟩, d => decide (0 < d) && partsB ⟨kind, num, text, names, kids⟩ && shapeL kids (d - 1)
def shapeL : List Nd → Nat → Bool
  | [], _ => true
  | k :: ks, d => shapeB k d && shapeL ks d
end

theorem Nd.count_eq (n : Nd) : n.count = 1 + countL n.kids := by cases n; simp [Nd.count]
theorem Nd.depth_eq (n : Nd) : n.depth = 1 + depthL n.kids := by cases n; simp [Nd.depth]
theorem shapeB_eq (n : Nd) (d : Nat) : shapeB n d = (decide (0 < d) && partsB n && shapeL n.kids (d - 1)) := by cases n; simp [shapeB]

theorem countL_snoc (l : List Nd) (x : Nd) : countL (l ++ [x]) = countL l + x.count := by
  induction l with
  | nil => simp [countL]
  | cons a l ih => simp [countL, ih]; omega
theorem depthL_snoc (l : List Nd) (x : Nd) : depthL (l ++ [x]) = max (depthL l) x.depth := by
  induction l with
  | nil => simp [depthL]
  | cons a l ih => simp only [List.cons_append, depthL, ih]; omega
theorem shapeL_snoc (l : List Nd) (x : Nd) (d : Nat) : shapeL (l ++ [x]) d = (shapeL l d && shapeB x d) := by
  induction l with
  | nil => simp [shapeL]
  | cons a l ih => simp [shapeL, ih, Bool.and_assoc]
theorem shapeL_all (l : List Nd) (d : Nat) : shapeL l d = l.all (fun k => shapeB k d) := by
  induction l with
  | nil => simp [shapeL]
  | cons a l ih => simp [shapeL, ih]

theorem partsB_kids {n : Nd} (h : partsB n = true) : n.kids.length ≤ 6 := by
  unfold partsB areNamesB at h
  simp only [Bool.and_eq_true] at h
  obtain ⟨_, h⟩ := h
  split at h
  · simp at h; simp [h]
  · split at h
    · simp at h; simp [h]
    · split at h
      · simp at h; simp [h]
      · split at h
        · simpa using h
        · split at h
          · simp at h; omega
          · simp at h

def cb : Nat → Nat
  | 0 => 0
  | d + 1 => 1 + 6 * cb d

theorem countL_le (l : List Nd) (c : Nat) (h : ∀ k ∈ l, k.count ≤ c) : countL l ≤ l.length * c := by
  induction l with
  | nil => simp [countL]
  | cons a l ih =>
    have h1 := h a (by simp)
    have h2 := ih (fun k hk => h k (by simp [hk]))
    simp [countL, Nat.succ_mul]; omega

theorem count_le : ∀ (d : Nat) (n : Nd), shapeB n d = true → n.count ≤ cb d
  | 0, n, h => by rw [shapeB_eq] at h; simp at h
  | d + 1, n, h => by
    rw [shapeB_eq] at h
    simp only [Bool.and_eq_true, Nat.add_sub_cancel, shapeL_all, List.all_eq_true] at h
    obtain ⟨⟨_, hp⟩, hk⟩ := h
    have h1 := partsB_kids hp
    have h2 := countL_le n.kids (cb d) (fun k hk' => count_le d k (hk k hk'))
    rw [Nd.count_eq, cb]
    have : n.kids.length * cb d ≤ 6 * cb d := Nat.mul_le_mul_right _ h1
    omega

theorem depth_le : ∀ (d : Nat) (n : Nd), shapeB n d = true → n.depth ≤ d
  | 0, n, h => by rw [shapeB_eq] at h; simp at h
  | d + 1, n, h => by
    rw [shapeB_eq] at h
    simp only [Bool.and_eq_true, Nat.add_sub_cancel, shapeL_all, List.all_eq_true] at h
    obtain ⟨⟨_, hp⟩, hk⟩ := h
    have : ∀ l : List Nd, (∀ k ∈ l, k.depth ≤ d) → depthL l ≤ d := by
      intro l
      induction l with
      | nil => simp [depthL]
      | cons a l ih => intro h; have h1 := h a (by simp); have h2 := ih (fun k hk => h k (by simp [hk])); simp only [depthL]; omega
    have := this n.kids (fun k hk' => depth_le d k (hk k hk'))
    rw [Nd.depth_eq]; omega

theorem cb_le (d : Nat) (h : d ≤ 5) : cb d ≤ 1555 := by
  match d, h with
  | 0, _ => simp [cb]
  | 1, _ => simp [cb]
  | 2, _ => simp [cb]
  | 3, _ => simp [cb]
  | 4, _ => simp [cb]
  | 5, _ => simp [cb]

def measV (n : Nd) (d : Nat) : Value :=
  if shapeB n d then .tuple #[.int .i64 n.count, .int .i64 n.depth, .bool true] else .tuple #[.int .i64 0, .int .i64 0, .bool false]

def MeasureOk (n : Nd) : Prop := ∀ (d : Nat) (level : Int) (v : Value) (w : World), d ≤ 5 → level = 6 - (d : Int) → NodeR w any n v →
    Calls Try.prog 115 #[v, .int .i64 level] w fun e w' => e = .returned (measV n d) ∧ Grow w w'


theorem shapeL_get {l : List Nd} {d : Nat} {k : Nat} (hk : k < l.length) (h : shapeB l[k] d = false) : shapeL l d = false := by
  rw [shapeL_all, List.all_eq_false]
  exact ⟨l[k], List.getElem_mem hk, by simp [h]⟩

theorem measV_no {n : Nd} {d : Nat} (h : shapeB n d = false) : measV n d = .tuple #[.int .i64 0, .int .i64 0, .bool false] := by simp [measV, h]
theorem measV_yes {n : Nd} {d : Nat} (h : shapeB n d = true) : measV n d = .tuple #[.int .i64 n.count, .int .i64 n.depth, .bool true] := by simp [measV, h]

set_option maxHeartbeats 1000000 in
theorem measureNode_ok : ∀ n, MeasureOk n := by
  refine Nd.ind' MeasureOk ?_
  intro n ih d level v w hd hlev hn
  have hl1 : 1 ≤ level := by omega
  have hl2 : level ≤ 6 := by omega
  have Hlev := Lib.hid hlev
  have Hn := Lib.hid hn
  have Ih := Lib.hid ih
  have Hd := Lib.hid hd
  clear ih hlev hd
  obtain ⟨na, nc, ka, kc, rfl, hc⟩ := hn
  obtain ⟨htx, hns, hks⟩ := hc.parts
  have hkl : n.kids.length ≤ 9223372036854775807 := hks.2.1
  have Hks := Lib.hid hks
  clear htx hns hc hks
  unfold nodeV at *
  by_cases hd0 : d = 0
  · have : 5 < level := by have := Hlev.out; omega
    have Hf := Lib.hid (measV_no (n := n) (d := d) (by rw [shapeB_eq]; simp [hd0]))
    clear hd0
    go_enter Try.func115, Try.ntmps115
    go_wp2_with fail
    go_ret3
    exact ⟨by simp [Hf.out], (Ext.refl _ _).alloc _⟩
  · have h5 : level ≤ 5 := by have := Hlev.out; omega
    clear hl2
    cases hp : partsB n
    · have Hf := Lib.hid (measV_no (n := n) (d := d) (by rw [shapeB_eq]; simp [hp]))
      go_enter Try.func115, Try.ntmps115
      go_wp2_with (go_at_call 130; refine (hasValidParts_ok n _ _ any ((Hn.out).ext ((Ext.refl nil w).alloc _) (fun _ _ h => h))).mono ?_; rintro e w' ⟨rfl, hg⟩)
      go_ret3
      exact ⟨by simp [Hf.out], ((Ext.refl _ _).alloc _).trans hg⟩
    · obtain ⟨d, rfl⟩ : ∃ d', d = d' + 1 := ⟨d - 1, by omega⟩
      have hk6 := partsB_kids hp
      have Hp := Lib.hid hp
      clear hkl hd0
      go_enter Try.func115, Try.ntmps115
      go_wp2_with (go_at_call 130; refine (hasValidParts_ok n _ _ any ((Hn.out).ext ((Ext.refl nil w).alloc _) (fun _ _ h => h))).mono ?_; rintro e w1 ⟨rfl, hg⟩; simp only [hp]; have hcc := bcell hg)
      have hg0 : Grow w w1 := ((Ext.refl _ _).alloc _).trans hg
      clear hg hcc
      go_loopw [4, 5, 6, 22] (fun t4 t5 t6 i wr => t6 = .bool false ∧ Grow w wr ∧ ∃ k : Nat, k ≤ n.kids.length ∧ i = .int .i64 k ∧ t4 = .int .i64 ((1 + countL (n.kids.take k) : Nat) : Int) ∧ t5 = .int .i64 ((1 + depthL (n.kids.take k) : Nat) : Int) ∧ shapeL (n.kids.take k) d = true) (fun _ _ _ i _ => n.kids.length - (intOf i).toNat)
      case atStart => exact ⟨rfl, hg0, 0, Nat.zero_le _, rfl, by simp [countL], by simp [depthL], by simp [shapeL]⟩
      case round =>
        obtain ⟨rfl, hgr, k, hk, rfl, rfl, rfl, hs⟩ := hrel
        by_cases hlt : k < n.kids.length
        · obtain ⟨_, _, hks⟩ := (Hks.out).ext hgr (fun _ _ h => h)
          rcases hks with hks | ⟨bk, ok, rfl, _, hkr⟩
          · simp [hks] at hlt
          obtain ⟨na', nc', ka', kc', c0, c1, c2, c3, c4, hkc⟩ := hkr.get k hlt
          have Hkc : Hid (NodeR wr any n.kids[k] (nodeV n.kids[k] na' nc' ka' kc')) := Lib.hid ⟨_, _, _, _, rfl, hkc⟩
          have Hkr := Lib.hid hkr
          have Hs := Lib.hid hs
          clear hkr hs hkc
          have hb1 : countL (n.kids.take k) ≤ 10000 := by
            have := countL_le (n.kids.take k) 1555 (fun x hx => by
              have hx' := Hs.out
              rw [shapeL_all, List.all_eq_true] at hx'
              exact Nat.le_trans (count_le d x (hx' x hx)) (cb_le d (by have := Hd.out; omega)))
            have h2 : (n.kids.take k).length ≤ 6 := by simp; omega
            have : (n.kids.take k).length * 1555 ≤ 6 * 1555 := Nat.mul_le_mul_right _ h2
            omega
          have hb2 : depthL (n.kids.take k) ≤ 10000 := by
            have : ∀ l : List Nd, shapeL l d = true → depthL l ≤ d := by
              intro l
              induction l with
              | nil => simp [depthL]
              | cons a l ih => intro h; simp only [shapeL, Bool.and_eq_true] at h; have h1 := depth_le d a h.1; have h2 := ih h.2; simp only [depthL]; omega
            have := this _ Hs.out
            have := Hd.out
            omega
          cases hsk : shapeB n.kids[k] d
          · have Hf := Lib.hid (measV_no hsk)
            have Hff : Hid (measV n (d + 1) = .tuple #[.int .i64 0, .int .i64 0, .bool false]) := Lib.hid (measV_no (by rw [shapeB_eq]; simp [shapeL_get hlt hsk]))
            clear hsk
            go_wp2_with (go_at_call 115; refine (Ih.out _ (List.getElem_mem hlt) d _ _ _ (by have := Hd.out; omega) (by have := Hlev.out; omega) ((Hkc.out).ext ((Ext.refl nil wr).alloc _) (fun _ _ h => h))).mono ?_; rintro e w2 ⟨rfl, hg2⟩; simp only [Hf.out])
            go_ret3
            exact ⟨by simp [Hff.out], (hgr.alloc _).trans hg2⟩
          · have Hf := Lib.hid (measV_yes hsk)
            have hb3 : n.kids[k].count ≤ 10000 := Nat.le_trans (count_le d _ hsk) (Nat.le_trans (cb_le d (by have := Hd.out; omega)) (by omega))
            have hb4 : n.kids[k].depth ≤ 10000 := Nat.le_trans (depth_le d _ hsk) (by have := Hd.out; omega)
            have Hsk := Lib.hid hsk
            clear hsk
            go_wp2_with (go_at_call 115; refine (Ih.out _ (List.getElem_mem hlt) d _ _ _ (by have := Hd.out; omega) (by have := Hlev.out; omega) ((Hkc.out).ext ((Ext.refl nil wr).alloc _) (fun _ _ h => h))).mono ?_; rintro e w2 ⟨rfl, hg2⟩; simp only [Hf.out])
            go_roundw
            case rel => exact ⟨rfl, (hgr.alloc _).trans hg2, k + 1, by omega, by go_num, by rw [take_snoc' _ _ hlt, countL_snoc]; go_num, by rw [take_snoc' _ _ hlt, depthL_snoc]; go_num, by rw [take_snoc' _ _ hlt, shapeL_snoc, Hs.out, Hsk.out]; rfl⟩
            case measure => simp [intOf]; omega
        · have hke : k = n.kids.length := by omega
          have Hff : Hid (measV n (d + 1) = .tuple #[.int .i64 n.count, .int .i64 n.depth, .bool true]) := Lib.hid (measV_yes (by
            rw [hke, List.take_length] at hs
            rw [shapeB_eq]; simp [hs, Hp.out]))
          have Hke := Lib.hid hke
          clear hke hs
          go_wp2
          go_ret3
          exact ⟨by rw [Hff.out, Hke.out]; simp [Nd.count_eq, Nd.depth_eq], hgr⟩
end Go.Proofs.Ytmeobmegnneegaa

/-
  The walks of ValidNode, NodeCount, NodeDepth, and of the reference's validNode.
-/
namespace Go.Proofs.Ytmeobmegnneegaa
open Go.RowKit

/-- A valid node. -/
def validB (n : Nd) : Bool := shapeB n 5 && decide (n.count ≤ 40)

set_option maxHeartbeats 400000 in
theorem ValidNode_ok (n : Nd) (v : Value) (w : World) (hn : NodeR w any n v) :
    Calls Try.prog 78 #[v] w fun e w' => e = .returned (.bool (validB n)) ∧ Grow w w' := by
  have Hn := Lib.hid hn
  obtain ⟨na, nc, ka, kc, rfl, hc⟩ := hn
  clear hc
  unfold nodeV at *
  cases hs : shapeB n 5
  · have Hf := Lib.hid (measV_no hs)
    have Hv : Hid (validB n = false) := Lib.hid (by simp [validB, hs])
    clear hs
    go_enter Try.func78, Try.ntmps78
    go_wp2_with (go_at_call 115; refine (measureNode_ok n 5 _ _ _ (by omega) (by omega) ((Hn.out).ext ((Ext.refl nil w).alloc _) (fun _ _ h => h))).mono ?_; rintro e w2 ⟨rfl, hg2⟩; simp only [Hf.out])
    go_ret
    exact ⟨by simp [Hv.out], (by repeat (first | with_reducible exact Ext.refl _ _ | with_reducible refine Ext.trans ?_ (by assumption) | with_reducible refine Ext.drew ?_ | with_reducible refine Ext.drewN ?_ _ | with_reducible refine Ext.alloc ?_ _ | with_reducible refine Ext.setNew ?_ (by simp; done) _ | with_reducible refine Ext.setNew ?_ (by simp; omega) _))⟩
  · have Hf := Lib.hid (measV_yes hs)
    have Hv : Hid (validB n = decide (n.count ≤ 40)) := Lib.hid (by simp [validB, hs])
    clear hs
    go_enter Try.func78, Try.ntmps78
    go_wp2_with (go_at_call 115; refine (measureNode_ok n 5 _ _ _ (by omega) (by omega) ((Hn.out).ext ((Ext.refl nil w).alloc _) (fun _ _ h => h))).mono ?_; rintro e w2 ⟨rfl, hg2⟩; simp only [Hf.out])
    all_goals go_ret
    all_goals exact ⟨by rw [Hv.out]; simp; omega, (by repeat (first | with_reducible exact Ext.refl _ _ | with_reducible refine Ext.trans ?_ (by assumption) | with_reducible refine Ext.drew ?_ | with_reducible refine Ext.drewN ?_ _ | with_reducible refine Ext.alloc ?_ _ | with_reducible refine Ext.setNew ?_ (by simp; done) _ | with_reducible refine Ext.setNew ?_ (by simp; omega) _))⟩

end Go.Proofs.Ytmeobmegnneegaa

/-
  The walks of the reference's validNode and what it calls.
-/
namespace Go.Proofs.Ytmeobmegnneegaa
open Go.RowKit

theorem byte_lt (c : UInt8) : (c.toNat : Int) < 256 := by have := c.toNat_lt; omega

/-- A number lies between two others. -/
def inR (a b c : Int) : Bool := decide (b ≤ a) && decide (a ≤ c)

theorem inRange_ok (a b c : Int) (w : World) :
    Calls Try.prog 95 #[.int .i64 a, .int .i64 b, .int .i64 c] w fun e w' => e = .returned (.bool (inR a b c)) ∧ w' = w := by
  go_enter Try.func95, Try.ntmps95
  go_wp2
  all_goals go_ret
  all_goals exact ⟨by first | (simp_all [inR]; done) | (simp_all [inR]; omega), rfl⟩

set_option maxHeartbeats 400000 in
theorem validText_ok (s : ByteArray) (w : World) (hs : s.size ≤ big) :
    Calls Try.prog 127 #[.string s] w fun e w' => e = .returned (.bool (plainT s)) ∧ w' = w := by
  unfold big at hs
  go_enter Try.func127, Try.ntmps127
  go_wp2
  go_loop [2, 3] (fun n i => n = .bool false ∧ ∃ k : Nat, k ≤ s.size ∧ i = .int .i64 k ∧ (s.data.toList.take k).all okB = true) (fun _ i => s.size - (intOf i).toNat)
  case atStart => exact ⟨rfl, 0, Nat.zero_le _, rfl, rfl⟩
  case round =>
    obtain ⟨rfl, k, hk, rfl, hall⟩ := hrel
    by_cases hlt : k < s.size
    · have Hall := Lib.hid hall
      have hby := byte_lt s[k]
      clear hall
      cases hc : inR (s[k].toNat : Int) 32 126
      · have Hf := Lib.hid (all_stop s k hlt (p := okB) (by simpa [okB, inR] using hc))
        go_wp2_with (go_at_call 95; refine (inRange_ok _ _ _ _).mono ?_; rintro e w' ⟨rfl, rfl⟩)
        go_ret
        exact ⟨by simp [plainT, Hf.out], rfl⟩
      · have Hc := Lib.hid hc
        go_wp2_with (go_at_call 95; refine (inRange_ok _ _ _ _).mono ?_; rintro e w' ⟨rfl, rfl⟩)
        go_round
        case rel => exact ⟨rfl, k + 1, by omega, by go_num, all_step s k hlt Hall.out (by simpa [okB, inR] using Hc.out)⟩
        case measure => simp [intOf]; omega
    · go_wp2
      go_ret
      exact ⟨by have : k = s.data.toList.length := by simp; omega
                rw [this, List.take_length] at hall
                simp [plainT, hall]; omega, rfl⟩


theorem shapeL_zero {l : List Nd} {d : Nat} (h : l.length = 0) : shapeL l d = true := by
  rw [List.length_eq_zero_iff.1 h]; simp [shapeL]

set_option maxHeartbeats 1000000 in
theorem names_ok (a : Option Addr) (c : Nat) (xs : List ByteArray) (w : World) (ha : StrsR w any a c xs) :
    Calls Try.prog 129 #[.slice a xs.length c] w fun e w' => e = .returned (.bool (namesB xs)) ∧ Grow w w' := by
  have hbig : xs.length ≤ 9223372036854775807 := ha.2.1
  have Ha := Lib.hid ha
  clear ha
  go_enter Try.func129, Try.ntmps129
  go_wp2
  go_loopw [2, 3] (fun n i wr => n = .bool false ∧ Grow w wr ∧ ∃ k : Nat, k ≤ xs.length ∧ i = .int .i64 k ∧ namesB xs = namesAt xs k) (fun _ i _ => xs.length - (intOf i).toNat)
  case atStart => exact ⟨rfl, Ext.refl _ _, 0, Nat.zero_le _, rfl, (namesAt_zero xs).symm⟩
  case round =>
    obtain ⟨rfl, hg, k, hk, rfl, hr⟩ := hrel
    have Hr := Lib.hid hr
    clear hr
    by_cases hlt : k < xs.length
    · obtain ⟨_, _, hxs, ha4⟩ := (Ha.out).ext hg (fun _ _ h => h)
      rcases ha4 with rfl | ⟨ba, oa, rfl, _, hca⟩
      · simp at hlt
      have hx := hca k hlt
      have hsz := hxs _ (List.getElem_mem hlt)
      cases hp : plainT xs[k]
      · have Hs : Hid (namesAt xs k = false) := Lib.hid (by
          rcases Nat.eq_zero_or_pos k with rfl | hk0
          · rw [namesAt_first xs hlt, hp]; rfl
          · rw [namesAt_next xs k hlt hk0, hp]; simp)
        have Hp := Lib.hid hp
        clear hca Ha hp
        go_wp2
        go_quiet ((go_at_call 127; exact Calls.quiet_of_same (by simpa only [Hp.out] using validText_ok xs[k] _ hsz)))
        go_wp2
        go_ret
        exact ⟨by simp [Hr.out, Hs.out], hg.drewN _⟩
      · have Hp := Lib.hid hp
        by_cases hk0 : 0 < k
        · have hy := hca (k - 1) (by omega)
          have Hs := Lib.hid (namesAt_next xs k hlt hk0)
          have hki : (0 : Int) < (k : Int) := by omega
          clear hca Ha hp
          rcases bl_cases xs[k - 1] xs[k] with ⟨l1, l2, l3, l4, _⟩ | ⟨l1, l2, l3, l4, _⟩ | l0
          · go_wp2
            go_quiet ((go_at_call 127; exact Calls.quiet_of_same (by simpa only [Hp.out] using validText_ok xs[k] _ hsz)))
            go_wp2
            go_roundw
            case rel => exact ⟨rfl, hg.drewN _, k + 1, by omega, by go_num, by rw [Hr.out, Hs.out, Hp.out, l1]; rfl⟩
            case measure => simp [intOf]; omega
          · go_wp2
            go_quiet ((go_at_call 127; exact Calls.quiet_of_same (by simpa only [Hp.out] using validText_ok xs[k] _ hsz)))
            go_wp2
            go_ret; exact ⟨by simp [Hr.out, Hs.out, Hp.out, l1], hg.drewN _⟩
          · rw [l0] at hy Hs
            clear l0
            have l1 := blF_irrefl xs[k]
            go_wp2
            go_quiet ((go_at_call 127; exact Calls.quiet_of_same (by simpa only [Hp.out] using validText_ok xs[k] _ hsz)))
            go_wp2
            go_ret; exact ⟨by simp [Hr.out, Hs.out, Hp.out, l1], hg.drewN _⟩
        · obtain rfl : k = 0 := by omega
          simp only [Nat.add_zero] at hx
          have Hs := Lib.hid (namesAt_first xs hlt)
          clear hca Ha hp
          go_wp2
          go_quiet ((go_at_call 127; exact Calls.quiet_of_same (by simpa only [Hp.out] using validText_ok xs[0] _ hsz)))
          go_wp2
          go_roundw
          case rel => exact ⟨rfl, hg.drewN _, 1, by omega, by go_num, by rw [Hr.out, Hs.out, Hp.out]; rfl⟩
          case measure => simp [intOf]; omega
    · go_wp2
      go_ret
      exact ⟨by simp [Hr.out, namesAt_end _ _ hlt], hg⟩


/-- What the reference's 'shape' answers for a node. -/
def ShapeOk (n : Nd) : Prop := ∀ (d : Nat) (dep : Int) (v : Value) (w : World), d ≤ 5 → dep = (d : Int) → NodeR w any n v →
    Calls Try.prog 111 #[v, .int .i64 dep] w fun e w' => e = .returned (.bool (shapeB n d)) ∧ Grow w w'

set_option maxHeartbeats 400000 in
theorem kids_of (n : Nd) (ih : ∀ k ∈ n.kids, ShapeOk k) (d : Nat) (dep : Int) (v : Value) (w : World) (hd : d ≤ 4) (hdep : dep = (d : Int) + 1) (hn : NodeR w any n v) :
    Calls Try.prog 128 #[v, .int .i64 dep] w fun e w' => e = .returned (.bool (shapeL n.kids d)) ∧ Grow w w' := by
  have hd1 : 1 ≤ dep := by omega
  have hd2 : dep ≤ 5 := by omega
  have Hd := Lib.hid hdep
  have Ih := Lib.hid ih
  clear ih hdep
  obtain ⟨na, nc, ka, kc, rfl, hc⟩ := hn
  obtain ⟨htx, hns, hks⟩ := hc.parts
  have hkl : n.kids.length ≤ 9223372036854775807 := hks.2.1
  have Hks := Lib.hid hks
  clear htx hns hks hc
  unfold nodeV at *
  go_enter Try.func128, Try.ntmps128
  go_wp2
  go_loopw [4, 5] (fun n4 i wr => n4 = .bool false ∧ Grow (w.alloc (.cells #[.int .i64 n.kind, .int .i64 n.num, .string n.text, .slice na n.names.length nc, .slice ka n.kids.length kc] 39)) wr ∧ ∃ k : Nat, k ≤ n.kids.length ∧ i = .int .i64 k ∧ shapeL n.kids d = shapeL (n.kids.drop k) d) (fun _ i _ => n.kids.length - (intOf i).toNat)
  case atStart => exact ⟨rfl, Ext.refl _ _, 0, Nat.zero_le _, rfl, rfl⟩
  case round =>
    obtain ⟨rfl, hg, k, hk, rfl, hr⟩ := hrel
    have Hr := Lib.hid hr
    clear hr
    have hcc := bcell hg
    have hg0 : Grow w wr := ((Ext.refl _ _).alloc _).trans hg
    by_cases hlt : k < n.kids.length
    · obtain ⟨_, _, hks⟩ := (Hks.out).ext hg0 (fun _ _ h => h)
      rcases hks with hks | ⟨bk, ok, rfl, _, hkr⟩
      · simp [hks] at hlt
      obtain ⟨na', nc', ka', kc', c0, c1, c2, c3, c4, hkc⟩ := hkr.get k hlt
      have Hkc : Hid (NodeR wr any n.kids[k] (nodeV n.kids[k] na' nc' ka' kc')) := Lib.hid ⟨_, _, _, _, rfl, hkc⟩
      clear hkr hkc
      cases hsk : shapeB n.kids[k] d
      · have Hf := Lib.hid hsk
        have Hff := Lib.hid (shapeL_get hlt hsk)
        go_wp2_with (go_at_call 111; refine (Ih.out _ (List.getElem_mem hlt) d _ _ _ (by omega) (by have := Hd.out; omega) Hkc.out).mono ?_; rintro e w2 ⟨rfl, hg2⟩; simp only [Hf.out])
        go_ret
        exact ⟨by simp [Hff.out], hg0.trans hg2⟩
      · have Hf := Lib.hid hsk
        clear hsk
        go_wp2_with (go_at_call 111; refine (Ih.out _ (List.getElem_mem hlt) d _ _ _ (by omega) (by have := Hd.out; omega) Hkc.out).mono ?_; rintro e w2 ⟨rfl, hg2⟩; simp only [Hf.out])
        go_roundw
        case rel => exact ⟨rfl, hg.trans hg2, k + 1, by omega, by go_num, by rw [Hr.out, drop_cons _ _ hlt, shapeL, Hf.out]; rfl⟩
        case measure => simp [intOf]; omega
    · go_wp2
      go_ret
      exact ⟨by simp [Hr.out, List.drop_eq_nil_of_le (Nat.le_of_not_lt hlt), shapeL], hg0⟩

end Go.Proofs.Ytmeobmegnneegaa

/-
  What makes a shape valid. (The walks of impl.isShape, spec.validShape are still to be done.)
-/
namespace Go.Proofs.Ytmeobmegnneegaa
open Go.RowKit

/-- The cells of a shape. -/
def shapeL' (n : Shp) (na : Option Addr) (nc : Nat) (ba : Option Addr) (bc : Nat) (ka : Option Addr) (kc : Nat) : List Value :=
  [.int .i64 n.kind, .slice na n.names.length nc, .slice ba n.needs.length bc, .slice ka n.kids.length kc]

/-- The head of a shape: kind, names, lengths. -/
def shpHead (x : Shp) : Bool :=
  inR x.kind 0 4 && areNamesB x.names && !(decide (0 < x.names.length) && decide (x.kind ≠ 4)) && decide (x.needs.length = x.names.length) && decide (x.kids.length = x.names.length)

mutual
def shpB : Shp → Nat → Bool
  | ⟨kind, names, needs, kids⟩, d => decide (0 < d) && shpHead ⟨kind, names, needs, kids⟩ && shpL kids (d - 1)
def shpL : List Shp → Nat → Bool
  | [], _ => true
  | k :: ks, d => shpB k d && shpL ks d
end

theorem shpB_eq (x : Shp) (d : Nat) : shpB x d = (decide (0 < d) && shpHead x && shpL x.kids (d - 1)) := by cases x; simp [shpB]
theorem shpL_all (l : List Shp) (d : Nat) : shpL l d = l.all fun k => shpB k d := by
  induction l with
  | nil => simp [shpL]
  | cons a l ih => simp [shpL, ih]

end Go.Proofs.Ytmeobmegnneegaa

/-
  Shapes that own their memory.
-/
namespace Go.Proofs.Ytmeobmegnneegaa
open Go Go.RowKit

def BoolsF (w : World) (a : Option Addr) (c : Nat) (xs : List Bool) (fp : List Nat) : Prop :=
  xs.length ≤ c ∧ xs.length ≤ big ∧ ((xs = [] ∧ fp = []) ∨ ∃ b o, xs ≠ [] ∧ a = some ⟨b, o, none⟩ ∧ fp = [b] ∧ ∀ i (h : i < xs.length), w.cell? ⟨b, o + i, none⟩ = some (.bool xs[i]))

theorem BoolsF.keep {w w' : World} {a : Option Addr} {c : Nat} {xs : List Bool} {fp : List Nat} (hs : BoolsF w a c xs fp)
    (h : ∀ b ∈ fp, ∀ o, w'.cell? ⟨b, o, none⟩ = w.cell? ⟨b, o, none⟩) : BoolsF w' a c xs fp := by
  obtain ⟨h1, h2, h4⟩ := hs
  refine ⟨h1, h2, h4.imp id ?_⟩
  rintro ⟨b, o, hne, rfl, rfl, hc⟩
  exact ⟨b, o, hne, rfl, rfl, fun i hi => by rw [h b (by simp)]; exact hc i hi⟩
theorem BoolsF.toR {w : World} {a : Option Addr} {c : Nat} {xs : List Bool} {fp : List Nat} (hs : BoolsF w a c xs fp) {S : Nat → Prop} (hS : ∀ b ∈ fp, S b) : BoolsR w S a c xs := by
  obtain ⟨h1, h2, h4⟩ := hs
  refine ⟨h1, h2, h4.imp (fun h => h.1) ?_⟩
  rintro ⟨b, o, _, rfl, rfl, hc⟩
  exact ⟨b, o, rfl, hS b (by simp), hc⟩

mutual
def ShapeF (w : World) : Shp → Option Addr → Nat → Option Addr → Nat → Option Addr → Nat → List Nat → Prop
  | ⟨_, names, needs, kids⟩, na, nc, ba, bc, ka, kc, fp => ∃ f1 f2 f3, fp = f1 ++ f2 ++ f3 ∧ StrsF w na nc names f1 ∧ BoolsF w ba bc needs f2 ∧ kids.length ≤ kc ∧ kids.length ≤ big ∧
      ((kids = [] ∧ f3 = []) ∨ ∃ b o f4, kids ≠ [] ∧ ka = some ⟨b, o, none⟩ ∧ f3 = b :: f4 ∧ ShpsF w b o kids f4)
def ShpsF (w : World) (b : Nat) : Nat → List Shp → List Nat → Prop
  | _, [], fp => fp = []
  | o, k :: ks, fp => ∃ f1 f2, fp = f1 ++ f2 ∧ (∃ na nc ba bc ka kc, w.cell? ⟨b, o, none⟩ = some (.int .i64 k.kind) ∧ w.cell? ⟨b, o + 1, none⟩ = some (.slice na k.names.length nc) ∧ w.cell? ⟨b, o + 2, none⟩ = some (.slice ba k.needs.length bc) ∧
      w.cell? ⟨b, o + 3, none⟩ = some (.slice ka k.kids.length kc) ∧ ShapeF w k na nc ba bc ka kc f1) ∧ ShpsF w b (o + 4) ks f2
end

/-- A slice of shapes that owns its memory. -/
def ShpLF (w : World) (a : Option Addr) (c : Nat) (l : List Shp) (fp : List Nat) : Prop :=
  l.length ≤ c ∧ l.length ≤ big ∧ ((l = [] ∧ fp = []) ∨ ∃ b o f, l ≠ [] ∧ a = some ⟨b, o, none⟩ ∧ fp = b :: f ∧ ShpsF w b o l f)

theorem ShapeF.mk {w : World} {n : Shp} {na : Option Addr} {nc : Nat} {ba : Option Addr} {bc : Nat} {ka : Option Addr} {kc : Nat} {f1 f2 f3 : List Nat}
    (h2 : StrsF w na nc n.names f1) (h3 : BoolsF w ba bc n.needs f2) (h4 : ShpLF w ka kc n.kids f3) : ShapeF w n na nc ba bc ka kc (f1 ++ f2 ++ f3) := by
  cases n; unfold ShapeF
  exact ⟨f1, f2, f3, rfl, h2, h3, h4⟩

def ShapeO (w : World) (n : Shp) (v : Value) (fp : List Nat) : Prop := ∃ na nc ba bc ka kc, v = shapeV n na nc ba bc ka kc ∧ ShapeF w n na nc ba bc ka kc fp

mutual
theorem ShapeF.keep {w w' : World} : ∀ {n : Shp} {na : Option Addr} {nc : Nat} {ba : Option Addr} {bc : Nat} {ka : Option Addr} {kc : Nat} {fp : List Nat}, ShapeF w n na nc ba bc ka kc fp →
    (∀ b ∈ fp, ∀ o, w'.cell? ⟨b, o, none⟩ = w.cell? ⟨b, o, none⟩) → ShapeF w' n na nc ba bc ka kc fp
  | ⟨_, _, _, kids⟩, na, nc, ba, bc, ka, kc, fp, hn, h => by
    unfold ShapeF at hn ⊢
    obtain ⟨f1, f2, f3, rfl, h1, h2, h3, h4, h5⟩ := hn
    refine ⟨f1, f2, f3, rfl, h1.keep (fun b hb => h b (by simp [hb])), h2.keep (fun b hb => h b (by simp [hb])), h3, h4, h5.imp id ?_⟩
    rintro ⟨b, o, f4, hne, rfl, rfl, hc⟩
    exact ⟨b, o, f4, hne, rfl, rfl, ShpsF.keep hc (fun x hx => h x (by simp [hx])) (fun o' _ _ => h b (by simp) o')⟩
theorem ShpsF.keep {w w' : World} {b : Nat} : ∀ {l : List Shp} {o : Nat} {fp : List Nat}, ShpsF w b o l fp → (∀ x ∈ fp, ∀ o', w'.cell? ⟨x, o', none⟩ = w.cell? ⟨x, o', none⟩) →
    (∀ o', o ≤ o' → o' < o + 4 * l.length → w'.cell? ⟨b, o', none⟩ = w.cell? ⟨b, o', none⟩) → ShpsF w' b o l fp
  | [], _, _, hk, _, _ => by unfold ShpsF at hk ⊢; exact hk
  | k :: ks, o, fp, hk, h, hb => by
    unfold ShpsF at hk ⊢
    obtain ⟨f1, f2, rfl, ⟨na, nc, ba, bc, ka, kc, c0, c1, c2, c3, hn⟩, hr⟩ := hk
    simp only [List.length_cons] at hb
    refine ⟨f1, f2, rfl, ⟨na, nc, ba, bc, ka, kc, ?_, ?_, ?_, ?_, ShapeF.keep hn (fun x hx => h x (by simp [hx]))⟩, ShpsF.keep hr (fun x hx => h x (by simp [hx])) (fun o' h1 h2 => hb o' (by omega) (by omega))⟩
    · rw [hb _ (by omega) (by omega)]; exact c0
    · rw [hb _ (by omega) (by omega)]; exact c1
    · rw [hb _ (by omega) (by omega)]; exact c2
    · rw [hb _ (by omega) (by omega)]; exact c3
end

mutual
theorem ShapeF.toC {w : World} {S : Nat → Prop} : ∀ {n : Shp} {na : Option Addr} {nc : Nat} {ba : Option Addr} {bc : Nat} {ka : Option Addr} {kc : Nat} {fp : List Nat}, ShapeF w n na nc ba bc ka kc fp → (∀ b ∈ fp, S b) → ShapeC w S n na nc ba bc ka kc
  | ⟨_, _, _, kids⟩, na, nc, ba, bc, ka, kc, fp, hn, h => by
    unfold ShapeF at hn; unfold ShapeC
    obtain ⟨f1, f2, f3, rfl, h1, h2, h3, h4, h5⟩ := hn
    refine ⟨h1.toR (fun b hb => h b (by simp [hb])), h2.toR (fun b hb => h b (by simp [hb])), h3, h4, h5.imp (fun h => h.1) ?_⟩
    rintro ⟨b, o, f4, _, rfl, rfl, hc⟩
    exact ⟨b, o, rfl, h b (by simp), ShpsF.toR hc (fun x hx => h x (by simp [hx]))⟩
theorem ShpsF.toR {w : World} {S : Nat → Prop} {b : Nat} : ∀ {l : List Shp} {o : Nat} {fp : List Nat}, ShpsF w b o l fp → (∀ x ∈ fp, S x) → ShpsR w S b o l
  | [], _, _, _, _ => by unfold ShpsR; trivial
  | k :: ks, o, fp, hk, h => by
    unfold ShpsF at hk; unfold ShpsR
    obtain ⟨f1, f2, rfl, ⟨na, nc, ba, bc, ka, kc, c0, c1, c2, c3, hn⟩, hr⟩ := hk
    exact ⟨⟨na, nc, ba, bc, ka, kc, c0, c1, c2, c3, ShapeF.toC hn (fun x hx => h x (by simp [hx]))⟩, ShpsF.toR hr (fun x hx => h x (by simp [hx]))⟩
end
theorem ShapeO.toR {w : World} {n : Shp} {v : Value} {fp : List Nat} (h : ShapeO w n v fp) {S : Nat → Prop} (hS : ∀ b ∈ fp, S b) : ShapeR w S n v := by
  obtain ⟨na, nc, ba, bc, ka, kc, hv, hc⟩ := h
  exact ⟨na, nc, ba, bc, ka, kc, hv, hc.toC hS⟩

theorem ShpsF.snoc {w : World} {b : Nat} {k : Shp} {f' : List Nat} {na : Option Addr} {nc : Nat} {ba : Option Addr} {bc : Nat} {ka : Option Addr} {kc : Nat} : ∀ {l : List Shp} {o : Nat} {fp : List Nat}, ShpsF w b o l fp →
    w.cell? ⟨b, o + 4 * l.length, none⟩ = some (.int .i64 k.kind) → w.cell? ⟨b, o + 4 * l.length + 1, none⟩ = some (.slice na k.names.length nc) → w.cell? ⟨b, o + 4 * l.length + 2, none⟩ = some (.slice ba k.needs.length bc) →
    w.cell? ⟨b, o + 4 * l.length + 3, none⟩ = some (.slice ka k.kids.length kc) → ShapeF w k na nc ba bc ka kc f' →
    ShpsF w b o (l ++ [k]) (fp ++ f')
  | [], o, fp, hk, c0, c1, c2, c3, hn => by
    unfold ShpsF at hk; subst hk
    simp only [List.length_nil, Nat.mul_zero, Nat.add_zero] at c0 c1 c2 c3
    simp only [List.nil_append]
    unfold ShpsF
    exact ⟨f', [], by simp, ⟨na, nc, ba, bc, ka, kc, c0, c1, c2, c3, hn⟩, by unfold ShpsF; rfl⟩
  | x :: l, o, fp, hk, c0, c1, c2, c3, hn => by
    unfold ShpsF at hk
    obtain ⟨f1, f2, rfl, hx, hr⟩ := hk
    have e : o + 4 * (x :: l).length = o + 4 + 4 * l.length := by simp; omega
    rw [e] at c0 c1 c2 c3
    simp only [List.cons_append]
    unfold ShpsF
    exact ⟨f1, f2 ++ f', by simp, hx, ShpsF.snoc hr c0 c1 c2 c3 hn⟩

theorem ShpsF.lay {w : World} {b n : Nat} {l : List Shp} {k : Shp} {fp f' : List Nat} {na : Option Addr} {nc : Nat} {ba : Option Addr} {bc : Nat} {ka : Option Addr} {kc : Nat} (hr : RowIn w b n) (hk : ShpsF w b 0 l fp)
    (hn : ShapeF w k na nc ba bc ka kc f') (hlen : (l.length + 1) * 4 ≤ n) (h1 : b ∉ fp) (h2 : b ∉ f') :
    ShpsF (storeL w b (l.length * 4) (shapeL' k na nc ba bc ka kc)) b 0 (l ++ [k]) (fp ++ f') := by
  have hl : l.length * 4 + (shapeL' k na nc ba bc ka kc).length ≤ n := by show l.length * 4 + 4 ≤ n; omega
  have at' := fun i v h => storeL_at (vs := shapeL' k na nc ba bc ka kc) hr hl i v h
  have other := fun x hx o => storeL_elsewhere b (shapeL' k na nc ba bc ka kc) w (l.length * 4) x o hx
  have e0 : 0 + 4 * l.length = l.length * 4 := by omega
  refine ShpsF.snoc (hk.keep (fun x hx o => other x (fun e => h1 (e ▸ hx)) o) (fun o' _ ho => storeL_below hr hl o' (by omega))) ?_ ?_ ?_ ?_ (hn.keep (fun x hx o => other x (fun e => h2 (e ▸ hx)) o))
  · rw [e0]; exact at' 0 _ rfl
  · rw [e0]; exact at' 1 _ rfl
  · rw [e0]; exact at' 2 _ rfl
  · rw [e0]; exact at' 3 _ rfl

end Go.Proofs.Ytmeobmegnneegaa

/-
  The walks of the laws' own helpers on texts and nodes: sizes, copies.
-/
namespace Go.Proofs.Ytmeobmegnneegaa
open Go.RowKit

def costS (xs : List ByteArray) : Nat := xs.length + (xs.map (·.size)).sum
mutual
def costN : Nd → Nat
  | ⟨_, _, text, names, kids⟩ => text.size + costS names + costL kids
def costL : List Nd → Nat
  | [] => 0
  | k :: ks => 1 + costN k + costL ks
end
theorem costN_eq (n : Nd) : costN n = n.text.size + costS n.names + costL n.kids := by cases n; simp [costN]
theorem costL_len (l : List Nd) : l.length ≤ costL l := by
  induction l with
  | nil => simp
  | cons a l ih => simp [costL]; omega
theorem costL_get (l : List Nd) (k : Nat) (h : k < l.length) : costN l[k] ≤ costL l := by
  induction l generalizing k with
  | nil => simp at h
  | cons a l ih => cases k with
    | zero => simp [costL]; omega
    | succ k => have := ih k (by simpa using h); simp [costL]; omega

theorem run_mk {P : Program} (t e : TypeId) (z : Value) (size bytes : Nat) (ht : P.underlying t = some (.slice e)) (hinfo : (P.info? e).map (fun i => (i.zero, i.size, i.bytes)) = some (some z, size, bytes))
    (kl kc : IntKind) (n : Nat) (hbytes : bytes * n ≤ 281474976710656) (h63 : n ≤ 9223372036854775807) (w : World) :
    (Instr.makeSlice t (.int kl (n : Int)) (.int kc (n : Int))).run P w = .ok (.slice (some ⟨w.heap.size, 0, none⟩) n n) (w.alloc (.cells (madeCells z.cells (n * size)) e)) := by
  obtain ⟨i, hi, hzz⟩ := Option.map_eq_some_iff.1 hinfo
  simp only [Prod.mk.injEq] at hzz
  obtain ⟨hz, hs, hb⟩ := hzz
  have hb' : (i.bytes : Int) * (n : Int) ≤ 281474976710656 := by
    have h : ((i.bytes * n : Nat) : Int) ≤ 281474976710656 := by rw [hb]; omega
    rwa [Int.natCast_mul] at h
  have hr := run_make (P := P) w t e i z ht hi hz kl kc n n (by omega) (Int.le_refl _) hb' (by omega)
  simp only [Int.toNat_natCast, hs] at hr
  exact hr

theorem info_string : (Try.prog.info? 9).map (fun i => (i.zero, i.size, i.bytes)) = some (some (.string ⟨#[]⟩), 1, 16) := by kernel_rfl
theorem info_Node : (Try.prog.info? 39).map (fun i => (i.zero, i.size, i.bytes)) = some (some (.agg #[.int .i64 0, .int .i64 0, .string ⟨#[]⟩, .slice none 0 0, .slice none 0 0]), 5, 80) := by kernel_rfl

set_option maxHeartbeats 400000 in
theorem toStringS_ok (a : Option Addr) (c : Nat) (xs : List ByteArray) (w : World) (ha : StrsR w any a c xs) (hb : xs.length ≤ 1048576) :
    Calls Try.prog 75 #[.slice a xs.length c] w fun e w' => ∃ a' c' fp, e = .returned (.slice a' xs.length c') ∧ Grow w w' ∧ StrsF w' a' c' xs fp ∧ Free w.heap.size w' fp := by
  have Ha := Lib.hid ha
  clear ha
  have hmk := run_mk (P := Try.prog) 25 9 _ 1 16 Try.underlying25 info_string .i64 .i64 xs.length (by omega) (by omega)
  go_enter Try.func75, Try.ntmps75
  go_wp2
  clear hmk
  go_loopw [4] (fun i wr => ∃ k : Nat, k ≤ xs.length ∧ i = .int .i64 k ∧ Grow w wr ∧ RowIn wr w.heap.size xs.length ∧ ∀ j (h : j < xs.length), j < k → wr.cell? ⟨w.heap.size, j, none⟩ = some (.string xs[j])) (fun i _ => xs.length - (intOf i).toNat)
  case atStart => exact ⟨0, Nat.zero_le _, rfl, (Ext.refl _ _).alloc _, RowIn.made _ _ _ _, fun j h h0 => absurd h0 (by omega)⟩
  case round =>
    obtain ⟨k, hk, rfl, hg, hrow, hc⟩ := hrel
    by_cases hlt : k < xs.length
    · obtain ⟨_, _, hxs, ha4⟩ := (Ha.out).ext hg (fun _ _ h => h)
      rcases ha4 with rfl | ⟨ba, oa, rfl, _, hca⟩
      · simp at hlt
      have hx := hca k hlt
      obtain ⟨u, hu⟩ := hrow.2.1 k hlt
      have hfk := hrow.2.2 k
      have Hrow := Lib.hid hrow
      have Hc := Lib.hid hc
      have Hu := Lib.hid hu
      clear hca hrow hc
      go_wp2
      go_roundw
      case rel =>
        refine ⟨k + 1, by omega, by go_num, hg.setNew (by simp) _, Hrow.out.setCell _ _, fun j h hj => ?_⟩
        rw [cell_set Hu.out]
        by_cases e : j = k
        · subst e; simp
        · rw [if_neg (by intro h'; cases h'; exact e rfl)]; exact Hc.out j h (by omega)
      case measure => simp [intOf]; omega
    · have Ha' := (Ha.out).ext hg (fun _ _ h => h)
      have Hrow := Lib.hid hrow
      have Hc := Lib.hid hc
      clear hrow hc
      go_wp2
      go_ret
      by_cases hne : xs = []
      · subst hne
        exact ⟨_, _, [], rfl, hg, ⟨Nat.le_refl _, by simp, by simp, .inl ⟨rfl, rfl⟩⟩, Free.nil _ _⟩
      · exact ⟨_, _, [w.heap.size], rfl, hg, ⟨Nat.le_refl _, Ha'.2.1, Ha'.2.2.1, .inr ⟨_, 0, hne, rfl, rfl, fun j h => by rw [Nat.zero_add]; exact Hc.out j h (by omega)⟩⟩, Free.one Hrow.out (Nat.le_refl _)⟩

def ToOk (n : Nd) : Prop := ∀ (v : Value) (w : World), costN n ≤ 1048576 → NodeR w any n v →
    Calls Try.prog 26 #[v] w fun e w' => ∃ v' fp, e = .returned v' ∧ Grow w w' ∧ NodeO w' n v' fp ∧ Free w.heap.size w' fp

theorem bfroz {w w' : World} (hg : Grow w w') : (∀ b o, b < w.heap.size → w'.frozen? ⟨b, o, none⟩ = w.frozen? ⟨b, o, none⟩) := fun b o h => hg.frozen (p := ⟨b, o, none⟩) h (fun h => h)

set_option maxHeartbeats 400000 in
theorem toNode_of (n : Nd) (hk : ∀ (a : Option Addr) (c : Nat) (w : World), NodesR w any a c n.kids →
      Calls Try.prog 76 #[.slice a n.kids.length c] w fun e w' => ∃ a' c' fp, e = .returned (.slice a' n.kids.length c') ∧ Grow w w' ∧ NodesF w' a' c' n.kids fp ∧ Free w.heap.size w' fp) : ToOk n := by
  intro v w hcost hn
  rw [costN_eq] at hcost
  have Hk := Lib.hid hk
  have Hn := Lib.hid hn
  clear hk
  obtain ⟨na, nc, ka, kc, rfl, hc⟩ := hn
  obtain ⟨htx, hns, hks⟩ := hc.parts
  have Hns := Lib.hid hns
  have Hks := Lib.hid hks
  have Htx := Lib.hid htx
  clear hns hks hc htx
  unfold nodeV at *
  go_enter Try.func26, Try.ntmps26
  go_wp2_with fail
  refine (toStringS_ok _ _ n.names _ (Hns.out.grow (by repeat (first | with_reducible exact Ext.refl _ _ | with_reducible refine Ext.trans ?_ (by assumption) | with_reducible refine Ext.drew ?_ | with_reducible refine Ext.drewN ?_ _ | with_reducible refine Ext.alloc ?_ _ | with_reducible refine Ext.setNew ?_ (by simp; done) _ | with_reducible refine Ext.setNew ?_ (by simp; omega) _))) ?_).mono ?_
  · have : n.names.length ≤ costS n.names := by simp [costS]
    omega
  rintro e w1 ⟨a1, c1, f1, rfl, hg1, hF1, hf1⟩
  have B1 := ((Box5.new (w.alloc _) _ _ _ _ _ _).grow ((Ext.refl nil _).alloc _)).grow hg1
  have B2 := (Box5.new ((w.alloc _).alloc _) _ _ _ _ _ _).grow hg1
  have B0 := (((Box5.new w _ _ _ _ _ _).grow ((Ext.refl nil _).alloc _)).grow ((Ext.refl nil _).alloc _)).grow hg1
  simp only [World.size_alloc] at B0 B1 B2
  have hg1' : Grow w w1 := (by repeat (first | with_reducible exact Ext.refl _ _ | with_reducible refine Ext.trans ?_ (by assumption) | with_reducible refine Ext.drew ?_ | with_reducible refine Ext.drewN ?_ _ | with_reducible refine Ext.alloc ?_ _ | with_reducible refine Ext.setNew ?_ (by simp; done) _ | with_reducible refine Ext.setNew ?_ (by simp; omega) _))
  have hz : w.heap.size + 1 + 1 < w1.heap.size := B2.lt
  have HB0 := Lib.hid B0
  have HB1 := Lib.hid B1
  have HB2 := Lib.hid B2
  obtain ⟨p0, p1, p2, p3, p4, pf, pl⟩ := B0
  obtain ⟨q0, q1, q2, q3, q4, qf, ql⟩ := B2
  clear hg1
  go_wp2_with fail
  refine (Hk.out _ _ _ (Hks.out.ext (hg1'.setNew (by simp; omega) _) (fun _ _ h => h))).mono ?_
  rintro e w2 ⟨a2, c2, f2, rfl, hg2, hF2, hf2⟩
  have B1 := (HB1.out.other (p := ⟨w.heap.size + 1 + 1, 3, none⟩) (by simp) (.slice a1 n.names.length c1)).grow hg2
  have B2 := (HB2.out.set3 (.slice a1 n.names.length c1)).grow hg2
  have HB2 := Lib.hid B2
  have HB1 := Lib.hid B1
  clear p0 p1 p2 p3 p4 pf pl q0 q1 q2 q3 q4 qf ql
  obtain ⟨p0, p1, p2, p3, p4, pf, pl⟩ := B1
  obtain ⟨q0, q1, q2, q3, q4, qf, ql⟩ := B2
  go_wp2_with fail
  have BF := (((((HB1.out.other (p := ⟨w.heap.size + 1 + 1, 4, none⟩) (by simp) (.slice a2 n.kids.length c2)).set0 (.int .i64 n.kind)).set1 (.int .i64 n.num)).set2 (.string n.text)).set3 (.slice a1 n.names.length c1)).set4 (.slice a2 n.kids.length c2)
  simp only [World.size_alloc] at hf1
  rw [size_setCell] at hf2
  have x1 : ∀ b ∈ f1, ¬ (b = w.heap.size + 1 ∨ b = w.heap.size + 1 + 1) := fun b hb => by have := (hf1.2 b hb).1; omega
  have x2 : ∀ b ∈ f2, ¬ (b = w.heap.size + 1 ∨ b = w.heap.size + 1 + 1) := fun b hb => by have := (hf2.2 b hb).1; have := hg1'.size; omega
  have fin : ∀ W, Ext (fun k => k = w.heap.size + 1 ∨ k = w.heap.size + 1 + 1) w2 W → ∃ v' fp, Ending.returned (nodeV n a1 c1 a2 c2) = Ending.returned v' ∧ Grow w W ∧ NodeO W n v' fp ∧ Free w.heap.size W fp := by
    intro W hW
    have e12 : Ext (fun k => k = w.heap.size + 1 ∨ k = w.heap.size + 1 + 1) w1 w2 := Ext.trans (Ext.setIn (X := fun k => k = w.heap.size + 1 ∨ k = w.heap.size + 1 + 1) (Ext.refl _ w1) (p := ⟨w.heap.size + 1 + 1, 3, none⟩) (.inr rfl) (.slice a1 n.names.length c1)) (hg2.mono (fun _ h => False.elim h))
    have e1W := e12.trans hW
    have k1 := e1W.keeps hf1 x1
    have k2 := hW.keeps hf2 x2
    have F1 := hf1.ext e1W x1
    have F2 := hf2.ext hW x2
    refine ⟨_, f1 ++ f2, rfl, hg1'.inner e1W (by intro i hi; omega), ⟨_, _, _, _, rfl, NodeF.mk Htx.out (hF1.keep k1) (hF2.keep k2)⟩, ?_⟩
    refine ⟨List.nodup_append.2 ⟨F1.1, F2.1, fun a ha b hb e => ?_⟩, fun b hb => ?_⟩
    · subst e
      have := (hf1.2 a ha).2.1
      have := (hf2.2 a hb).1
      omega
    · rcases List.mem_append.1 hb with h | h
      · exact ⟨by have := (hf1.2 b h).1; omega, (F1.2 b h).2⟩
      · exact ⟨by have := (hf2.2 b h).1; have := hg1'.size; omega, (F2.2 b h).2⟩
  obtain ⟨r0, r1, r2, r3, r4, _, _⟩ := BF
  refine bodyPost_ret (v := nodeV n a1 c1 a2 c2) ?_ rfl ?_
  · simp [results, Try.results26, go_sem, nodeV, r0, r1, r2, r3, r4]
  · refine fin _ ?_
    exact (by repeat (first | with_reducible exact Ext.refl _ _ | with_reducible refine Ext.setIn ?_ (by simp) _ | with_reducible refine Ext.trans ?_ (Ext.mono (by assumption) (fun _ h => False.elim h))))

theorem info_Node' : Try.prog.underlying 37 = some (.slice 39) := Try.underlying37

set_option maxHeartbeats 400000 in
theorem toNodeS_of (l : List Nd) (ih : ∀ k ∈ l, ToOk k) (a : Option Addr) (c : Nat) (w : World) (hcost : costL l ≤ 1048576) (hn : NodesR w any a c l) :
    Calls Try.prog 76 #[.slice a l.length c] w fun e w' => ∃ a' c' fp, e = .returned (.slice a' l.length c') ∧ Grow w w' ∧ NodesF w' a' c' l fp ∧ Free w.heap.size w' fp := by
  have hb : l.length ≤ 1048576 := Nat.le_trans (costL_len l) hcost
  have Ih := Lib.hid ih
  have Hn := Lib.hid hn
  clear ih hn
  have hmk := run_mk (P := Try.prog) 37 39 _ 5 80 Try.underlying37 info_Node .i64 .i64 l.length (by omega) (by omega)
  go_enter Try.func76, Try.ntmps76
  go_wp2
  clear hmk
  go_loopw [4] (fun i wr => ∃ (k : Nat) (fp : List Nat), k ≤ l.length ∧ i = .int .i64 k ∧ Grow w wr ∧ RowIn wr w.heap.size (l.length * 5) ∧ KidsF wr w.heap.size 0 (l.take k) fp ∧ Free (w.heap.size + 1) wr fp) (fun i _ => l.length - (intOf i).toNat)
  case atStart => exact ⟨0, [], Nat.zero_le _, rfl, (Ext.refl _ _).alloc _, RowIn.made _ _ _ _, by simp [KidsF], Free.nil _ _⟩
  case round =>
    obtain ⟨k, fp, hk, rfl, hg, hrow, hkf, hfr⟩ := hrel
    have Hrow := Lib.hid hrow
    have Hkf := Lib.hid hkf
    have Hfr := Lib.hid hfr
    clear hrow hkf hfr
    by_cases hlt : k < l.length
    · obtain ⟨_, _, hks⟩ := (Hn.out).ext hg (fun _ _ h => h)
      rcases hks with hks | ⟨bk, ok, rfl, _, hkr⟩
      · simp [hks] at hlt
      obtain ⟨na', nc', ka', kc', c0, c1, c2, c3, c4, hkc⟩ := hkr.get k hlt
      have Hkc : Hid (NodeR wr any l[k] (nodeV l[k] na' nc' ka' kc')) := Lib.hid ⟨_, _, _, _, rfl, hkc⟩
      have hck := costL_get l k hlt
      clear hkr hkc
      go_wp2_with fail
      refine (Ih.out _ (List.getElem_mem hlt) _ _ (by omega) Hkc.out).mono ?_
      rintro e w2 ⟨v', f', rfl, hg2, hN, hf'⟩
      clear c0 c1 c2 c3 c4
      obtain ⟨na2, nc2, ka2, kc2, rfl, hN⟩ := hN
      have hrow2 := Hrow.out.ext hg2 (fun h => h)
      have hfz := hrow2.2.2
      obtain ⟨u0, d0⟩ := hrow2.2.1 (k * 5) (by omega)
      obtain ⟨u1, d1⟩ := hrow2.2.1 (k * 5 + 1) (by omega)
      obtain ⟨u2, d2⟩ := hrow2.2.1 (k * 5 + 2) (by omega)
      obtain ⟨u3, d3⟩ := hrow2.2.1 (k * 5 + 3) (by omega)
      obtain ⟨u4, d4⟩ := hrow2.2.1 (k * 5 + 4) (by omega)
      have Hrow2 := Lib.hid hrow2
      clear hrow2
      unfold nodeV
      go_wp2_with fail
      clear d0 d1 d2 d3 d4 hfz
      have hl : (l.take k).length = k := by simp; omega
      have hbf : w.heap.size ∉ fp := fun h => by have := (Hfr.out.2 _ h).1; omega
      have hbf' : w.heap.size ∉ f' := fun h => by have := (hf'.2 _ h).1; have := Hrow.out.1; omega
      have hfr2 := Hfr.out.ext hg2 (fun _ _ h => h)
      have hkf2 := Hkf.out.keep (hg2.keeps Hfr.out (fun _ _ h => h)) (fun o' _ ho => hg2.cell (p := ⟨w.heap.size, o', none⟩) Hrow.out.1 (fun h => h))
      have hlay := KidsF.lay Hrow2.out hkf2 hN (by rw [hl]; omega) hbf hbf'
      rw [hl] at hlay
      have hfr3 := Free.append Hfr.out hf' hg2 (Nat.le_refl _) (by have := Hrow.out.1; omega)
      go_roundw
      case rel => exact ⟨k + 1, fp ++ f', by omega, by go_num, Grow.inner (hg.trans hg2) (store5_ext w2 w.heap.size (k * 5) _ _ _ _ _) (by intro i hi; omega), store5_row Hrow2.out _ _ _ _ _ _, by rw [take_snoc' _ _ hlt]; exact hlay, store5_free hfr3 _ _ _ _ _ _ _⟩
      case measure => simp [intOf]; omega
    · have hke : k = l.length := by omega
      subst hke
      go_wp2
      go_ret
      rw [List.take_length] at Hkf
      by_cases hne : l = []
      · subst hne
        exact ⟨_, _, [], rfl, hg, ⟨Nat.le_refl _, by simp, .inl ⟨rfl, rfl⟩⟩, Free.nil _ _⟩
      · exact ⟨_, _, w.heap.size :: fp, rfl, hg, ⟨Nat.le_refl _, Hn.out.2.1, .inr ⟨_, 0, fp, hne, rfl, rfl, Hkf.out⟩⟩, Free.cons Hrow.out (Nat.le_refl _) Hfr.out⟩

theorem toNode_ok : ∀ n, ToOk n := by
  refine Nd.ind' ToOk ?_
  intro n ih
  intro v w hcost hn
  have hk : costL n.kids ≤ 1048576 := by rw [costN_eq] at hcost; omega
  exact toNode_of n (fun a c w h => toNodeS_of n.kids ih a c w hk h) v w hcost hn

theorem toNodeS_ok (l : List Nd) (a : Option Addr) (c : Nat) (w : World) (hcost : costL l ≤ 1048576) (hn : NodesR w any a c l) :
    Calls Try.prog 76 #[.slice a l.length c] w fun e w' => ∃ a' c' fp, e = .returned (.slice a' l.length c') ∧ Grow w w' ∧ NodesF w' a' c' l fp ∧ Free w.heap.size w' fp :=
  toNodeS_of l (fun k _ => toNode_ok k) a c w hcost hn

end Go.Proofs.Ytmeobmegnneegaa

/-
  How data lie in memory, put together from parts: texts, numbers, nodes, pairs, slices.
-/
namespace Go.Proofs.Ytmeobmegnneegaa
open Go Go.RowKit

/-- The cells from a place on. -/
def CellsAt (w : World) (b o : Nat) (cs : List Value) : Prop := ∀ i v, cs[i]? = some v → w.cell? ⟨b, o + i, none⟩ = some v

theorem CellsAt.ext {X : Nat → Prop} {w w' : World} (h : Ext X w w') {b o : Nat} (hb : ¬ X b) {cs : List Value} (hc : CellsAt w b o cs) : CellsAt w' b o cs :=
  fun i v hi => h.some (hc i v hi) hb
theorem CellsAt.keep {w w' : World} {b o : Nat} {cs : List Value} (hc : CellsAt w b o cs) (h : ∀ o', o ≤ o' → o' < o + cs.length → w'.cell? ⟨b, o', none⟩ = w.cell? ⟨b, o', none⟩) : CellsAt w' b o cs :=
  fun i v hi => by
    have := (List.getElem?_eq_some_iff.1 hi).1
    rw [h _ (by omega) (by omega)]; exact hc i v hi

/-- A way in which data of a type lie in memory: some cells, and what hangs on them. -/
structure Rep (α : Type) where
  n : Nat
  R : World → (Nat → Prop) → α → List Value → Prop
  F : World → α → List Value → List Nat → Prop
  rlen : ∀ {w S x cs}, R w S x cs → cs.length = n
  flen : ∀ {w x cs fp}, F w x cs fp → cs.length = n
  ext : ∀ {X S : Nat → Prop} {w w' x cs}, Ext X w w' → (∀ k, S k → ¬ X k) → R w S x cs → R w' S x cs
  mono : ∀ {S T : Nat → Prop} {w x cs}, (∀ k, S k → T k) → R w S x cs → R w T x cs
  lt : ∀ {S : Nat → Prop} {w x cs}, R w S x cs → R w (fun k => S k ∧ k < w.heap.size) x cs
  keep : ∀ {w w' x cs fp}, F w x cs fp → (∀ b ∈ fp, ∀ o, w'.cell? ⟨b, o, none⟩ = w.cell? ⟨b, o, none⟩) → F w' x cs fp
  toR : ∀ {S : Nat → Prop} {w x cs fp}, F w x cs fp → (∀ b ∈ fp, S b) → R w S x cs

theorem Rep.grow {α : Type} (E : Rep α) {S : Nat → Prop} {w w' : World} {x : α} {cs : List Value} (h : E.R w S x cs) (hg : Grow w w') : E.R w' S x cs := E.ext hg (fun _ _ h => h) h

def intRep : Rep Int where
  n := 1
  R := fun _ _ x cs => cs = [.int .i64 x]
  F := fun _ x cs fp => cs = [.int .i64 x] ∧ fp = []
  rlen := fun h => by rw [h]; rfl
  flen := fun h => by rw [h.1]; rfl
  ext := fun _ _ h => h
  mono := fun _ h => h
  lt := fun h => h
  keep := fun h _ => h
  toR := fun h _ => h.1

def boolRep : Rep Bool where
  n := 1
  R := fun _ _ x cs => cs = [.bool x]
  F := fun _ x cs fp => cs = [.bool x] ∧ fp = []
  rlen := fun h => by rw [h]; rfl
  flen := fun h => by rw [h.1]; rfl
  ext := fun _ _ h => h
  mono := fun _ h => h
  lt := fun h => h
  keep := fun h _ => h
  toR := fun h _ => h.1

def strRep : Rep ByteArray where
  n := 1
  R := fun _ _ x cs => cs = [.string x] ∧ x.size ≤ big
  F := fun _ x cs fp => cs = [.string x] ∧ x.size ≤ big ∧ fp = []
  rlen := fun h => by rw [h.1]; rfl
  flen := fun h => by rw [h.1]; rfl
  ext := fun _ _ h => h
  mono := fun _ h => h
  lt := fun h => h
  keep := fun h _ => h
  toR := fun h _ => ⟨h.1, h.2.1⟩

def pairRep {α β : Type} (A : Rep α) (B : Rep β) : Rep (α × β) where
  n := A.n + B.n
  R := fun w S x cs => ∃ c d, cs = c ++ d ∧ A.R w S x.1 c ∧ B.R w S x.2 d
  F := fun w x cs fp => ∃ c d f g, cs = c ++ d ∧ fp = f ++ g ∧ A.F w x.1 c f ∧ B.F w x.2 d g
  rlen := by rintro w S x cs ⟨c, d, rfl, h1, h2⟩; rw [List.length_append, A.rlen h1, B.rlen h2]
  flen := by rintro w x cs fp ⟨c, d, f, g, rfl, rfl, h1, h2⟩; rw [List.length_append, A.flen h1, B.flen h2]
  ext := by rintro X S w w' x cs h hS ⟨c, d, rfl, h1, h2⟩; exact ⟨c, d, rfl, A.ext h hS h1, B.ext h hS h2⟩
  mono := by rintro S T w x cs h ⟨c, d, rfl, h1, h2⟩; exact ⟨c, d, rfl, A.mono h h1, B.mono h h2⟩
  lt := by rintro S w x cs ⟨c, d, rfl, h1, h2⟩; exact ⟨c, d, rfl, A.lt h1, B.lt h2⟩
  keep := by rintro w w' x cs fp ⟨c, d, f, g, rfl, rfl, h1, h2⟩ h; exact ⟨c, d, f, g, rfl, rfl, A.keep h1 (fun b hb => h b (by simp [hb])), B.keep h2 (fun b hb => h b (by simp [hb]))⟩
  toR := by rintro S w x cs fp ⟨c, d, f, g, rfl, rfl, h1, h2⟩ h; exact ⟨c, d, rfl, A.toR h1 (fun b hb => h b (by simp [hb])), B.toR h2 (fun b hb => h b (by simp [hb]))⟩

section slices
variable {α : Type} (E : Rep α)

/-- A slice of data. -/
def SlR (w : World) (S : Nat → Prop) (a : Option Addr) (c : Nat) (l : List α) : Prop :=
  l.length ≤ c ∧ l.length ≤ big ∧ (l = [] ∨ ∃ b o, a = some ⟨b, o, none⟩ ∧ S b ∧ ∀ i (h : i < l.length), ∃ cs, CellsAt w b (o + i * E.n) cs ∧ E.R w S l[i] cs)

/-- A row of data that own their memory. -/
def RowF (w : World) (b : Nat) : Nat → List α → List Nat → Prop
  | _, [], fp => fp = []
  | o, x :: l, fp => ∃ f1 f2 cs, fp = f1 ++ f2 ∧ CellsAt w b o cs ∧ E.F w x cs f1 ∧ RowF w b (o + E.n) l f2

/-- A slice of data that owns its memory. -/
def SlF (w : World) (a : Option Addr) (c : Nat) (l : List α) (fp : List Nat) : Prop :=
  l.length ≤ c ∧ l.length ≤ big ∧ ((l = [] ∧ fp = []) ∨ ∃ b o f, l ≠ [] ∧ a = some ⟨b, o, none⟩ ∧ fp = b :: f ∧ RowF E w b o l f)

variable {E}

theorem RowF.keep {w w' : World} {b : Nat} : ∀ {l : List α} {o : Nat} {fp : List Nat}, RowF E w b o l fp → (∀ x ∈ fp, ∀ o', w'.cell? ⟨x, o', none⟩ = w.cell? ⟨x, o', none⟩) →
    (∀ o', o ≤ o' → o' < o + l.length * E.n → w'.cell? ⟨b, o', none⟩ = w.cell? ⟨b, o', none⟩) → RowF E w' b o l fp
  | [], _, _, hk, _, _ => hk
  | x :: l, o, fp, hk, h, hb => by
    obtain ⟨f1, f2, cs, rfl, hc, hx, hr⟩ := hk
    have hl := E.flen hx
    have e : (x :: l).length * E.n = l.length * E.n + E.n := by simp [Nat.succ_mul]
    rw [e] at hb
    exact ⟨f1, f2, cs, rfl, hc.keep (fun o' h1 h2 => hb o' h1 (by omega)), E.keep hx (fun b hb => h b (by simp [hb])), RowF.keep hr (fun b hb => h b (by simp [hb])) (fun o' h1 h2 => hb o' (by omega) (by omega))⟩

theorem RowF.toR {S : Nat → Prop} {w : World} {b : Nat} : ∀ {l : List α} {o : Nat} {fp : List Nat}, RowF E w b o l fp → (∀ x ∈ fp, S x) → ∀ i (h : i < l.length), ∃ cs, CellsAt w b (o + i * E.n) cs ∧ E.R w S l[i] cs
  | [], _, _, _, _, i, h => absurd h (by simp)
  | x :: l, o, fp, hk, h, 0, _ => by
    obtain ⟨f1, f2, cs, rfl, hc, hx, _⟩ := hk
    exact ⟨cs, by simpa using hc, E.toR hx (fun b hb => h b (by simp [hb]))⟩
  | x :: l, o, fp, hk, h, i + 1, hi => by
    obtain ⟨f1, f2, cs, rfl, _, _, hr⟩ := hk
    have := RowF.toR hr (fun b hb => h b (by simp [hb])) i (by simpa using hi)
    rw [show o + (i + 1) * E.n = o + E.n + i * E.n by rw [Nat.succ_mul]; omega]
    simpa using this

theorem SlF.keep {w w' : World} {a : Option Addr} {c : Nat} {l : List α} {fp : List Nat} (hs : SlF E w a c l fp)
    (h : ∀ b ∈ fp, ∀ o, w'.cell? ⟨b, o, none⟩ = w.cell? ⟨b, o, none⟩) : SlF E w' a c l fp := by
  obtain ⟨h1, h2, h4⟩ := hs
  refine ⟨h1, h2, h4.imp id ?_⟩
  rintro ⟨b, o, f, hne, rfl, rfl, hc⟩
  exact ⟨b, o, f, hne, rfl, rfl, hc.keep (fun x hx => h x (by simp [hx])) (fun o' _ _ => h b (by simp) o')⟩

theorem SlF.toR {S : Nat → Prop} {w : World} {a : Option Addr} {c : Nat} {l : List α} {fp : List Nat} (hs : SlF E w a c l fp) (hS : ∀ b ∈ fp, S b) : SlR E w S a c l := by
  obtain ⟨h1, h2, h4⟩ := hs
  refine ⟨h1, h2, h4.imp (fun h => h.1) ?_⟩
  rintro ⟨b, o, f, _, rfl, rfl, hc⟩
  exact ⟨b, o, rfl, hS b (by simp), hc.toR (fun x hx => hS x (by simp [hx]))⟩

theorem SlR.ext {X S : Nat → Prop} {w w' : World} (h : Ext X w w') (hS : ∀ k, S k → ¬ X k) {a : Option Addr} {c : Nat} {l : List α} (hs : SlR E w S a c l) : SlR E w' S a c l := by
  obtain ⟨h1, h2, h4⟩ := hs
  refine ⟨h1, h2, h4.imp id ?_⟩
  rintro ⟨b, o, rfl, hb, hc⟩
  exact ⟨b, o, rfl, hb, fun i hi => by obtain ⟨cs, h1, h2⟩ := hc i hi; exact ⟨cs, h1.ext h (hS b hb), E.ext h hS h2⟩⟩
theorem SlR.grow {S : Nat → Prop} {w w' : World} {a : Option Addr} {c : Nat} {l : List α} (hs : SlR E w S a c l) (h : Grow w w') : SlR E w' S a c l := hs.ext h (fun _ _ h => h)
theorem SlR.mono {S T : Nat → Prop} {w : World} (h : ∀ k, S k → T k) {a : Option Addr} {c : Nat} {l : List α} (hs : SlR E w S a c l) : SlR E w T a c l := by
  obtain ⟨h1, h2, h4⟩ := hs
  refine ⟨h1, h2, h4.imp id ?_⟩
  rintro ⟨b, o, rfl, hb, hc⟩
  exact ⟨b, o, rfl, h b hb, fun i hi => by obtain ⟨cs, h1, h2⟩ := hc i hi; exact ⟨cs, h1, E.mono h h2⟩⟩

theorem CellsAt.lt {w : World} {b o : Nat} {cs : List Value} (hc : CellsAt w b o cs) (h : cs ≠ []) : b < w.heap.size := by
  cases cs with
  | nil => exact absurd rfl h
  | cons v vs => exact lt_of_cell (hc 0 v rfl)

/-- A row, one more at its end. -/
theorem RowF.snoc {w : World} {b : Nat} {x : α} {cs : List Value} {f' : List Nat} : ∀ {l : List α} {o : Nat} {fp : List Nat}, RowF E w b o l fp → CellsAt w b (o + l.length * E.n) cs → E.F w x cs f' → RowF E w b o (l ++ [x]) (fp ++ f')
  | [], o, fp, hk, hc, hx => by
    cases hk
    exact ⟨f', [], cs, by simp, by simpa using hc, hx, rfl⟩
  | y :: l, o, fp, hk, hc, hx => by
    obtain ⟨f1, f2, cs', rfl, h1, h2, hr⟩ := hk
    have e : o + (y :: l).length * E.n = o + E.n + l.length * E.n := by simp [Nat.succ_mul]; omega
    rw [e] at hc
    exact ⟨f1, f2 ++ f', cs', by simp, h1, h2, RowF.snoc hr hc hx⟩

/-- Data are laid at the end of a row. -/
theorem RowF.lay {w : World} {b n : Nat} {l : List α} {x : α} {cs : List Value} {fp f' : List Nat} (hr : RowIn w b n) (hk : RowF E w b 0 l fp) (hn : E.F w x cs f') (hlen : (l.length + 1) * E.n ≤ n) (h1 : b ∉ fp) (h2 : b ∉ f') :
    RowF E (storeL w b (l.length * E.n) cs) b 0 (l ++ [x]) (fp ++ f') := by
  have hcl := E.flen hn
  rw [Nat.succ_mul] at hlen
  have hl : l.length * E.n + cs.length ≤ n := by omega
  have other := fun x hx o => storeL_elsewhere b cs w (l.length * E.n) x o hx
  refine RowF.snoc (hk.keep (fun x hx o => other x (fun e => h1 (e ▸ hx)) o) (fun o' _ ho => storeL_below hr hl o' (by omega))) ?_ (E.keep hn (fun x hx o => other x (fun e => h2 (e ▸ hx)) o))
  intro i v hi
  rw [Nat.zero_add]
  exact storeL_at hr hl i v hi
end slices

/-- Slices as data. -/
def slRep {α : Type} (E : Rep α) (h0 : 0 < E.n) : Rep (List α) where
  n := 1
  R := fun w S l cs => ∃ a c, cs = [.slice a l.length c] ∧ SlR E w S a c l
  F := fun w l cs fp => ∃ a c, cs = [.slice a l.length c] ∧ SlF E w a c l fp
  rlen := by rintro w S x cs ⟨a, c, rfl, _⟩; rfl
  flen := by rintro w x cs fp ⟨a, c, rfl, _⟩; rfl
  ext := by rintro X S w w' x cs h hS ⟨a, c, rfl, hs⟩; exact ⟨a, c, rfl, hs.ext h hS⟩
  mono := by rintro S T w x cs h ⟨a, c, rfl, hs⟩; exact ⟨a, c, rfl, hs.mono h⟩
  lt := by
    rintro S w l cs ⟨a, c, rfl, h1, h2, h3⟩
    refine ⟨a, c, rfl, h1, h2, ?_⟩
    rcases Nat.eq_zero_or_pos l.length with hl | hl
    · exact .inl (List.length_eq_zero_iff.1 hl)
    rcases h3 with h3 | ⟨b, o, rfl, hb, hc⟩
    · exact .inl h3
    · refine .inr ⟨b, o, rfl, ⟨hb, ?_⟩, fun i hi => by obtain ⟨cs, h1, h2⟩ := hc i hi; exact ⟨cs, h1, E.lt h2⟩⟩
      obtain ⟨cs, h1, h2⟩ := hc 0 hl
      exact h1.lt (by intro e; have := E.rlen h2; rw [e] at this; simp at this; omega)
  keep := by rintro w w' x cs fp ⟨a, c, rfl, hs⟩ h; exact ⟨a, c, rfl, hs.keep h⟩
  toR := by rintro S w x cs fp ⟨a, c, rfl, hs⟩ h; exact ⟨a, c, rfl, hs.toR h⟩

end Go.Proofs.Ytmeobmegnneegaa

/-
  Ascending texts, and the walk of slices.BinarySearch at texts.
-/
namespace Go.Proofs.Ytmeobmegnneegaa
open Go.RowKit

/-- Texts that ascend. -/
def Asc (xs : List ByteArray) : Prop := ∀ i j (hi : i < xs.length) (hj : j < xs.length), i < j → lt xs[i] xs[j] = true

theorem namesFrom_asc : ∀ (p : Option ByteArray) (xs : List ByteArray), namesFrom p xs = true → Asc xs ∧ ∀ y, p = some y → ∀ i (h : i < xs.length), lt y xs[i] = true
  | p, [], _ => ⟨fun i j hi => absurd hi (by simp), fun y _ i h => absurd h (by simp)⟩
  | p, x :: r, h => by
    simp only [namesFrom, Bool.and_eq_true] at h
    obtain ⟨⟨_, h2⟩, h3⟩ := h
    obtain ⟨ha, hb⟩ := namesFrom_asc (some x) r h3
    have hb := hb x rfl
    refine ⟨fun i j hi hj hij => ?_, fun y hy i hi => ?_⟩
    · cases j with
      | zero => omega
      | succ j =>
        cases i with
        | zero => exact hb j (by simpa using hj)
        | succ i => exact ha i j (by simpa using hi) (by simpa using hj) (by omega)
    · subst hy
      simp only at h2
      cases i with
      | zero => exact h2
      | succ i => exact bl_trans _ _ _ h2 (hb i (by simpa using hi))

theorem namesB_asc {xs : List ByteArray} (h : namesB xs = true) : Asc xs := (namesFrom_asc none xs h).1

/-- How many texts are less. -/
def lbound (xs : List ByteArray) (s : ByteArray) : Nat := xs.countP (fun x => lt x s)
def mem (xs : List ByteArray) (s : ByteArray) : Bool := xs.any fun x => decide (x = s)
theorem mem_iff {xs : List ByteArray} {s : ByteArray} : mem xs s = true ↔ s ∈ xs := by
  unfold mem; simp
theorem mem_no {xs : List ByteArray} {s : ByteArray} (h : ¬ s ∈ xs) : mem xs s = false := by
  cases h' : mem xs s
  · rfl
  · exact absurd (mem_iff.1 h') h
theorem lt_irr (x : ByteArray) : lt x x = false := bl_irrefl _

theorem lb_of {xs : List ByteArray} {s : ByteArray} {k : Nat} (hk : k ≤ xs.length) (h1 : ∀ t (h : t < xs.length), t < k → lt xs[t] s = true) (h2 : ∀ t (h : t < xs.length), k ≤ t → lt xs[t] s = false) : lbound xs s = k := by
  unfold lbound
  conv => lhs; rw [← List.take_append_drop k xs]
  rw [List.countP_append]
  have e1 : (xs.take k).countP (fun x => lt x s) = k := by
    rw [List.countP_eq_length.2, List.length_take, Nat.min_eq_left hk]
    intro a ha
    obtain ⟨i, hi, rfl⟩ := List.getElem_of_mem ha
    rw [List.getElem_take]
    exact h1 i (by simp at hi; omega) (by simp at hi; omega)
  have e2 : (xs.drop k).countP (fun x => lt x s) = 0 := by
    rw [List.countP_eq_zero]
    intro a ha
    obtain ⟨i, hi, rfl⟩ := List.getElem_of_mem ha
    rw [List.getElem_drop]
    simpa using h2 (k + i) (by simp at hi; omega) (by omega)
  omega

theorem lb_end {xs : List ByteArray} {s : ByteArray} {k : Nat} (ha : Asc xs) (hk : k ≤ xs.length) (h1 : ∀ t (h : t < xs.length), t < k → lt xs[t] s = true) (h2 : ∀ t (h : t < xs.length), k ≤ t → lt xs[t] s = false) :
    lbound xs s = k ∧ (∀ h : k < xs.length, mem xs s = decide (xs[k] = s)) ∧ (¬ k < xs.length → mem xs s = false) := by
  refine ⟨lb_of hk h1 h2, fun h => ?_, fun h => ?_⟩
  · by_cases e : xs[k] = s
    · have : s ∈ xs := e ▸ List.getElem_mem h
      rw [mem_iff.2 this]; simp [e]
    · have : ¬ s ∈ xs := by
        intro hm
        obtain ⟨i, hi, rfl⟩ := List.getElem_of_mem hm
        rcases Nat.lt_trichotomy i k with h' | h' | h'
        · have := h1 i hi h'; rw [lt_irr] at this; cases this
        · subst h'; exact e rfl
        · have := ha k i h hi h'; have := h2 k h (Nat.le_refl _); simp_all
      rw [mem_no this]; simp [e]
  · have : ¬ s ∈ xs := by
      intro hm
      obtain ⟨i, hi, rfl⟩ := List.getElem_of_mem hm
      have := h1 i hi (by omega); rw [lt_irr] at this; cases this
    exact mem_no this

end Go.Proofs.Ytmeobmegnneegaa

/-
  The walk of impl.nameIn.
-/
namespace Go.Proofs.Ytmeobmegnneegaa
open Go.RowKit

/-- The node without a value. -/
def Nd.zero : Nd := ⟨0, 0, ⟨#[]⟩, [], []⟩
theorem zeroNodeR (w : World) (S : Nat → Prop) : NodeR w S Nd.zero (.agg #[.int .i64 0, .int .i64 0, .string ⟨#[]⟩, .slice none 0 0, .slice none 0 0]) :=
  ⟨none, 0, none, 0, rfl, NodeC.mk (Nat.zero_le _) ⟨Nat.le_refl _, Nat.zero_le _, by simp [Nd.zero], .inl rfl⟩ ⟨Nat.le_refl _, Nat.zero_le _, .inl rfl⟩⟩

theorem lb_lt {xs : List ByteArray} {s : ByteArray} (ha : Asc xs) (h : mem xs s = true) : ∃ h : lbound xs s < xs.length, xs[lbound xs s] = s := by
  obtain ⟨i, hi, rfl⟩ := List.getElem_of_mem (mem_iff.1 h)
  have : lbound xs xs[i] = i := by
    refine lb_of (Nat.le_of_lt hi) (fun t ht hti => ha t i ht hi hti) (fun t ht hti => ?_)
    rcases Nat.eq_or_lt_of_le hti with rfl | h'
    · exact lt_irr _
    · exact bl_asymm _ _ (ha i t hi ht h')
  exact ⟨by rw [this]; exact hi, by simp only [this]⟩

/-- The node under a name. -/
def kidOf (n : Nd) (s : ByteArray) : Nd := if mem n.names s then n.kids[lbound n.names s]?.getD Nd.zero else Nd.zero

theorem kidOf_no {n : Nd} {s : ByteArray} (h : mem n.names s = false) : kidOf n s = Nd.zero := by simp [kidOf, h]
theorem kidOf_yes {n : Nd} {s : ByteArray} (h : mem n.names s = true) (hl : lbound n.names s < n.kids.length) : kidOf n s = n.kids[lbound n.names s] := by simp [kidOf, h, hl]
theorem kidOf_mem {n : Nd} {s : ByteArray} (ha : Asc n.names) (hl : n.names.length ≤ n.kids.length) (h : mem n.names s = true) : kidOf n s ∈ n.kids := by
  obtain ⟨h1, _⟩ := lb_lt ha h
  rw [kidOf_yes h (by omega)]
  exact List.getElem_mem _

end Go.Proofs.Ytmeobmegnneegaa

/-
  The walk of spec.decimal at one digit, and of spec.place.
-/
namespace Go.Proofs.Ytmeobmegnneegaa
open Go.RowKit

/-- A text of bytes. -/
def txt (l : List UInt8) : ByteArray := ⟨l.toArray⟩
/-- The digit of a number below ten. -/
def dig1 (k : Nat) : List UInt8 := [48 + k.toUInt8]

theorem dig_nat (k : Nat) (hk : k < 10) : (((48 + k.toUInt8 : UInt8)).toNat : Int) = 48 + (k : Int) := by
  have h1 : (48 + k.toUInt8 : UInt8).toNat = 48 + k := by
    rw [UInt8.toNat_add]
    have : (k.toUInt8).toNat = k := by simp; omega
    rw [this]
    show (48 + k) % 256 = _
    omega
  rw [h1]; simp

theorem conv1 (k : Nat) (hk : k < 10) (w : World) : (convert 46 9 (.slice (some ⟨w.heap.size, 0, none⟩) 1 1)).run Try.prog (w.alloc (.cells #[.int .u8 (48 + (k : Int))] 5)) =
    .ok (.string (txt (dig1 k))) (w.alloc (.cells #[.int .u8 (48 + (k : Int))] 5)) := by
  refine run_convert_bytes_back (P := Try.prog) _ 46 9 5 ⟨w.heap.size, 0, none⟩ 1 (dig1 k) Try.underlying46 Try.underlying5 Try.underlying9 ?_
  intro j hj
  simp only [dig1, List.length_cons, List.length_nil] at hj
  obtain rfl : j = 0 := by omega
  show (w.alloc _).cell? ⟨w.heap.size, 0 + 0, none⟩ = _
  rw [World.cell?_alloc_new]
  simp [dig1]; omega

set_option maxRecDepth 100000 in
set_option maxHeartbeats 1000000 in
theorem decimal_small (k : Nat) (w : World) (hk : k < 10) :
    Calls Try.prog 146 #[.int .i64 (k : Int)] w fun e w' => e = .returned (.string (txt (dig1 k))) ∧ Grow w w' := by
  have hcv := conv1 k hk w
  go_enter Try.func146, Try.ntmps146
  go_wp2_with fail
  go_ret
  exact ⟨rfl, (by repeat (first | with_reducible exact Ext.refl _ _ | with_reducible refine Ext.trans ?_ (by assumption) | with_reducible refine Ext.drew ?_ | with_reducible refine Ext.drewN ?_ _ | with_reducible refine Ext.alloc ?_ _ | with_reducible refine Ext.setNew ?_ (by simp; done) _ | with_reducible refine Ext.setNew ?_ (by simp; omega) _))⟩

/-- Whether the step leads to place i. -/
def hit (n : Nd) (s : ByteArray) (i : Nat) : Bool := if n.kind = 4 then decide (n.names[i]? = some s) else if n.kind = 3 then decide (txt (dig1 i) = s) else false
def placeFrom (n : Nd) (s : ByteArray) : Nat → Nat → Int
  | _, 0 => -1
  | i, m + 1 => if hit n s i then (i : Int) else placeFrom n s (i + 1) m
/-- The place of a step, -1 if there is none. -/
def placeOf (n : Nd) (s : ByteArray) : Int := placeFrom n s 0 n.kids.length

theorem placeFrom_step (n : Nd) (s : ByteArray) {k : Nat} (h : k < n.kids.length) : placeFrom n s k (n.kids.length - k) = if hit n s k then (k : Int) else placeFrom n s (k + 1) (n.kids.length - (k + 1)) := by
  obtain ⟨m, hm⟩ : ∃ m, n.kids.length - k = m + 1 := ⟨n.kids.length - k - 1, by omega⟩
  rw [hm, placeFrom, show n.kids.length - (k + 1) = m by omega]

set_option maxRecDepth 100000 in
set_option maxHeartbeats 4000000 in
theorem place_ok (n : Nd) (s : ByteArray) (v : Value) (w : World) (hm : n.kind = 4 → n.kids.length ≤ n.names.length) (h6 : n.kids.length ≤ 9) (hn : NodeR w any n v) :
    Calls Try.prog 143 #[v, .string s] w fun e w' => e = .returned (.int .i64 (placeOf n s)) ∧ Grow w w' := by
  obtain ⟨na, nc, ka, kc, rfl, hc⟩ := hn
  obtain ⟨htx, hns, hks⟩ := hc.parts
  have hnl : n.names.length ≤ 9223372036854775807 := hns.2.1
  have Hns := Lib.hid hns
  have HM := Lib.hid hm
  clear hc htx hns hks hm
  unfold nodeV
  go_enter Try.func143, Try.ntmps143
  go_wp2
  go_loopw [4, 5] (fun n4 i wr => n4 = .int .i64 0 ∧ Grow (w.alloc (.cells #[.int .i64 n.kind, .int .i64 n.num, .string n.text, .slice na n.names.length nc, .slice ka n.kids.length kc] 39)) wr ∧ ∃ k : Nat, k ≤ n.kids.length ∧ i = .int .i64 k ∧ placeOf n s = placeFrom n s k (n.kids.length - k)) (fun _ i _ => n.kids.length - (intOf i).toNat)
  case atStart => exact ⟨rfl, Ext.refl _ _, 0, Nat.zero_le _, rfl, rfl⟩
  case round =>
    obtain ⟨rfl, hg, k, hk, rfl, hr⟩ := hrel
    have Hr := Lib.hid hr
    clear hr
    have hcc := bcell hg
    have hg0 : Grow w wr := ((Ext.refl _ _).alloc _).trans hg
    by_cases hlt : k < n.kids.length
    · have Hst := Lib.hid (placeFrom_step n s hlt)
      have hh := Lib.hid (show hit n s k = if n.kind = 4 then decide (n.names[k]? = some s) else if n.kind = 3 then decide (txt (dig1 k) = s) else false from rfl)
      by_cases k4 : n.kind = 4
      · have hkn : k < n.names.length := by have := HM.out k4; omega
        rcases ((Hns.out).ext hg0 (fun _ _ h => h)).2.2.2 with hh0 | ⟨ba, oa, rfl, _, hca⟩
        · rw [hh0] at hkn; simp at hkn
        have cm := hca k hkn
        have b4 : (n.kind == 4) = true := by simp [k4]
        have hb := beq_toList n.names[k] s
        clear hca
        cases hd : decide (n.names[k] = s)
        · have Hh : Hid (hit n s k = false) := Lib.hid (by rw [hh.out, if_pos k4]; simpa [hkn] using hd)
          have b3 : (n.kind == 3) = false := by simp [k4]
          rw [hd] at hb
          clear hd k4
          go_wp2
          go_roundw
          case rel => exact ⟨rfl, hg, k + 1, by omega, by go_num, by rw [Hr.out, Hst.out, Hh.out]; rfl⟩
          case measure => simp [intOf]; omega
        · have Hh : Hid (hit n s k = true) := Lib.hid (by rw [hh.out, if_pos k4]; simpa [hkn] using hd)
          rw [hd] at hb
          clear hd k4
          go_wp2
          go_ret
          exact ⟨by rw [Hr.out, Hst.out, Hh.out]; rfl, hg0⟩
      · have b4 : (n.kind == 4) = false := by simp [k4]
        by_cases k3 : n.kind = 3
        · have b3 : (n.kind == 3) = true := by simp [k3]
          have hb := beq_toList (txt (dig1 k)) s
          cases hd : decide (txt (dig1 k) = s)
          · have Hh : Hid (hit n s k = false) := Lib.hid (by rw [hh.out, if_neg k4, if_pos k3, hd])
            rw [hd] at hb
            clear hd k4 k3
            go_wp2_with (go_at_call 146; refine (decimal_small k _ (by omega)).mono ?_; rintro e w2 ⟨rfl, hg2⟩)
            go_roundw
            case rel => exact ⟨rfl, hg.trans hg2, k + 1, by omega, by go_num, by rw [Hr.out, Hst.out, Hh.out]; rfl⟩
            case measure => simp [intOf]; omega
          · have Hh : Hid (hit n s k = true) := Lib.hid (by rw [hh.out, if_neg k4, if_pos k3, hd])
            rw [hd] at hb
            clear hd k4 k3
            go_wp2_with (go_at_call 146; refine (decimal_small k _ (by omega)).mono ?_; rintro e w2 ⟨rfl, hg2⟩)
            go_ret
            exact ⟨by rw [Hr.out, Hst.out, Hh.out]; rfl, hg0.trans hg2⟩
        · have b3 : (n.kind == 3) = false := by simp [k3]
          have Hh : Hid (hit n s k = false) := Lib.hid (by rw [hh.out, if_neg k4, if_neg k3])
          clear k4 k3
          go_wp2
          go_roundw
          case rel => exact ⟨rfl, hg, k + 1, by omega, by go_num, by rw [Hr.out, Hst.out, Hh.out]; rfl⟩
          case measure => simp [intOf]; omega
    · go_wp2
      go_ret
      exact ⟨by rw [Hr.out, show n.kids.length - k = 0 by omega]; rfl, hg0⟩

end Go.Proofs.Ytmeobmegnneegaa

/-
  A region that draws its order and whose calls only make memory: one walk in the order of the text, in whatever later world.
-/
namespace Go.Proofs.Ytmeobmegnneegaa
open Go Go.RowKit

/-- Some later world. -/
structure Later (w : World) : Type where
  at' : World
  grown : Grow w at'
def later (w : World) (x : Later w) : World := x.at'
instance later_some (w : World) : Nonempty (Later w) := ⟨⟨w, Ext.refl _ _⟩⟩
theorem later_grow (w : World) (x : Later w) : Grow w (later w x) := x.grown

@[go_sem] theorem later_cell (w : World) (x : Later w) (a : Addr) (h : (w.cell? a).isSome = true) : (later w x).cell? a = w.cell? a := by
  obtain ⟨v, hv⟩ := Option.isSome_iff_exists.1 h
  rw [hv]; exact (later_grow w x).some hv

theorem wp_region_later {P : Program} {id : Nat} {Q : Exit → Act → World → Prop} {a : Act} {w : World} {l : List Oper} (hm : P.follows .mixedOrders = true) (hB : Region.lexB .any l.toArray = true)
    (h : wpQuiet P l.toArray (fun w' => ∃ x, w' = later w x) (fun a' => ∀ w', (∃ x, w' = later w x) → Q .normal a' w') l a) : (Code.region id l.toArray true).wp P Q a w :=
  wp_region_quiet (C := fun w' => ∃ x, w' = later w x) hm hB ⟨⟨w.drew, (Ext.refl _ _).drew⟩, rfl⟩ (by simpa using h)

/-- A call in a later world that leaves a later one. -/
theorem later_call {P : Program} {f : FuncId} {args : Array Value} {w : World} {x : Later w} {v : Value}
    (h : Calls P f args (later w x) fun e w' => e = .returned v ∧ Grow (later w x) w') : Calls P f args (later w x) fun e w'' => e = .returned v ∧ ∃ y, w'' = later w y :=
  h.mono fun _ w' ⟨he, hg⟩ => ⟨he, ⟨w', (later_grow w x).trans hg⟩, rfl⟩
theorem later_call_same {P : Program} {f : FuncId} {args : Array Value} {w : World} {x : Later w} {v : Value}
    (h : Calls P f args (later w x) fun e w' => e = .returned v ∧ w' = later w x) : Calls P f args (later w x) fun e w'' => e = .returned v ∧ ∃ y, w'' = later w y :=
  h.mono fun _ _ ⟨he, hg⟩ => ⟨he, x, hg⟩

end Go.Proofs.Ytmeobmegnneegaa
