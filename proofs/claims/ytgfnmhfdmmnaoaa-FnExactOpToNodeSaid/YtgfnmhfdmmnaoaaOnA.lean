/-
  Texts of this claim, joined.
-/
import Derived.WalkKit
import Derived.WalkSpells
import Derived.WalkLawsBesides
import Derived.Lib.Hide
import Derived.Test.YtgfnmhfdmmnaoaaRows
import Derived.ProofKit
import Derived.Laws.OwnMore
import Derived.Laws.Tables

set_option linter.unusedSimpArgs false
set_option linter.unusedVariables false
set_option linter.unnecessarySimpa false
set_option maxRecDepth 100000
set_option maxHeartbeats 16000000
namespace Go.Proofs.Ytgfnmhfdmmnaoaa
open Go Go.RowKit
structure Nd where
  kind : Int
  num : Int
  text : ByteArray
  names : List ByteArray
  kids : List Nd
theorem Nd.ind (P : Nd → Prop) (h : ∀ kind num text names kids, (∀ k ∈ kids, P k) → P ⟨kind, num, text, names, kids⟩) : ∀ n, P n := by
  intro n
  refine Nd.rec (motive_1 := P) (motive_2 := fun l => ∀ k ∈ l, P k) ?_ ?_ ?_ n
  · intro kind num text names kids ih
    exact h _ _ _ _ _ ih
  · intro k hk; cases hk
  · intro k ks h1 h2 x hx
    rcases List.mem_cons.1 hx with rfl | hx
    · exact h1
    · exact h2 _ hx
theorem Nd.ind' (P : Nd → Prop) (h : ∀ n : Nd, (∀ k ∈ n.kids, P k) → P n) : ∀ n, P n :=
  Nd.ind P (fun kind num text names kids ih => h ⟨kind, num, text, names, kids⟩ ih)
def any (_ : Nat) : Prop := True
def big : Nat := 9223372036854775807
def StrsR (w : World) (S : Nat → Prop) (a : Option Addr) (c : Nat) (xs : List ByteArray) : Prop :=
  xs.length ≤ c ∧ xs.length ≤ big ∧ (∀ x ∈ xs, x.size ≤ big) ∧ (xs = [] ∨ ∃ b o, a = some ⟨b, o, none⟩ ∧ S b ∧ ∀ i (h : i < xs.length), w.cell? ⟨b, o + i, none⟩ = some (.string xs[i]))
mutual
def NodeC (w : World) (S : Nat → Prop) : Nd → Option Addr → Nat → Option Addr → Nat → Prop
  | ⟨_, _, text, names, kids⟩, na, nc, ka, kc => text.size ≤ big ∧ StrsR w S na nc names ∧ kids.length ≤ kc ∧ kids.length ≤ big ∧ (kids = [] ∨ ∃ b o, ka = some ⟨b, o, none⟩ ∧ S b ∧ KidsR w S b o kids)
def KidsR (w : World) (S : Nat → Prop) (b : Nat) : Nat → List Nd → Prop
  | _, [] => True
  | o, k :: ks => (∃ na nc ka kc, w.cell? ⟨b, o, none⟩ = some (.int .i64 k.kind) ∧ w.cell? ⟨b, o + 1, none⟩ = some (.int .i64 k.num) ∧ w.cell? ⟨b, o + 2, none⟩ = some (.string k.text) ∧
      w.cell? ⟨b, o + 3, none⟩ = some (.slice na k.names.length nc) ∧ w.cell? ⟨b, o + 4, none⟩ = some (.slice ka k.kids.length kc) ∧ NodeC w S k na nc ka kc) ∧ KidsR w S b (o + 5) ks
end
def nodeV (n : Nd) (na : Option Addr) (nc : Nat) (ka : Option Addr) (kc : Nat) : Value :=
  .agg #[.int .i64 n.kind, .int .i64 n.num, .string n.text, .slice na n.names.length nc, .slice ka n.kids.length kc]
def NodeR (w : World) (S : Nat → Prop) (n : Nd) (v : Value) : Prop := ∃ na nc ka kc, v = nodeV n na nc ka kc ∧ NodeC w S n na nc ka kc
def NodesR (w : World) (S : Nat → Prop) (a : Option Addr) (c : Nat) (l : List Nd) : Prop :=
  l.length ≤ c ∧ l.length ≤ big ∧ (l = [] ∨ ∃ b o, a = some ⟨b, o, none⟩ ∧ S b ∧ KidsR w S b o l)
theorem KidsR.get {w : World} {S : Nat → Prop} {b : Nat} : ∀ {l : List Nd} {o : Nat}, KidsR w S b o l → ∀ i (h : i < l.length), ∃ na nc ka kc,
    w.cell? ⟨b, o + i * 5, none⟩ = some (.int .i64 l[i].kind) ∧ w.cell? ⟨b, o + i * 5 + 1, none⟩ = some (.int .i64 l[i].num) ∧ w.cell? ⟨b, o + i * 5 + 2, none⟩ = some (.string l[i].text) ∧
      w.cell? ⟨b, o + i * 5 + 3, none⟩ = some (.slice na l[i].names.length nc) ∧ w.cell? ⟨b, o + i * 5 + 4, none⟩ = some (.slice ka l[i].kids.length kc) ∧ NodeC w S l[i] na nc ka kc
  | [], _, _, i, h => absurd h (by simp)
  | k :: ks, o, hk, 0, _ => by
    unfold KidsR at hk
    simpa using hk.1
  | k :: ks, o, hk, i + 1, h => by
    unfold KidsR at hk
    have := KidsR.get hk.2 i (by simpa using h)
    simp only [List.getElem_cons_succ]
    have e : o + (i + 1) * 5 = o + 5 + i * 5 := by omega
    rw [e]
    exact this
theorem KidsR.of_get {w : World} {S : Nat → Prop} {b : Nat} : ∀ {l : List Nd} {o : Nat}, (∀ i (h : i < l.length), ∃ na nc ka kc,
    w.cell? ⟨b, o + i * 5, none⟩ = some (.int .i64 l[i].kind) ∧ w.cell? ⟨b, o + i * 5 + 1, none⟩ = some (.int .i64 l[i].num) ∧ w.cell? ⟨b, o + i * 5 + 2, none⟩ = some (.string l[i].text) ∧
      w.cell? ⟨b, o + i * 5 + 3, none⟩ = some (.slice na l[i].names.length nc) ∧ w.cell? ⟨b, o + i * 5 + 4, none⟩ = some (.slice ka l[i].kids.length kc) ∧ NodeC w S l[i] na nc ka kc) → KidsR w S b o l
  | [], _, _ => by unfold KidsR; trivial
  | k :: ks, o, h => by
    unfold KidsR
    have h0 := h 0 (by simp)
    simp only [Nat.zero_mul, Nat.add_zero, List.getElem_cons_zero] at h0
    refine ⟨h0, KidsR.of_get (fun i hi => ?_)⟩
    have := h (i + 1) (by simpa using hi)
    have e : o + (i + 1) * 5 = o + 5 + i * 5 := by omega
    rw [e] at this
    simp only [List.getElem_cons_succ] at this
    exact this
theorem NodeC.parts {w : World} {S : Nat → Prop} {n : Nd} {na : Option Addr} {nc : Nat} {ka : Option Addr} {kc : Nat} (h : NodeC w S n na nc ka kc) :
    n.text.size ≤ big ∧ StrsR w S na nc n.names ∧ NodesR w S ka kc n.kids := by
  cases n; unfold NodeC at h; exact ⟨h.1, h.2.1, h.2.2⟩
theorem NodeC.mk {w : World} {S : Nat → Prop} {n : Nd} {na : Option Addr} {nc : Nat} {ka : Option Addr} {kc : Nat} 
    (h1 : n.text.size ≤ big) (h2 : StrsR w S na nc n.names) (h3 : NodesR w S ka kc n.kids) : NodeC w S n na nc ka kc := by
  cases n; unfold NodeC; exact ⟨h1, h2, h3⟩
structure Ext (X : Nat → Prop) (w w' : World) : Prop where
  os : w'.os = w.os
  tape : w'.tape = w.tape
  output : w'.output = w.output
  size : w.heap.size ≤ w'.heap.size
  block : ∀ k, k < w.heap.size → ¬ X k → w'.heap[k]? = w.heap[k]?
def nil (_ : Nat) : Prop := False
abbrev Grow (w w' : World) : Prop := Ext nil w w'
theorem Ext.refl (X : Nat → Prop) (w : World) : Ext X w w := ⟨rfl, rfl, rfl, Nat.le_refl _, fun _ _ _ => rfl⟩
theorem Ext.trans {X : Nat → Prop} {a b c : World} (h : Ext X a b) (k : Ext X b c) : Ext X a c :=
  ⟨k.os.trans h.os, k.tape.trans h.tape, k.output.trans h.output, Nat.le_trans h.size k.size, fun i hi hx => (k.block i (Nat.lt_of_lt_of_le hi h.size) hx).trans (h.block i hi hx)⟩
theorem Ext.mono {X Y : Nat → Prop} {a b : World} (h : Ext X a b) (hXY : ∀ k, X k → Y k) : Ext Y a b := ⟨h.os, h.tape, h.output, h.size, fun k hk hy => h.block k hk (fun hx => hy (hXY k hx))⟩
theorem Ext.drew {X : Nat → Prop} {a w : World} (h : Ext X a w) : Ext X a w.drew := ⟨h.os, h.tape, h.output, h.size, h.block⟩
theorem Ext.drewN {X : Nat → Prop} {a w : World} (h : Ext X a w) (n : Nat) : Ext X a (w.drewN n) := ⟨h.os, h.tape, h.output, h.size, h.block⟩
theorem Ext.alloc {X : Nat → Prop} {a w : World} (h : Ext X a w) (o : Obj) : Ext X a (w.alloc o) :=
  h.trans ⟨rfl, rfl, rfl, by simp, fun k hk _ => Below.heap_alloc _ _ _ hk⟩
theorem Ext.cell {X : Nat → Prop} {w w' : World} (h : Ext X w w') {p : Addr} (hp : p.block < w.heap.size) (hx : ¬ X p.block) : w'.cell? p = w.cell? p := World.cell?_of_block (w := w) (h.block p.block hp hx)
theorem Ext.frozen {X : Nat → Prop} {w w' : World} (h : Ext X w w') {p : Addr} (hp : p.block < w.heap.size) (hx : ¬ X p.block) : w'.frozen? p = w.frozen? p := World.frozen?_of_block (w := w) (h.block p.block hp hx)
theorem Grow.below {w w' : World} (h : Grow w w') : Below w.heap.size w w' := ⟨h.os, h.tape, h.output, h.size, fun k hk => h.block k hk (fun hx => hx)⟩
theorem Grow.inner {X : Nat → Prop} {a b c : World} (h : Grow a b) (k : Ext X b c) (hX : ∀ i, X i → a.heap.size ≤ i) : Grow a c :=
  ⟨k.os.trans h.os, k.tape.trans h.tape, k.output.trans h.output, Nat.le_trans h.size k.size, fun i hi _ => (k.block i (Nat.lt_of_lt_of_le hi h.size) (fun hx => by have := hX i hx; omega)).trans (h.block i hi (fun h => h))⟩
structure Box5 (w : World) (b : Nat) (c0 c1 c2 c3 c4 : Value) : Prop where
  k0 : w.cell? ⟨b, 0, none⟩ = some c0
  k1 : w.cell? ⟨b, 1, none⟩ = some c1
  k2 : w.cell? ⟨b, 2, none⟩ = some c2
  k3 : w.cell? ⟨b, 3, none⟩ = some c3
  k4 : w.cell? ⟨b, 4, none⟩ = some c4
  fr : ∀ o, w.frozen? ⟨b, o, none⟩ = false
  lt : b < w.heap.size
theorem Box5.new (w : World) (c0 c1 c2 c3 c4 : Value) (t : TypeId) : Box5 (w.alloc (.cells #[c0, c1, c2, c3, c4] t)) w.heap.size c0 c1 c2 c3 c4 :=
  ⟨by rw [World.cell?_alloc_new]; rfl, by rw [World.cell?_alloc_new]; rfl, by rw [World.cell?_alloc_new]; rfl, by rw [World.cell?_alloc_new]; rfl, by rw [World.cell?_alloc_new]; rfl,
    fun o => World.frozen?_alloc_new w _ t o, by simp⟩
theorem Box5.ext {X : Nat → Prop} {w w' : World} {b : Nat} {c0 c1 c2 c3 c4 : Value} (hb : Box5 w b c0 c1 c2 c3 c4) (h : Ext X w w') (hx : ¬ X b) : Box5 w' b c0 c1 c2 c3 c4 :=
  ⟨by rw [h.cell hb.lt hx]; exact hb.k0, by rw [h.cell hb.lt hx]; exact hb.k1, by rw [h.cell hb.lt hx]; exact hb.k2, by rw [h.cell hb.lt hx]; exact hb.k3, by rw [h.cell hb.lt hx]; exact hb.k4,
    fun o => by rw [h.frozen (p := ⟨b, o, none⟩) hb.lt hx]; exact hb.fr o, Nat.lt_of_lt_of_le hb.lt h.size⟩
theorem Box5.grow {w w' : World} {b : Nat} {c0 c1 c2 c3 c4 : Value} (hb : Box5 w b c0 c1 c2 c3 c4) (h : Grow w w') : Box5 w' b c0 c1 c2 c3 c4 := hb.ext h (fun h => h)
theorem lt_of_cell {w : World} {p : Addr} {v : Value} (h : w.cell? p = some v) : p.block < w.heap.size := by
  unfold World.cell? at h
  rcases Nat.lt_or_ge p.block w.heap.size with h' | h'
  · exact h'
  · rw [Array.getElem?_eq_none h'] at h; simp at h
theorem Ext.some {X : Nat → Prop} {w w' : World} (h : Ext X w w') {p : Addr} {v : Value} (hp : w.cell? p = some v) (hx : ¬ X p.block) : w'.cell? p = some v := by
  rw [h.cell (lt_of_cell hp) hx]; exact hp
theorem Grow.some {w w' : World} (h : Grow w w') {p : Addr} {v : Value} (hp : w.cell? p = some v) : w'.cell? p = some v := Ext.some h hp (fun h => h)
theorem StrsR.ext {X S : Nat → Prop} {w w' : World} (h : Ext X w w') (hS : ∀ k, S k → ¬ X k) {a : Option Addr} {c : Nat} {xs : List ByteArray} (hs : StrsR w S a c xs) : StrsR w' S a c xs := by
  obtain ⟨h1, h2, h3, h4⟩ := hs
  refine ⟨h1, h2, h3, h4.imp id ?_⟩
  rintro ⟨b, o, rfl, hb, hc⟩
  exact ⟨b, o, rfl, hb, fun i hi => h.some (hc i hi) (hS b hb)⟩
theorem StrsR.mono {S T : Nat → Prop} {w : World} (hS : ∀ k, S k → T k) {a : Option Addr} {c : Nat} {xs : List ByteArray} (hs : StrsR w S a c xs) : StrsR w T a c xs := by
  obtain ⟨h1, h2, h3, h4⟩ := hs
  refine ⟨h1, h2, h3, h4.imp id ?_⟩
  rintro ⟨b, o, rfl, hb, hc⟩
  exact ⟨b, o, rfl, hS b hb, hc⟩
mutual
theorem NodeC.ext {X S : Nat → Prop} {w w' : World} (h : Ext X w w') (hS : ∀ k, S k → ¬ X k) : ∀ {n : Nd} {na : Option Addr} {nc : Nat} {ka : Option Addr} {kc : Nat}, NodeC w S n na nc ka kc → NodeC w' S n na nc ka kc
  | ⟨_, _, _, _, kids⟩, na, nc, ka, kc, hn => by
    unfold NodeC at hn ⊢
    obtain ⟨h1, h2, h3, h4, h5⟩ := hn
    refine ⟨h1, h2.ext h hS, h3, h4, h5.imp id ?_⟩
    rintro ⟨b, o, rfl, hb, hc⟩
    exact ⟨b, o, rfl, hb, KidsR.ext h hS (hS b hb) hc⟩
theorem KidsR.ext {X S : Nat → Prop} {w w' : World} (h : Ext X w w') (hS : ∀ k, S k → ¬ X k) {b : Nat} (hb : ¬ X b) : ∀ {l : List Nd} {o : Nat}, KidsR w S b o l → KidsR w' S b o l
  | [], _, _ => by unfold KidsR; trivial
  | k :: ks, o, hk => by
    unfold KidsR at hk ⊢
    obtain ⟨⟨na, nc, ka, kc, c0, c1, c2, c3, c4, hn⟩, hr⟩ := hk
    exact ⟨⟨na, nc, ka, kc, h.some c0 hb, h.some c1 hb, h.some c2 hb, h.some c3 hb, h.some c4 hb, NodeC.ext h hS hn⟩, KidsR.ext h hS hb hr⟩
end
theorem NodeR.ext {X S : Nat → Prop} {w w' : World} (h : Ext X w w') (hS : ∀ k, S k → ¬ X k) {n : Nd} {v : Value} (hn : NodeR w S n v) : NodeR w' S n v := by
  obtain ⟨na, nc, ka, kc, hv, hc⟩ := hn
  exact ⟨na, nc, ka, kc, hv, hc.ext h hS⟩
theorem NodesR.ext {X S : Nat → Prop} {w w' : World} (h : Ext X w w') (hS : ∀ k, S k → ¬ X k) {a : Option Addr} {c : Nat} {l : List Nd} (hs : NodesR w S a c l) : NodesR w' S a c l := by
  obtain ⟨h1, h2, h4⟩ := hs
  refine ⟨h1, h2, h4.imp id ?_⟩
  rintro ⟨b, o, rfl, hb, hc⟩
  exact ⟨b, o, rfl, hb, hc.ext h hS (hS b hb)⟩
theorem StrsR.grow {S : Nat → Prop} {w w' : World} {a : Option Addr} {c : Nat} {xs : List ByteArray} (hs : StrsR w S a c xs) (h : Grow w w') : StrsR w' S a c xs := hs.ext h (fun _ _ h => h)
theorem NodesR.grow {S : Nat → Prop} {w w' : World} {a : Option Addr} {c : Nat} {l : List Nd} (hs : NodesR w S a c l) (h : Grow w w') : NodesR w' S a c l := hs.ext h (fun _ _ h => h)
theorem NodeR.grow {S : Nat → Prop} {w w' : World} {n : Nd} {v : Value} (hn : NodeR w S n v) (h : Grow w w') : NodeR w' S n v := hn.ext h (fun _ _ h => h)
end Go.Proofs.Ytgfnmhfdmmnaoaa
namespace Go.Proofs.Ytgfnmhfdmmnaoaa
open Go.ChangeShapes Go.WideShapes Go.ChangeAt Go.RowKit
theorem Try.own : ownKnob Try.prog.godebug = none := by kernel_rfl
theorem Try.laidOut : laidOutB Try.prog = true := by kernel_rfl
section
variable {H : Type} {enc : TypeId × Value → H}
theorem trodAll_stays {W W' : World} (hb : Grow W W') : ∀ {ts : List TypeId} {vs : List Value} {ds : List (DataW H)} {ps : List MemPlace},
    (∀ t ∈ ts, Try.prog.readableRec t = true ∧ t < Try.prog.types.size) → (∀ x ∈ ps, x.block < W.heap.size) → DataW.TrodAll enc Try.prog W 0 (fun _ => true) true ts vs ds ps →
    DataW.TrodAll enc Try.prog W' 0 (fun b => decide (b < W.heap.size)) true ts vs ds ps
  | [], [], [], _, _, _, h => h
  | [], [], _ :: _, _, _, _, h => h.elim
  | [], _ :: _, _, _, _, _, h => by cases h
  | _ :: _, [], _, _, _, _, h => by cases h
  | _ :: _, _ :: _, [], _, _, _, h => h.elim
  | t :: ts, v :: vs, d :: ds, ps, hr, hlt, h => by
    obtain ⟨p, q, h1, h2, rfl⟩ := h
    exact ⟨p, q, Below.trod Try.laidOut (hr t (by simp)).1 (hr t (by simp)).2 h1 hb.below (fun x hx => hlt x (by simp [hx])),
      trodAll_stays hb (fun t ht => hr t (by simp [ht])) (fun x hx => hlt x (by simp [hx])) h2, rfl⟩
theorem post_grow {f : Func} {s : ChangeSpec} {W W' : World} {args : Array Value} {ds : List (DataW H)} {before : List MemPlace} (hv : s.vars = []) (hr : ∀ t ∈ f.params.toList, Try.prog.readableRec t = true ∧ t < Try.prog.types.size)
    (hres : f.resultTypes = #[4]) (hs : s.fn H ds = { results := [.lit (.bool true)], args := ds })
    (hW : DataW.Whole enc Try.prog f.params.toList s.vars false W args.toList ds [] before) (hg : Grow W W') :
    s.post enc Try.prog f false true false false W args (.bool true) W' := by
  have hlt := hW.lt
  have hW0 := hW
  obtain ⟨p, q, hA, hV, rfl, hz, hn⟩ := hW
  rw [hv] at hV
  obtain ⟨_, rfl⟩ := trodVars_none hV
  refine ⟨ds, [], p ++ [], [], p, [], hW0, ?_, ?_, ?_, hg.below.frame _, fun h => by cases h⟩
  · rw [List.append_nil, hs, hres]
    exact trodAll_mk1 (shut_bool Try.underlying4 true)
  · rw [List.append_nil, hs]
    exact trodAll_stays hg hr (fun x hx => hlt x (by simp [hx])) hA
  · rw [List.append_nil, hs, hv]
    rfl
end
end Go.Proofs.Ytgfnmhfdmmnaoaa
namespace Go.Proofs.Ytgfnmhfdmmnaoaa
open Go.ChangeShapes Go.WideShapes Go.ChangeAt Go.RowKit
theorem joined_mk {P : Program} {f : FuncId} {fn : Func} {s : ChangeSpec} {c : OpenClaim}
    (h1 : c.wf (OpenSpec.ofChange s) = true) (h2 : laidOutB P = true) (h3 : mapsRowed P = true) (h4 : fn.params.all (P.readableRec ·) = true) (h5 : namedTie P c.named s.vars = true)
    (h6 : (c.stops == []) = true) (h7 : (P.stops == []) = true) (h8 : (c.knobs == []) = true) (h9 : (P.stopKnobs == []) = true) (h10 : (c.inPlace == P.inPlace f) = true) (h11 : (c.unfollowed == P.unfollowed f) = true)
    (h12 : (c.recurses == P.recurses f) = true) (h13 : (c.named == P.varsNamed f) = true)
    (h14 : (c.maps == (fn.params.toList ++ s.plain.varTypes P).any (P.mapsRec ·)) = true) (h15 : (c.ifaces == (fn.params.toList ++ s.plain.varTypes P).any (P.ifacesRec ·)) = true) (h16 : (c.mapsOut == P.mapsAmong fn.resultTypes.toList) = true)
    (h17 : (c.loops == (fn.params.toList ++ s.plain.varTypes P).any (P.loopsFrom ·)) = true) (h18 : (c.wideKeys == (fn.params.toList ++ s.plain.varTypes P ++ fn.resultTypes.toList).any (P.wideKeysFrom ·)) = true)
    (h19 : s.vars.all (P.varReadable ·) = true) (h20 : fn.resultTypes.all (fun t => P.readableRec t && decide (t < P.types.size)) = true) (h21 : (c.ifacesOut == fn.resultTypes.toList.any (P.ifacesRec ·)) = true)
    (h22 : (c.loopsOut == fn.resultTypes.toList.any (P.loopsFrom ·)) = true) (h23 : (c.plainKeys == P.plainKeys) = true) (h24 : c.shortTexts.isNone = true) (h25 : P.stopsHeard = true) (h26 : P.mayEnter = true)
    (h27 : (c.lifted == P.liftsFinal) = true) (h28 : (P.make == some c.make) = true)
    (h29 : (c.kinds == (if c.domain.isEmpty then [] else fn.params.toList.map fun t => match P.underlying t with | some (.int k) => some k | _ => none)) = true) (h30 : (c.pinned == c.pinnedBy) = true)
    (h31 : (c.veiled == (fn.params.toList ++ s.plain.varTypes P ++ fn.resultTypes.toList).any (P.veiledRec ·)) = true)
    (h32 : c.veiledFits P fn.params.toList (fn.params.toList ++ s.plain.varTypes P ++ fn.resultTypes.toList) = true) : joinedFacts P f fn s c = true := by
  unfold joinedFacts
  simp only [Bool.and_eq_true]
  and_intros
  · exact h1
  · exact h2
  · exact h3
  · exact h4
  · exact h5
  · exact h6
  · exact h7
  · exact h8
  · exact h9
  · exact h10
  · exact h11
  · exact h12
  · exact h13
  · exact h14
  · exact h15
  · exact h16
  · exact h17
  · exact h18
  · exact h19
  · exact h20
  · exact h21
  · exact h22
  · exact h23
  · exact h24
  · exact h25
  · exact h26
  · exact h27
  · exact h28
  · exact h29
  · exact h30
  · exact h31
  · exact h32
def sp : Char := Char.ofNat 32
def joinW : List (List Char) → List Char
  | [] => []
  | [w] => w
  | w :: r => w ++ sp :: joinW r
theorem words_cons (c : Char) (hc : (c == sp) = false) (r : List Char) : wordsSigns (c :: r) = match wordsSigns r with | w :: ws => (c :: w) :: ws | [] => [[c]] := by
  have hne : c ≠ sp := by intro e; rw [e] at hc; revert hc; decide
  rw [wordsSigns]
  all_goals first | rfl | exact hne | exact fun h => hne h
theorem words_app (r : List Char) (ws : List (List Char)) (h : wordsSigns r = [] :: ws) : ∀ w : List Char, (w.all fun c => !(c == sp)) = true → wordsSigns (w ++ r) = w :: ws
  | [], _ => by simpa using h
  | c :: w, hw => by
    simp only [List.all_cons, Bool.and_eq_true, Bool.not_eq_true'] at hw
    rw [List.cons_append, words_cons c hw.1, words_app r ws h w hw.2]
theorem words_join : ∀ ws : List (List Char), ws ≠ [] → (ws.all fun w => w.all fun c => !(c == sp)) = true → wordsSigns (joinW ws) = ws
  | [], h, _ => absurd rfl h
  | [w], _, hw => by
    simp only [List.all_cons, List.all_nil, Bool.and_true] at hw
    have := words_app [] [] rfl w hw
    simpa [joinW] using this
  | w :: v :: r, _, hw => by
    simp only [List.all_cons, Bool.and_eq_true] at hw
    have ih := words_join (v :: r) (by simp) (by simp only [List.all_cons, Bool.and_eq_true]; exact hw.2)
    have h1 : wordsSigns (sp :: joinW (v :: r)) = [] :: (v :: r) := by
      show [] :: wordsSigns (joinW (v :: r)) = _
      rw [ih]
    exact words_app _ _ h1 w hw.1
def ioW : List (List Char) := List.map (List.map Char.ofNat) [[104, 97, 114, 110, 101, 115, 115], [57, 100, 97, 48, 55, 55, 101, 52, 100, 57, 52, 48, 101, 51, 101, 100, 100, 51, 55, 102, 52, 50, 57, 49, 55, 49, 102, 101, 54, 98, 54, 49, 52, 53, 50, 101, 54, 57, 48, 53, 50, 54, 56, 54, 101, 50, 54, 57, 97, 98, 53, 54, 98, 97, 52, 57, 55, 102, 56, 97, 54, 51, 98, 102], [99, 117, 116], [97, 116], [108, 111, 111, 112, 46, 101, 120, 97, 109, 112, 108, 101, 47, 114, 101, 115, 111, 117, 114, 99, 101, 115, 116, 111, 114, 101, 47, 108, 97, 119, 115, 46, 70, 110, 70, 105, 116, 115, 83, 104, 97, 112, 101], [108, 111, 111, 112, 46, 101, 120, 97, 109, 112, 108, 101, 47, 114, 101, 115, 111, 117, 114, 99, 101, 115, 116, 111, 114, 101, 47, 108, 97, 119, 115, 46, 70, 110, 69, 120, 97, 99, 116, 79, 112, 84, 111, 78, 111, 100, 101], [108, 111, 111, 112, 46, 101, 120, 97, 109, 112, 108, 101, 47, 114, 101, 115, 111, 117, 114, 99, 101, 115, 116, 111, 114, 101, 47, 108, 97, 119, 115, 46, 70, 110, 69, 120, 97, 99, 116, 80, 117, 116, 73, 116, 101, 109], [108, 111, 111, 112, 46, 101, 120, 97, 109, 112, 108, 101, 47, 114, 101, 115, 111, 117, 114, 99, 101, 115, 116, 111, 114, 101, 47, 108, 97, 119, 115, 46, 70, 110, 69, 120, 97, 99, 116, 78, 111, 100, 101, 84, 111, 79, 112], [108, 111, 111, 112, 46, 101, 120, 97, 109, 112, 108, 101, 47, 114, 101, 115, 111, 117, 114, 99, 101, 115, 116, 111, 114, 101, 47, 108, 97, 119, 115, 46, 70, 110, 69, 120, 97, 99, 116, 70, 105, 114, 115, 116, 77, 105, 115, 102, 105, 116], [108, 111, 111, 112, 46, 101, 120, 97, 109, 112, 108, 101, 47, 114, 101, 115, 111, 117, 114, 99, 101, 115, 116, 111, 114, 101, 47, 108, 97, 119, 115, 46, 70, 110, 79, 112, 84, 111, 78, 111, 100, 101], [108, 111, 111, 112, 46, 101, 120, 97, 109, 112, 108, 101, 47, 114, 101, 115, 111, 117, 114, 99, 101, 115, 116, 111, 114, 101, 47, 108, 97, 119, 115, 46, 70, 110, 69, 120, 97, 99, 116, 68, 114, 111, 112, 73, 116, 101, 109], [108, 111, 111, 112, 46, 101, 120, 97, 109, 112, 108, 101, 47, 114, 101, 115, 111, 117, 114, 99, 101, 115, 116, 111, 114, 101, 47, 108, 97, 119, 115, 46, 70, 110, 69, 120, 97, 99, 116, 77, 101, 114, 103, 101, 78, 111, 100, 101], [108, 111, 111, 112, 46, 101, 120, 97, 109, 112, 108, 101, 47, 114, 101, 115, 111, 117, 114, 99, 101, 115, 116, 111, 114, 101, 47, 108, 97, 119, 115, 46, 70, 110, 78, 111, 100, 101, 84, 111, 79, 112], [108, 111, 111, 112, 46, 101, 120, 97, 109, 112, 108, 101, 47, 114, 101, 115, 111, 117, 114, 99, 101, 115, 116, 111, 114, 101, 47, 108, 97, 119, 115, 46, 70, 110, 69, 120, 97, 99, 116, 77, 101, 114, 103, 101, 70, 111, 114]]
theorem io_eq : Try.prog.initOrder = String.ofList (joinW ioW) := by kernel_rfl
theorem io_clean : (ioW.all fun w => w.all fun c => !(c == sp)) = true := by kernel_rfl
theorem io_words : wordsSigns Try.prog.initOrder.toList = ioW := by
  rw [io_eq, String.toList_ofList]
  exact words_join _ (by unfold ioW; simp) io_clean
def ioR : List (List Char) := ioW.drop 2
theorem io_behind : behindMainWord ioW = ioR := by decide +kernel
theorem io_lifts : Try.prog.liftsFinal = false := by
  unfold Program.liftsFinal Program.headLifts
  rw [io_words, io_behind]
  kernel_rfl
theorem enter_of {P : Program} {c : List Char} {rest : List (List Char)} (hb : behindMainWord (wordsSigns P.initOrder.toList) = c :: rest) (h1 : (stripLifts liftWords (c :: rest)).2.head? = some "cut".toList)
    (h2 : (stripLifts liftWords (c :: rest)).1 = []) (h3 : P.laysLater = false) (h4 : P.bearsReflect = false) (h5 : P.doorFits [] = true) : P.mayEnter = true := by
  unfold Program.mayEnter
  rw [hb]
  simp [h1, h2, h3, h4, h5]
theorem make_of {P : Program} {c : List Char} {rest : List (List Char)} (hb : behindMainWord (wordsSigns P.initOrder.toList) = c :: rest) (h1 : (c == "gc".toList || c == "spec".toList) = false) (h2 : (c == "cut".toList) = true) : P.make = some .cut := by
  unfold Program.make
  rw [hb]
  simp only [h1, h2, Bool.true_or, if_true, Bool.false_eq_true, if_false]
def ioC : List Char := List.map Char.ofNat [99, 117, 116]
theorem io_cons : behindMainWord (wordsSigns Try.prog.initOrder.toList) = ioC :: ioR.tail := by
  rw [io_words, io_behind]
  kernel_rfl
theorem io_later : Try.prog.laysLater = false := by kernel_rfl
theorem io_reflect : Try.prog.bearsReflect = false := by kernel_rfl
theorem io_door : Try.prog.doorFits [] = true := by kernel_rfl
theorem io_head : (stripLifts liftWords (ioC :: ioR.tail)).2.head? = some "cut".toList := by kernel_rfl
theorem io_first : (stripLifts liftWords (ioC :: ioR.tail)).1 = [] := by kernel_rfl
theorem io_enter : Try.prog.mayEnter = true := enter_of io_cons io_head io_first io_later io_reflect io_door
theorem io_make : Try.prog.make = some .cut := make_of io_cons (by kernel_rfl) (by kernel_rfl)
end Go.Proofs.Ytgfnmhfdmmnaoaa
namespace Go.Proofs.Ytgfnmhfdmmnaoaa.Eng
open Go Go.RowKit
theorem addr_add (b o j : Nat) : (⟨b, o, Option.none⟩ : Addr).add j = ⟨b, o + j, Option.none⟩ := by unfold Addr.add; split <;> simp_all
inductive VC where
  | tight
  | loose
  | lent
  | fr (b : Nat)
  deriving DecidableEq, Inhabited
def VC.cut : VC → VC
  | .lent => .lent
  | .fr b => .fr b
  | _ => .loose
theorem VC.cut_ne {t : VC} (h : t.cut = .tight) : False := by cases t <;> cases h
inductive AV where
  | any
  | int (k : IntKind) (n : Int)
  | bool (b : Bool)
  | str (s : ByteArray)
  | agg (cs : List AV)
  | tup (cs : List AV)
  | fn (f : FuncId) (cs : List AV)
  | view (t : VC) (sz : Nat) (es : List (List AV))
  | own (id n : Nat)
  | eptr (t : VC) (cs : List AV)
  | ptr (bx : Bool) (sz n id i j : Nat)
  | rdr
  deriving Inhabited
structure Cx where
  S : Nat → Prop
  L : Nat → Prop
  U : Nat → Prop
  row : Nat → Option Value
  len : Nat → Nat
  rd : Option Nat
def look (w : World) (p : Addr) : Option Value × Bool := (w.cell? p, w.frozen? p)
theorem look_cell {w w' : World} {p : Addr} (h : look w' p = look w p) : w'.cell? p = w.cell? p := congrArg Prod.fst h
theorem look_frozen {w w' : World} {p : Addr} (h : look w' p = look w p) : w'.frozen? p = w.frozen? p := congrArg Prod.snd h
theorem ext_look {X : Nat → Prop} {w w' : World} (h : Ext X w w') {p : Addr} (hp : p.block < w.heap.size) (hx : ¬ X p.block) : look w' p = look w p := by
  unfold look; rw [h.cell hp hx, h.frozen hp hx]
def Cx.H (ρ : Cx) (w : World) : VC → Nat → Prop
  | .lent, b => ρ.L b
  | .fr g, b => ρ.S b ∧ b = g ∧ ∀ o, w.frozen? ⟨b, o, none⟩ = false
  | _, b => ρ.S b
mutual
def Rep (w : World) (ρ : Cx) : AV → Value → Prop
  | .any, _ => True
  | .int k n, v => v = .int k n
  | .bool b, v => v = .bool b
  | .str s, v => v = .string s ∧ s.size ≤ big
  | .agg cs, v => ∃ vs, v = .agg vs.toArray ∧ (∀ u ∈ vs, u.oneCell' = true) ∧ RepL w ρ cs vs
  | .tup cs, v => ∃ vs, v = .tuple vs.toArray ∧ RepL w ρ cs vs
  | .fn f cs, v => ∃ vs, v = .func (.func f) #[] vs.toArray ∧ RepL w ρ cs vs
  | .view t sz es, v => ∃ a c, v = .slice a es.length c ∧ (t = .tight → c = es.length) ∧ es.length ≤ c ∧ es.length ≤ big ∧ (∀ e ∈ es, e.length = sz) ∧
      (es = [] ∨ ∃ b o, a = some ⟨b, o, none⟩ ∧ ρ.H w t b ∧ RepE w ρ b o es)
  | .own id n, v => ρ.U id ∧ n ≤ ρ.len id ∧ (∃ a c, v = .slice a n c ∧ (n = 0 ∨ ∃ b, a = some ⟨b, 0, none⟩)) ∧ ∀ u, ρ.row id = some u → n = ρ.len id → v = u
  | .eptr t cs, v => ∃ b o, v = .pointer (some ⟨b, o, none⟩) ∧ ρ.H w t b ∧ RepC w ρ b o cs
  | .ptr _ sz n id i j, v => ρ.U id ∧ n ≤ ρ.len id ∧ (∃ b, v = .pointer (some ⟨b, i * sz + j, none⟩)) ∧ ∀ u, ρ.row id = some u → n = ρ.len id → ∃ b n c, u = .slice (some ⟨b, 0, none⟩) n c ∧ v = .pointer (some ⟨b, i * sz + j, none⟩)
  | .rdr, v => ∃ b, ρ.rd = some b ∧ v = .pointer (some ⟨b, 0, none⟩)
def RepL (w : World) (ρ : Cx) : List AV → List Value → Prop
  | [], vs => vs = []
  | c :: cs, vs => ∃ v vs', vs = v :: vs' ∧ Rep w ρ c v ∧ RepL w ρ cs vs'
def RepC (w : World) (ρ : Cx) (b : Nat) : Nat → List AV → Prop
  | _, [] => True
  | o, c :: cs => (∃ v, w.cell? ⟨b, o, none⟩ = some v ∧ v.oneCell' = true ∧ Rep w ρ c v) ∧ RepC w ρ b (o + 1) cs
def RepE (w : World) (ρ : Cx) (b : Nat) : Nat → List (List AV) → Prop
  | _, [] => True
  | o, e :: es => RepC w ρ b o e ∧ RepE w ρ b (o + e.length) es
end
structure Cx.Le (w : World) (ρ : Cx) (w' : World) (ρ' : Cx) : Prop where
  S : ∀ b, ρ.S b → ρ'.S b ∧ ∀ o, look w' ⟨b, o, none⟩ = look w ⟨b, o, none⟩
  L : ∀ b, ρ.L b → ρ'.L b ∧ ∀ o, look w' ⟨b, o, none⟩ = look w ⟨b, o, none⟩
  U : ∀ id, ρ.U id → ρ'.U id ∧ ρ.len id ≤ ρ'.len id ∧ ∀ u, ρ'.row id = some u → ρ'.len id = ρ.len id → ρ.row id = some u
  rd : ∀ b, ρ.rd = some b → ρ'.rd = some b
theorem Cx.Le.refl (w : World) (ρ : Cx) : Cx.Le w ρ w ρ := ⟨fun _ h => ⟨h, fun _ => rfl⟩, fun _ h => ⟨h, fun _ => rfl⟩, fun _ h => ⟨h, Nat.le_refl _, fun _ h _ => h⟩, fun _ h => h⟩
theorem Cx.Le.trans {w w' w'' : World} {ρ ρ' ρ'' : Cx} (h : Cx.Le w ρ w' ρ') (k : Cx.Le w' ρ' w'' ρ'') : Cx.Le w ρ w'' ρ'' :=
  ⟨fun b hb => ⟨(k.S b (h.S b hb).1).1, fun o => ((k.S b (h.S b hb).1).2 o).trans ((h.S b hb).2 o)⟩,
   fun b hb => ⟨(k.L b (h.L b hb).1).1, fun o => ((k.L b (h.L b hb).1).2 o).trans ((h.L b hb).2 o)⟩,
   fun id hi => by
    obtain ⟨h1, h2, h3⟩ := h.U id hi
    obtain ⟨k1, k2, k3⟩ := k.U id h1
    exact ⟨k1, Nat.le_trans h2 k2, fun u hu he => h3 u (k3 u hu (by omega)) (by omega)⟩,
   fun b hb => k.rd b (h.rd b hb)⟩
theorem Cx.Le.H {w w' : World} {ρ ρ' : Cx} (h : Cx.Le w ρ w' ρ') : ∀ {t : VC} {b : Nat}, ρ.H w t b → ρ'.H w' t b ∧ ∀ o, w'.cell? ⟨b, o, none⟩ = w.cell? ⟨b, o, none⟩
  | .lent, b, hb => ⟨(h.L b hb).1, fun o => look_cell ((h.L b hb).2 o)⟩
  | .tight, b, hb => ⟨(h.S b hb).1, fun o => look_cell ((h.S b hb).2 o)⟩
  | .loose, b, hb => ⟨(h.S b hb).1, fun o => look_cell ((h.S b hb).2 o)⟩
  | .fr g, b, hb => ⟨⟨(h.S b hb.1).1, hb.2.1, fun o => by rw [look_frozen ((h.S b hb.1).2 o)]; exact hb.2.2 o⟩, fun o => look_cell ((h.S b hb.1).2 o)⟩
theorem Cx.H_cut {w : World} {ρ : Cx} : ∀ {t : VC} {b : Nat}, ρ.H w t b → ρ.H w t.cut b
  | .lent, _, h => h
  | .tight, _, h => h
  | .loose, _, h => h
  | .fr _, _, h => h
section
variable {w w' : World} {ρ ρ' : Cx}
theorem rep_any (v : Value) : Rep w ρ .any v := by unfold Rep; trivial
theorem rep_int {k : IntKind} {n : Int} {v : Value} : Rep w ρ (.int k n) v ↔ v = .int k n := by unfold Rep; exact Iff.rfl
theorem rep_bool {b : Bool} {v : Value} : Rep w ρ (.bool b) v ↔ v = .bool b := by unfold Rep; exact Iff.rfl
theorem rep_str {b : ByteArray} {v : Value} : Rep w ρ (.str b) v ↔ v = .string b ∧ b.size ≤ big := by unfold Rep; exact Iff.rfl
theorem rep_agg {cs : List AV} {v : Value} : Rep w ρ (.agg cs) v ↔ ∃ vs, v = .agg vs.toArray ∧ (∀ u ∈ vs, u.oneCell' = true) ∧ RepL w ρ cs vs := by conv => lhs; unfold Rep
theorem rep_tup {cs : List AV} {v : Value} : Rep w ρ (.tup cs) v ↔ ∃ vs, v = .tuple vs.toArray ∧ RepL w ρ cs vs := by conv => lhs; unfold Rep
theorem rep_fn {f : FuncId} {cs : List AV} {v : Value} : Rep w ρ (.fn f cs) v ↔ ∃ vs, v = .func (.func f) #[] vs.toArray ∧ RepL w ρ cs vs := by conv => lhs; unfold Rep
theorem rep_view {t : VC} {sz : Nat} {es : List (List AV)} {v : Value} : Rep w ρ (.view t sz es) v ↔ ∃ a c, v = .slice a es.length c ∧ (t = .tight → c = es.length) ∧ es.length ≤ c ∧ es.length ≤ big ∧ (∀ e ∈ es, e.length = sz) ∧
      (es = [] ∨ ∃ b o, a = some ⟨b, o, none⟩ ∧ ρ.H w t b ∧ RepE w ρ b o es) := by conv => lhs; unfold Rep
theorem rep_own {id n : Nat} {v : Value} : Rep w ρ (.own id n) v ↔ ρ.U id ∧ n ≤ ρ.len id ∧ (∃ a c, v = .slice a n c ∧ (n = 0 ∨ ∃ b, a = some ⟨b, 0, none⟩)) ∧ ∀ u, ρ.row id = some u → n = ρ.len id → v = u := by conv => lhs; unfold Rep
theorem rep_eptr {t : VC} {cs : List AV} {v : Value} : Rep w ρ (.eptr t cs) v ↔ ∃ b o, v = .pointer (some ⟨b, o, none⟩) ∧ ρ.H w t b ∧ RepC w ρ b o cs := by conv => lhs; unfold Rep
theorem rep_ptr {bx : Bool} {sz m id i j : Nat} {v : Value} : Rep w ρ (.ptr bx sz m id i j) v ↔ ρ.U id ∧ m ≤ ρ.len id ∧ (∃ b, v = .pointer (some ⟨b, i * sz + j, none⟩)) ∧ ∀ u, ρ.row id = some u → m = ρ.len id → ∃ b n c, u = .slice (some ⟨b, 0, none⟩) n c ∧ v = .pointer (some ⟨b, i * sz + j, none⟩) := by conv => lhs; unfold Rep
theorem rep_rdr {v : Value} : Rep w ρ .rdr v ↔ ∃ b, ρ.rd = some b ∧ v = .pointer (some ⟨b, 0, none⟩) := by conv => lhs; unfold Rep
mutual
theorem Rep.le (h : Cx.Le w ρ w' ρ') : ∀ {c : AV} {v : Value}, Rep w ρ c v → Rep w' ρ' c v
  | .any, _, _ => by unfold Rep; trivial
  | .int _ _, _, hr => by unfold Rep at *; exact hr
  | .bool _, _, hr => by unfold Rep at *; exact hr
  | .str _, _, hr => by unfold Rep at *; exact hr
  | .agg cs, _, hr => by
    unfold Rep at *
    obtain ⟨vs, h1, h2, h3⟩ := hr
    exact ⟨vs, h1, h2, RepL.le h h3⟩
  | .tup cs, _, hr => by
    unfold Rep at *
    obtain ⟨vs, h1, h3⟩ := hr
    exact ⟨vs, h1, RepL.le h h3⟩
  | .fn f cs, _, hr => by
    unfold Rep at *
    obtain ⟨vs, h1, h3⟩ := hr
    exact ⟨vs, h1, RepL.le h h3⟩
  | .view t sz es, _, hr => by
    unfold Rep at *
    obtain ⟨a, c, h1, h2, h3, h4, h5, h6⟩ := hr
    refine ⟨a, c, h1, h2, h3, h4, h5, h6.imp id ?_⟩
    rintro ⟨b, o, ha, hb, he⟩
    exact ⟨b, o, ha, (h.H hb).1, RepE.le h (h.H hb).2 he⟩
  | .own id n, _, hr => by
    unfold Rep at *
    obtain ⟨h1, h2, h3⟩ := h.U id hr.1
    have hn := hr.2.1
    exact ⟨h1, Nat.le_trans hn h2, hr.2.2.1, fun u hu he => hr.2.2.2 u (h3 u hu (by omega)) (by omega)⟩
  | .eptr t cs, _, hr => by
    unfold Rep at *
    obtain ⟨b, o, h1, hb, h3⟩ := hr
    exact ⟨b, o, h1, (h.H hb).1, RepC.le h (h.H hb).2 h3⟩
  | .ptr bx sz n id i j, _, hr => by
    unfold Rep at *
    obtain ⟨h1, h2, h3⟩ := h.U id hr.1
    have hn := hr.2.1
    exact ⟨h1, Nat.le_trans hn h2, hr.2.2.1, fun u hu he => hr.2.2.2 u (h3 u hu (by omega)) (by omega)⟩
  | .rdr, _, hr => by
    unfold Rep at *
    obtain ⟨b, h1, h2⟩ := hr
    exact ⟨b, h.rd b h1, h2⟩
theorem RepL.le (h : Cx.Le w ρ w' ρ') : ∀ {cs : List AV} {vs : List Value}, RepL w ρ cs vs → RepL w' ρ' cs vs
  | [], _, hr => by unfold RepL at *; exact hr
  | c :: cs, _, hr => by
    unfold RepL at *
    obtain ⟨v, vs', h1, h2, h3⟩ := hr
    exact ⟨v, vs', h1, Rep.le h h2, RepL.le h h3⟩
theorem RepC.le (h : Cx.Le w ρ w' ρ') {b : Nat} (hb : ∀ o, w'.cell? ⟨b, o, none⟩ = w.cell? ⟨b, o, none⟩) : ∀ {cs : List AV} {o : Nat}, RepC w ρ b o cs → RepC w' ρ' b o cs
  | [], _, _ => by unfold RepC; trivial
  | c :: cs, o, hr => by
    unfold RepC at *
    obtain ⟨⟨v, h1, h2, h3⟩, h4⟩ := hr
    exact ⟨⟨v, by rw [hb o]; exact h1, h2, Rep.le h h3⟩, RepC.le h hb h4⟩
theorem RepE.le (h : Cx.Le w ρ w' ρ') {b : Nat} (hb : ∀ o, w'.cell? ⟨b, o, none⟩ = w.cell? ⟨b, o, none⟩) : ∀ {es : List (List AV)} {o : Nat}, RepE w ρ b o es → RepE w' ρ' b o es
  | [], _, _ => by unfold RepE; trivial
  | e :: es, o, hr => by
    unfold RepE at *
    exact ⟨RepC.le h hb hr.1, RepE.le h hb hr.2⟩
end
theorem RepL.length : ∀ {cs : List AV} {vs : List Value}, RepL w ρ cs vs → vs.length = cs.length
  | [], _, h => by unfold RepL at h; simp [h]
  | c :: cs, _, h => by
    unfold RepL at h
    obtain ⟨v, vs', rfl, _, h3⟩ := h
    simp [RepL.length h3]
theorem RepL.get : ∀ {cs : List AV} {vs : List Value}, RepL w ρ cs vs → ∀ {i : Nat} {c : AV}, cs[i]? = some c → ∃ v, vs[i]? = some v ∧ Rep w ρ c v
  | [], _, _, i, c, hc => by simp at hc
  | c :: cs, _, h, 0, c', hc => by
    unfold RepL at h
    obtain ⟨v, vs', rfl, h2, _⟩ := h
    simp at hc; subst hc
    exact ⟨v, by simp, h2⟩
  | c :: cs, _, h, i + 1, c', hc => by
    unfold RepL at h
    obtain ⟨v, vs', rfl, _, h3⟩ := h
    simp at hc
    obtain ⟨u, hu, hr⟩ := RepL.get h3 hc
    exact ⟨u, by simpa using hu, hr⟩
theorem RepL.of_get : ∀ {cs : List AV} {vs : List Value}, vs.length = cs.length → (∀ (i : Nat) (c : AV) (v : Value), cs[i]? = some c → vs[i]? = some v → Rep w ρ c v) → RepL w ρ cs vs
  | [], vs, hl, _ => by unfold RepL; simpa using hl
  | c :: cs, [], hl, _ => by simp at hl
  | c :: cs, v :: vs, hl, h => by
    unfold RepL
    exact ⟨v, vs, rfl, h 0 c v rfl rfl, RepL.of_get (by simpa using hl) (fun i c' v' h1 h2 => h (i + 1) c' v' (by simpa using h1) (by simpa using h2))⟩
theorem RepL.set {cs : List AV} {vs : List Value} (h : RepL w ρ cs vs) (i : Nat) {c : AV} {v : Value} (hc : Rep w ρ c v) : RepL w ρ (cs.set i c) (vs.set i v) := by
  refine RepL.of_get (by simpa using h.length) (fun j c' v' h1 h2 => ?_)
  by_cases hij : i = j
  · subst hij
    have l1 : i < cs.length := by have := (List.getElem?_eq_some_iff.1 h1).1; simpa using this
    have l2 : i < vs.length := by rw [h.length]; exact l1
    rw [List.getElem?_set_self l1] at h1
    rw [List.getElem?_set_self l2] at h2
    cases h1; cases h2; exact hc
  · rw [List.getElem?_set_ne hij] at h1 h2
    obtain ⟨u, hu, hr⟩ := h.get h1
    rw [hu] at h2; cases h2; exact hr
theorem RepL.append {cs ds : List AV} {vs us : List Value} (h : RepL w ρ cs vs) (k : RepL w ρ ds us) : RepL w ρ (cs ++ ds) (vs ++ us) := by
  refine RepL.of_get (by simp [h.length, k.length]) (fun i c v h1 h2 => ?_)
  rcases Nat.lt_or_ge i cs.length with hl | hl
  · rw [List.getElem?_append_left hl] at h1
    rw [List.getElem?_append_left (by rw [h.length]; exact hl)] at h2
    obtain ⟨u, hu, hr⟩ := h.get h1
    rw [hu] at h2; cases h2; exact hr
  · rw [List.getElem?_append_right hl] at h1
    rw [List.getElem?_append_right (by rw [h.length]; exact hl), h.length] at h2
    obtain ⟨u, hu, hr⟩ := k.get h1
    rw [hu] at h2; cases h2; exact hr
theorem RepL.take {cs : List AV} {vs : List Value} (h : RepL w ρ cs vs) (n : Nat) : RepL w ρ (cs.take n) (vs.take n) := by
  refine RepL.of_get (by simp [h.length]) (fun i c v h1 h2 => ?_)
  have l1 := (List.getElem?_eq_some_iff.1 h1).1
  rw [List.length_take] at l1
  rw [List.getElem?_take_of_lt (by omega)] at h1 h2
  obtain ⟨u, hu, hr⟩ := h.get h1
  rw [hu] at h2; cases h2; exact hr
theorem RepL.drop {cs : List AV} {vs : List Value} (h : RepL w ρ cs vs) (n : Nat) : RepL w ρ (cs.drop n) (vs.drop n) := by
  refine RepL.of_get (by simp [h.length]) (fun i c v h1 h2 => ?_)
  rw [List.getElem?_drop] at h1 h2
  obtain ⟨u, hu, hr⟩ := h.get h1
  rw [hu] at h2; cases h2; exact hr
theorem RepC.get {b : Nat} : ∀ {cs : List AV} {o : Nat}, RepC w ρ b o cs → ∀ {i : Nat} {c : AV}, cs[i]? = some c → ∃ v, w.cell? ⟨b, o + i, none⟩ = some v ∧ v.oneCell' = true ∧ Rep w ρ c v
  | [], _, _, i, c, hc => by simp at hc
  | c :: cs, o, h, 0, c', hc => by
    unfold RepC at h
    simp at hc; subst hc
    exact h.1
  | c :: cs, o, h, i + 1, c', hc => by
    unfold RepC at h
    have := RepC.get h.2 (i := i) (c := c') (by simpa using hc)
    rwa [show o + (i + 1) = o + 1 + i by omega]
theorem RepC.of_get {b : Nat} : ∀ {cs : List AV} {o : Nat}, (∀ (i : Nat) (c : AV), cs[i]? = some c → ∃ v, w.cell? ⟨b, o + i, none⟩ = some v ∧ v.oneCell' = true ∧ Rep w ρ c v) → RepC w ρ b o cs
  | [], _, _ => by unfold RepC; trivial
  | c :: cs, o, h => by
    unfold RepC
    refine ⟨h 0 c rfl, RepC.of_get (fun i c' hc => ?_)⟩
    have := h (i + 1) c' (by simpa using hc)
    rwa [show o + (i + 1) = o + 1 + i by omega] at this
theorem RepC.moved {b : Nat} {cs : List AV} {o : Nat} (hr : RepC w ρ b o cs) (h : Cx.Le w ρ w' ρ') (hb : ∀ o, w'.cell? ⟨b, o, none⟩ = w.cell? ⟨b, o, none⟩) : RepC w' ρ' b o cs :=
  RepC.of_get (fun i c hc => by obtain ⟨v, h1, h2, h3⟩ := hr.get hc; exact ⟨v, by rw [hb]; exact h1, h2, h3.le h⟩)
theorem RepC.drop {b : Nat} {cs : List AV} {o : Nat} (h : RepC w ρ b o cs) (n : Nat) : RepC w ρ b (o + n) (cs.drop n) :=
  RepC.of_get (fun i c hc => by
    rw [List.getElem?_drop] at hc
    have := h.get hc
    rwa [show o + (n + i) = o + n + i by omega] at this)
theorem RepC.take {b : Nat} {cs : List AV} {o : Nat} (h : RepC w ρ b o cs) (n : Nat) : RepC w ρ b o (cs.take n) :=
  RepC.of_get (fun i c hc => by
    have l1 := (List.getElem?_eq_some_iff.1 hc).1
    rw [List.length_take] at l1
    rw [List.getElem?_take_of_lt (by omega)] at hc
    exact h.get hc)
theorem RepE.get {b sz : Nat} : ∀ {es : List (List AV)} {o : Nat}, (∀ e ∈ es, e.length = sz) → RepE w ρ b o es → ∀ {i : Nat} {e : List AV}, es[i]? = some e → RepC w ρ b (o + i * sz) e
  | [], _, _, _, i, e, hc => by simp at hc
  | e :: es, o, hs, h, 0, e', hc => by
    unfold RepE at h
    simp at hc; subst hc
    simpa using h.1
  | e :: es, o, hs, h, i + 1, e', hc => by
    unfold RepE at h
    have := RepE.get (fun x hx => hs x (by simp [hx])) h.2 (i := i) (e := e') (by simpa using hc)
    rw [hs e (by simp)] at this
    rwa [show o + (i + 1) * sz = o + sz + i * sz by rw [Nat.succ_mul]; omega]
theorem RepE.of_get {b sz : Nat} : ∀ {es : List (List AV)} {o : Nat}, (∀ e ∈ es, e.length = sz) → (∀ i e, es[i]? = some e → RepC w ρ b (o + i * sz) e) → RepE w ρ b o es
  | [], _, _, _ => by unfold RepE; trivial
  | e :: es, o, hs, h => by
    unfold RepE
    refine ⟨by simpa using h 0 e rfl, ?_⟩
    rw [hs e (by simp)]
    refine RepE.of_get (fun x hx => hs x (by simp [hx])) (fun i e' he => ?_)
    have := h (i + 1) e' (by simpa using he)
    rwa [show o + (i + 1) * sz = o + sz + i * sz by rw [Nat.succ_mul]; omega] at this
theorem flat_get {α : Type} {sz : Nat} : ∀ {es : List (List α)}, (∀ e ∈ es, e.length = sz) → ∀ {i j : Nat} {e : List α}, es[i]? = some e → j < sz → es.flatten[i * sz + j]? = e[j]?
  | [], _, i, j, e, hc, _ => by simp at hc
  | e :: es, hs, 0, j, e', hc, hj => by
    simp at hc; subst hc
    rw [List.flatten_cons, Nat.zero_mul, Nat.zero_add, List.getElem?_append_left (by rw [hs e (by simp)]; exact hj)]
  | e :: es, hs, i + 1, j, e', hc, hj => by
    have := flat_get (fun x (hx : x ∈ es) => hs x (by simp [hx])) (i := i) (j := j) (e := e') (by simpa using hc) hj
    have l := hs e (by simp)
    rw [List.flatten_cons, List.getElem?_append_right (by rw [l, Nat.succ_mul]; omega), l, show (i + 1) * sz + j - sz = i * sz + j by rw [Nat.succ_mul]; omega]
    exact this
theorem flat_len {α : Type} {sz : Nat} : ∀ {es : List (List α)}, (∀ e ∈ es, e.length = sz) → es.flatten.length = es.length * sz
  | [], _ => by simp
  | e :: es, hs => by
    rw [List.flatten_cons, List.length_append, flat_len (fun x (hx : x ∈ es) => hs x (by simp [hx])), hs e (by simp), List.length_cons, Nat.succ_mul]; omega
theorem flat_split {α : Type} {sz : Nat} {es : List (List α)} (hs : ∀ e ∈ es, e.length = sz) {k : Nat} {c : α} (h : es.flatten[k]? = some c) : ∃ i j e, es[i]? = some e ∧ j < sz ∧ k = i * sz + j ∧ e[j]? = some c := by
  have hk := (List.getElem?_eq_some_iff.1 h).1
  rw [flat_len hs] at hk
  have hsz : 0 < sz := by rcases Nat.eq_zero_or_pos sz with rfl | h; simp at hk; exact h
  have hi : k / sz < es.length := Nat.div_lt_of_lt_mul (by rw [Nat.mul_comm]; exact hk)
  have hj : k % sz < sz := Nat.mod_lt _ hsz
  have hkk : k = k / sz * sz + k % sz := by rw [Nat.mul_comm]; exact (Nat.div_add_mod k sz).symm
  refine ⟨k / sz, k % sz, es[k / sz], List.getElem?_eq_getElem hi, hj, hkk, ?_⟩
  rw [← flat_get hs (List.getElem?_eq_getElem hi) hj, ← hkk]
  exact h
end
end Go.Proofs.Ytgfnmhfdmmnaoaa.Eng
namespace Go.Proofs.Ytgfnmhfdmmnaoaa.Eng
open Go Go.RowKit
structure Row where
  bx : Bool
  e : TypeId
  sz : Nat
  es : List (List AV)
structure ASt where
  tmps : List AV
  rows : Nat → Option Row
  used : Nat → Bool
  rd : Option Nat
structure W0 where
  wd : World
  X : Nat → Prop
  K : Nat → Option Value
  A : Nat → Prop
def W0.Own (w0 : W0) (b : Nat) : Prop := w0.wd.heap.size ≤ b ∨ w0.X b
def blk : Value → Option Nat
  | .slice (some a) _ (_ + 1) => some a.block
  | _ => none
theorem blk_slice (a : Addr) (n c : Nat) (h : 0 < c) : blk (.slice (some a) n c) = some a.block := by
  cases c with
  | zero => omega
  | succ c => rfl
def RowAt (w : World) (B : Nat) (e : TypeId) (sz : Nat) (u : Value) (n : Nat) (xs : List Value) : Prop :=
  (n = 0 ∧ xs = [] ∧ ∃ a, u = .slice a 0 0) ∨
  ∃ g cap cur, u = .slice (some ⟨g, 0, none⟩) n cap ∧ 0 < cap ∧ B ≤ g ∧ w.heap[g]? = some (.cells cur e (0, 0)) ∧ n ≤ cap ∧ cap ≤ maxLen ∧ cur.size = cap * sz ∧ cur.toList.take (n * sz) = xs ∧ xs.length = n * sz
theorem RowAt.of_owns {w : World} {B : Nat} {e : TypeId} {sz : Nat} {u : Value} {n : Nat} {xs : List Value} (h : w.ownsRow B e sz u n xs) : RowAt w B e sz u n xs := by
  obtain ⟨h1, h2⟩ := h
  rcases h2 with ⟨rfl, rfl⟩ | ⟨g, cap, cur, rfl, hb, hg, hn, hc, hs, ht⟩
  · exact .inl ⟨rfl, by simpa using h1, _, rfl⟩
  · rcases Nat.eq_zero_or_pos cap with rfl | hp
    · have : n = 0 := by omega
      subst this
      exact .inl ⟨rfl, by simpa using h1, _, rfl⟩
    · exact .inr ⟨g, cap, cur, rfl, hp, hb, hg, hn, hc, hs, ht, h1⟩
def RowOk (P : Program) (w : World) (ρ : Cx) (B : Nat → Prop) (r : Row) (u : Value) : Prop :=
  (P.cellsOf r.e = r.sz ∧ ∀ g, blk u = some g → B g) ∧ (∀ x ∈ r.es, x.length = r.sz) ∧ (r.bx = true → r.es.length = 1) ∧ ∃ xs, RowAt w 0 r.e r.sz u r.es.length xs ∧ RepL w ρ r.es.flatten xs ∧ ∀ x ∈ xs, x.oneCell' = true
def RdOk (w : World) (S : Nat → Prop) (rb k : Nat) : Prop :=
  ∃ (zs : List Int) (p : Nat) (a : Option Addr) (c : Nat), p + k ≤ 1000000 ∧ w.cell? ⟨rb, 0, none⟩ = some (.slice a zs.length c) ∧
    (zs = [] ∨ ∃ b o, a = some ⟨b, o, none⟩ ∧ S b ∧ ∀ i (h : i < zs.length), w.cell? ⟨b, o + i, none⟩ = some (.int .u8 zs[i])) ∧
    w.cell? ⟨rb, 1, none⟩ = some (.int .i64 p) ∧ (∀ o, w.frozen? ⟨rb, o, none⟩ = false) ∧ rb < w.heap.size ∧ zs.length ≤ 2000 ∧ ∀ z ∈ zs, 0 ≤ z ∧ z ≤ 255
theorem RdOk.moved {w w' : World} {S S' X : Nat → Prop} {rb k : Nat} (h : RdOk w S rb k) (hx : Ext X w w') (hr : ¬ X rb) (hS : ∀ b, S b → S' b ∧ ¬ X b) : RdOk w' S' rb k := by
  obtain ⟨zs, p, a, c, h1, h2, h3, h4, h5, h6, h7, h8⟩ := h
  refine ⟨zs, p, a, c, h1, hx.some h2 hr, h3.imp id ?_, hx.some h4 hr, fun o => by rw [hx.frozen (p := ⟨rb, o, none⟩) h6 hr]; exact h5 o, Nat.lt_of_lt_of_le h6 hx.size, h7, h8⟩
  rintro ⟨b, o, ha, hb, hc⟩
  exact ⟨b, o, ha, (hS b hb).1, fun i hi => hx.some (hc i hi) (hS b hb).2⟩
theorem RdOk.less {w : World} {S : Nat → Prop} {rb k j : Nat} (h : RdOk w S rb k) (hj : j ≤ k) : RdOk w S rb j := by
  obtain ⟨zs, p, a, c, h1, h⟩ := h
  exact ⟨zs, p, a, c, by omega, h⟩
structure SR (P : Program) (w0 : W0) (S0 : Nat → Prop) (rd0 : Option Nat) (k0 : Nat) (w : World) (a : Act) (s : ASt) (ρ : Cx) : Prop where
  tm : RepL w ρ s.tmps a.tmps.toList
  df : a.defers = []
  ext : Ext (fun b => rd0 = some b ∨ w0.X b) w0.wd w
  s0 : ∀ b, S0 b → ρ.S b
  sl : ∀ b, ρ.S b → b < w.heap.size ∧ (S0 b ∨ w0.Own b)
  us : ∀ id, ρ.U id ↔ s.used id = true
  rw : ∀ id r, s.rows id = some r → s.used id = true ∧ ∃ u, ρ.row id = some u ∧ ρ.len id = r.es.length ∧ RowOk P w ρ w0.Own r u
  rn : ∀ id, s.rows id = none → ρ.row id = none
  dj : ∀ id id' u u' g, ρ.row id = some u → ρ.row id' = some u' → blk u = some g → blk u' = some g → id = id'
  ns : ∀ id u g, ρ.row id = some u → blk u = some g → ¬ ρ.S g ∧ ρ.rd ≠ some g
  rl : ∀ rb, ρ.rd = some rb → rb < w.heap.size ∧ ¬ ρ.S rb
  rdk : ∀ k, s.rd = some k → ∃ rb, ρ.rd = some rb ∧ RdOk w ρ.S rb (k0 + k) ∧ ¬ ρ.S rb ∧ (rd0 = some rb ∨ w0.wd.heap.size ≤ rb)
  rdn : s.rd = none → ρ.rd = none
  r0 : ∀ rb, rd0 = some rb → ρ.rd = some rb ∧ s.rd.isSome = true
  ll : ∀ b, ρ.L b → b < w0.wd.heap.size ∧ rd0 ≠ some b ∧ ¬ w0.X b
  kp : ∀ id u, w0.K id = some u → 1000 ≤ id ∧ ∀ u', ρ.row id = some u' → u' = u ∧ ∀ r, s.rows id = some r → r.bx = true
  rv : ∀ id, 1000 ≤ id → s.used id = true
  av : ∀ b, w0.A b → b < w.heap.size
theorem RowAt.ext {X : Nat → Prop} {w w' : World} {B : Nat} {T : TypeId} {size : Nat} {v : Value} {n : Nat} {xs : List Value} (h : RowAt w B T size v n xs) (hx : Ext X w w') (hX : ∀ g, blk v = some g → ¬ X g) : RowAt w' B T size v n xs := by
  refine h.imp id ?_
  rintro ⟨g, cap, cur, rfl, hp, hb, hg, rest⟩
  exact ⟨g, cap, cur, rfl, hp, hb, by rw [hx.block g (Array.getElem?_eq_some_iff.1 hg).1 (hX g (blk_slice _ _ _ hp))]; exact hg, rest⟩
theorem RowOk.moved {P : Program} {X : Nat → Prop} {w w' : World} {ρ ρ' : Cx} {B : Nat → Prop} {r : Row} {u : Value} (h : RowOk P w ρ B r u) (hl : Cx.Le w ρ w' ρ') (hx : Ext X w w') (hX : ∀ g, blk u = some g → ¬ X g) : RowOk P w' ρ' B r u := by
  obtain ⟨h0, h1, hb, xs, h2, h3, h4⟩ := h
  exact ⟨h0, h1, hb, xs, h2.ext hx hX, h3.le hl, h4⟩
theorem RowAt.lt {w : World} {B : Nat} {T : TypeId} {size : Nat} {v : Value} {n : Nat} {xs : List Value} (h : RowAt w B T size v n xs) : ∀ g, blk v = some g → B ≤ g ∧ g < w.heap.size := by
  intro g hg
  rcases h with ⟨rfl, rfl, a, rfl⟩ | ⟨g', cap, cur, rfl, hp, hb, hgg, _⟩
  · cases a <;> simp [blk] at hg
  · rw [blk_slice _ _ _ hp] at hg; cases hg
    exact ⟨hb, (Array.getElem?_eq_some_iff.1 hgg).1⟩
theorem RowAt.cells {w : World} {B : Nat} {T : TypeId} {size : Nat} {n : Nat} {xs : List Value} {g cap : Nat} (h : RowAt w B T size (.slice (some ⟨g, 0, none⟩) n cap) n xs) : ∀ j u, xs[j]? = some u → w.cell? ⟨g, j, none⟩ = some u := by
  intro j u hj
  rcases h with ⟨rfl, rfl, a, ha⟩ | ⟨g', cap', cur, he, hp, hb, hgg, _, _, _, ht, _⟩
  · simp at hj
  · cases he
    unfold World.cell?
    rw [hgg]
    rw [← ht] at hj
    have l1 := (List.getElem?_eq_some_iff.1 hj).1
    rw [List.length_take] at l1
    rw [List.getElem?_take_of_lt (by omega)] at hj
    simpa using hj
theorem RowOk.lt {P : Program} {w : World} {ρ : Cx} {B : Nat → Prop} {r : Row} {u : Value} (h : RowOk P w ρ B r u) : ∀ g, blk u = some g → B g ∧ g < w.heap.size := by
  obtain ⟨⟨_, h0⟩, _, _, xs, h2, _⟩ := h
  exact fun g hg => ⟨h0 g hg, (h2.lt g hg).2⟩
section
variable {P : Program} {w0 : W0} {S0 : Nat → Prop} {rd0 : Option Nat} {k0 : Nat} {w : World} {a : Act} {s : ASt} {ρ : Cx}
theorem SR.row_lt (h : SR P w0 S0 rd0 k0 w a s ρ) {id : Nat} {u : Value} {g : Nat} (hr : ρ.row id = some u) (hg : blk u = some g) : w0.Own g ∧ g < w.heap.size := by
  cases hs : s.rows id with
  | none => rw [h.rn id hs] at hr; cases hr
  | some r =>
    obtain ⟨_, u', hu', _, hok⟩ := h.rw id r hs
    rw [hr] at hu'; cases hu'
    exact hok.lt g hg
theorem SR.put (h : SR P w0 S0 rd0 k0 w a s ρ) (d : Option Tmp) {c : AV} {v : Value} (hc : Rep w ρ c v) :
    SR P w0 S0 rd0 k0 w (a.put d v) { s with tmps := match d with | some t => s.tmps.set t c | none => s.tmps } ρ := by
  cases d with
  | none => exact h
  | some t =>
    refine ⟨?_, h.df, h.ext, h.s0, h.sl, h.us, h.rw, h.rn, h.dj, h.ns, h.rl, h.rdk, h.rdn, h.r0, h.ll, h.kp, h.rv, h.av⟩
    have := h.tm.set t hc
    simpa [Act.put, Array.toList_setIfInBounds] using this
theorem SR.l_rd (h : SR P w0 S0 rd0 k0 w a s ρ) {b : Nat} (hb : ρ.L b) (hr : ρ.rd = some b) : False := by
  cases hs : s.rd with
  | none => rw [h.rdn hs] at hr; cases hr
  | some j =>
    obtain ⟨rb, k1, _, _, k4⟩ := h.rdk j hs
    rw [hr] at k1; cases k1
    rcases k4 with k4 | k4
    · exact (h.ll b hb).2.1 k4
    · have := (h.ll b hb).1; omega
theorem SR.step2 (h : SR P w0 S0 rd0 k0 w a s ρ) {w' : World} {s' : ASt} {ρ' : Cx} (X T : Nat → Prop) (hx : Ext (fun b => X b ∨ ρ.rd = some b) w w') (hX : ∀ b, X b → ¬ ρ.S b ∧ ρ.rd ≠ some b ∧ w0.Own b)
    (hS : ∀ b, ρ.S b → ρ'.S b) (hS' : ∀ b, ρ'.S b → ρ.S b ∨ (w0.Own b ∧ b < w'.heap.size ∧ ρ.rd ≠ some b)) (hrd : ρ'.rd = ρ.rd) (hL : ρ'.L = ρ.L)
    (hrn : s'.rd = none ↔ s.rd = none) (hrk : ∀ k rb, s'.rd = some k → ρ.rd = some rb → RdOk w' ρ'.S rb (k0 + k)) (htm : s'.tmps = s.tmps)
    (hU : ∀ id, ρ'.U id ↔ s'.used id = true) (hused : ∀ id, s.used id = true → s'.used id = true)
    (hrow : ∀ id, ¬ T id → ρ'.row id = ρ.row id ∧ s'.rows id = s.rows id ∧ ρ'.len id = ρ.len id)
    (hkeep : ∀ id u g, ¬ T id → ρ.row id = some u → blk u = some g → ¬ X g ∧ ¬ ρ'.S g)
    (hle : ∀ id, T id → s.used id = true → ρ.len id ≤ ρ'.len id ∧ ∀ u, ρ'.row id = some u → ρ'.len id = ρ.len id → ρ.row id = some u)
    (hT : ∀ id r, T id → s'.rows id = some r → s'.used id = true ∧ ∃ u, ρ'.row id = some u ∧ ρ'.len id = r.es.length ∧ (Cx.Le w ρ w' ρ' → RowOk P w' ρ' w0.Own r u))
    (hTn : ∀ id, T id → s'.rows id = none → ρ'.row id = none)
    (hTd : ∀ id u g, T id → ρ'.row id = some u → blk u = some g → ¬ ρ'.S g ∧ ρ'.rd ≠ some g ∧ ∀ id' u', ρ'.row id' = some u' → blk u' = some g → id' = id)
    (hkp : ∀ id, T id → w0.K id = none ∨ ρ'.row id = none ∨ (ρ'.row id = ρ.row id ∧ ∀ r r', s.rows id = some r → s'.rows id = some r' → r.bx = true → r'.bx = true)) :
    SR P w0 S0 rd0 k0 w' a s' ρ' ∧ Cx.Le w ρ w' ρ' := by
  have le : Cx.Le w ρ w' ρ' := by
    refine ⟨fun b hb => ⟨hS b hb, fun o => ext_look hx (p := ⟨b, o, none⟩) (h.sl b hb).1 (fun hXb => hXb.elim (fun hXb => (hX b hXb).1 hb) (fun hr => (h.rl b hr).2 hb))⟩,
      fun b hb => ⟨by rw [hL]; exact hb, fun o => ext_look hx (p := ⟨b, o, none⟩) (Nat.lt_of_lt_of_le (h.ll b hb).1 h.ext.size) (fun hXb => hXb.elim (fun hXb => ?_) (fun hr => h.l_rd hb hr))⟩, fun id hid => ?_, fun b hb => by rw [hrd]; exact hb⟩
    · rcases (hX b hXb).2.2 with h1 | h1
      · have := (h.ll b hb).1; omega
      · exact (h.ll b hb).2.2 h1
    have hu := (h.us id).1 hid
    refine ⟨(hU id).2 (hused id hu), ?_⟩
    by_cases ht : T id
    · exact hle id ht hu
    · obtain ⟨h1, _, h3⟩ := hrow id ht
      rw [h1, h3]; exact ⟨Nat.le_refl _, fun _ h _ => h⟩
  refine ⟨⟨?_, h.df, ?_, fun b hb => hS b (h.s0 b hb), ?_, hU, ?_, ?_, ?_, ?_, ?_, ?_, (fun h0 => by rw [hrd]; exact h.rdn (hrn.1 h0)), (fun rb h0 => ⟨by rw [hrd]; exact (h.r0 rb h0).1, ?_⟩), (fun b hb => h.ll b (by rw [← hL]; exact hb)), ?_, fun id hid => hused id (h.rv id hid), fun b hb => Nat.lt_of_lt_of_le (h.av b hb) hx.size⟩, le⟩
  · rw [htm]; exact h.tm.le le
  · refine ⟨hx.os.trans h.ext.os, hx.tape.trans h.ext.tape, hx.output.trans h.ext.output, Nat.le_trans h.ext.size hx.size, fun k hk hn =>
      (hx.block k (Nat.lt_of_lt_of_le hk h.ext.size) (fun hXk => hXk.elim (fun hXk => ?_) (fun hr => ?_))).trans (h.ext.block k hk hn)⟩
    · rcases (hX k hXk).2.2 with h1 | h1
      · omega
      · exact hn (.inr h1)
    · cases hs : s.rd with
      | none => rw [h.rdn hs] at hr; cases hr
      | some j =>
        obtain ⟨rb, k1, _, _, k4⟩ := h.rdk j hs
        rw [hr] at k1; cases k1
        rcases k4 with k4 | k4
        · exact hn (.inl k4)
        · omega
  · intro b hb
    rcases hS' b hb with hb | ⟨h1, h2, _⟩
    · have := h.sl b hb; exact ⟨Nat.lt_of_lt_of_le this.1 hx.size, this.2⟩
    · exact ⟨h2, .inr h1⟩
  · intro id r hr
    by_cases ht : T id
    · obtain ⟨h1, u, h2, h2', h3⟩ := hT id r ht hr; exact ⟨h1, u, h2, h2', h3 le⟩
    · rw [(hrow id ht).2.1] at hr
      obtain ⟨h1, u, h2, h2', h3⟩ := h.rw id r hr
      exact ⟨hused id h1, u, by rw [(hrow id ht).1]; exact h2, by rw [(hrow id ht).2.2]; exact h2', h3.moved le hx (fun g hg hXg => hXg.elim (hkeep id u g ht h2 hg).1 (h.ns id u g h2 hg).2)⟩
  · intro id hr
    by_cases ht : T id
    · exact hTn id ht hr
    · rw [(hrow id ht).2.1] at hr; rw [(hrow id ht).1]; exact h.rn id hr
  · intro id id' u u' g h1 h2 h3 h4
    by_cases ht : T id
    · exact ((hTd id u g ht h1 h3).2.2 id' u' h2 h4).symm
    · by_cases ht' : T id'
      · exact (hTd id' u' g ht' h2 h4).2.2 id u h1 h3
      · rw [(hrow id ht).1] at h1; rw [(hrow id' ht').1] at h2
        exact h.dj id id' u u' g h1 h2 h3 h4
  · intro id u g h1 h3
    by_cases ht : T id
    · exact ⟨(hTd id u g ht h1 h3).1, (hTd id u g ht h1 h3).2.1⟩
    · rw [(hrow id ht).1] at h1
      exact ⟨(hkeep id u g ht h1 h3).2, by rw [hrd]; exact (h.ns id u g h1 h3).2⟩
  · intro rb hrb
    rw [hrd] at hrb
    refine ⟨Nat.lt_of_lt_of_le (h.rl rb hrb).1 hx.size, fun hb => ?_⟩
    rcases hS' rb hb with hb | ⟨_, _, h5⟩
    · exact (h.rl rb hrb).2 hb
    · exact h5 hrb
  · intro k hk
    cases hs : s.rd with
    | none => rw [hrn.2 hs] at hk; cases hk
    | some j =>
      obtain ⟨rb, h1, h2, h3, h4⟩ := h.rdk j hs
      refine ⟨rb, by rw [hrd]; exact h1, hrk k rb hk h1, fun hb => ?_, h4⟩
      rcases hS' rb hb with hb | ⟨_, _, h5⟩
      · exact h3 hb
      · exact h5 h1
  · cases hs : s'.rd with
    | none => have := (h.r0 rb h0).2; rw [hrn.1 hs] at this; cases this
    | some k => rfl
  · intro id u hK
    obtain ⟨h1, h2⟩ := h.kp id u hK
    refine ⟨h1, fun u' hu' => ?_⟩
    by_cases ht : T id
    · rcases hkp id ht with h3 | h3 | ⟨h3, h4⟩
      · rw [h3] at hK; cases hK
      · rw [h3] at hu'; cases hu'
      · rw [h3] at hu'
        obtain ⟨q1, q2⟩ := h2 u' hu'
        refine ⟨q1, fun r' hr' => ?_⟩
        cases hs : s.rows id with
        | none => rw [h.rn id hs] at hu'; cases hu'
        | some r => exact h4 r r' hs hr' (q2 r hs)
    · rw [(hrow id ht).1] at hu'
      rw [(hrow id ht).2.1]
      exact h2 u' hu'
theorem SR.k_none (h : SR P w0 S0 rd0 k0 w a s ρ) {id : Nat} (hid : s.used id = false) : w0.K id = none := by
  cases hK : w0.K id with
  | none => rfl
  | some u => have := h.rv id (h.kp id u hK).1; rw [hid] at this; cases this
theorem SR.kp2 (h : SR P w0 S0 rd0 k0 w a s ρ) {rows' : Nat → Option Row} (hb : ∀ id r', rows' id = some r' → ∃ r, s.rows id = some r ∧ r'.bx = r.bx) :
    ∀ id u, w0.K id = some u → 1000 ≤ id ∧ ∀ u', ρ.row id = some u' → u' = u ∧ ∀ r, rows' id = some r → r.bx = true := fun id u hK => by
  obtain ⟨h1, h2⟩ := h.kp id u hK
  refine ⟨h1, fun u' hu' => ⟨(h2 u' hu').1, fun r' hr' => ?_⟩⟩
  obtain ⟨r, q1, q2⟩ := hb id r' hr'
  rw [q2]; exact (h2 u' hu').2 r q1
theorem SR.step (h : SR P w0 S0 rd0 k0 w a s ρ) {w' : World} {s' : ASt} {ρ' : Cx} (X T : Nat → Prop) (hx : Ext X w w') (hX : ∀ b, X b → ¬ ρ.S b ∧ ρ.rd ≠ some b ∧ w0.Own b)
    (hS : ∀ b, ρ.S b → ρ'.S b) (hS' : ∀ b, ρ'.S b → ρ.S b ∨ (w0.Own b ∧ b < w'.heap.size ∧ ρ.rd ≠ some b)) (hrd : ρ'.rd = ρ.rd) (hL : ρ'.L = ρ.L) (hsrd : s'.rd = s.rd) (htm : s'.tmps = s.tmps)
    (hU : ∀ id, ρ'.U id ↔ s'.used id = true) (hused : ∀ id, s.used id = true → s'.used id = true)
    (hrow : ∀ id, ¬ T id → ρ'.row id = ρ.row id ∧ s'.rows id = s.rows id ∧ ρ'.len id = ρ.len id)
    (hkeep : ∀ id u g, ¬ T id → ρ.row id = some u → blk u = some g → ¬ X g ∧ ¬ ρ'.S g)
    (hle : ∀ id, T id → s.used id = true → ρ.len id ≤ ρ'.len id ∧ ∀ u, ρ'.row id = some u → ρ'.len id = ρ.len id → ρ.row id = some u)
    (hT : ∀ id r, T id → s'.rows id = some r → s'.used id = true ∧ ∃ u, ρ'.row id = some u ∧ ρ'.len id = r.es.length ∧ (Cx.Le w ρ w' ρ' → RowOk P w' ρ' w0.Own r u))
    (hTn : ∀ id, T id → s'.rows id = none → ρ'.row id = none)
    (hTd : ∀ id u g, T id → ρ'.row id = some u → blk u = some g → ¬ ρ'.S g ∧ ρ'.rd ≠ some g ∧ ∀ id' u', ρ'.row id' = some u' → blk u' = some g → id' = id)
    (hkp : ∀ id, T id → w0.K id = none ∨ ρ'.row id = none ∨ (ρ'.row id = ρ.row id ∧ ∀ r r', s.rows id = some r → s'.rows id = some r' → r.bx = true → r'.bx = true)) :
    SR P w0 S0 rd0 k0 w' a s' ρ' ∧ Cx.Le w ρ w' ρ' :=
  h.step2 X T (hx.mono fun _ hb => .inl hb) hX hS hS' hrd hL (by rw [hsrd]) (fun k rb hk hrb => by
    rw [hsrd] at hk
    obtain ⟨rb', h1, h2, h3, h4⟩ := h.rdk k hk
    rw [hrb] at h1; cases h1
    exact h2.moved hx (fun hXb => (hX rb hXb).2.1 hrb) (fun b hb => ⟨hS b hb, fun hXb => (hX b hXb).1 hb⟩)) htm hU hused hrow hkeep hle hT hTn hTd hkp
theorem SR.grow (h : SR P w0 S0 rd0 k0 w a s ρ) {w' : World} (hg : Grow w w') : SR P w0 S0 rd0 k0 w' a s ρ ∧ Cx.Le w ρ w' ρ :=
  h.step nil (fun _ => False) hg (fun _ h => h.elim) (fun _ h => h) (fun _ h => .inl h) rfl rfl rfl rfl h.us (fun _ h => h) (fun _ _ => ⟨rfl, rfl, rfl⟩)
    (fun id u g _ h1 h2 => ⟨fun h => h, (h.ns id u g h1 h2).1⟩) (fun _ h => h.elim) (fun _ _ h => h.elim) (fun _ h => h.elim) (fun _ _ _ h => h.elim) (fun _ h => h.elim)
def upd {α : Type} (f : Nat → α) (k : Nat) (v : α) (x : Nat) : α := if x = k then v else f x
theorem upd_same {α : Type} (f : Nat → α) (k : Nat) (v : α) : upd f k v k = v := by simp [upd]
theorem upd_ne {α : Type} (f : Nat → α) {k x : Nat} (v : α) (h : x ≠ k) : upd f k v x = f x := by simp [upd, h]
theorem upd_comm {α : Type} (f : Nat → α) {k j : Nat} (v u : α) (h : k ≠ j) : upd (upd f k v) j u = upd (upd f j u) k v := by
  funext x; unfold upd
  by_cases h1 : x = j
  · by_cases h2 : x = k
    · omega
    · rw [if_pos h1, if_neg h2, if_pos h1]
  · rw [if_neg h1]
    by_cases h2 : x = k
    · rw [if_pos h2, if_pos h2]
    · rw [if_neg h2, if_neg h2, if_neg h1]
def Cx.add (ρ : Cx) (id : Nat) (u : Value) (n : Nat) : Cx := { ρ with U := fun k => ρ.U k ∨ k = id, row := upd ρ.row id (some u), len := upd ρ.len id n }
def ASt.add (s : ASt) (id : Nat) (r : Row) : ASt := { s with rows := upd s.rows id (some r), used := upd s.used id true }
def Cx.kill (ρ : Cx) (id : Nat) : Cx := { ρ with row := upd ρ.row id none }
def ASt.kill (s : ASt) (id : Nat) : ASt := { s with rows := upd s.rows id none }
def ASt.turn (s : ASt) (id : Nat) (r : Row) : ASt := { s with rows := upd s.rows id (some r) }
theorem RowOk.base {B B' : Nat → Prop} {r : Row} {u : Value} (h : RowOk P w ρ B r u) (hB : ∀ g, B g → B' g) : RowOk P w ρ B' r u := by
  obtain ⟨h0, h1, hb, xs, h2, h4⟩ := h
  exact ⟨⟨h0.1, fun g hg => hB g (h0.2 g hg)⟩, h1, hb, xs, h2, h4⟩
theorem SR.swap (h : SR P w0 S0 rd0 k0 w a s ρ) {w' : World} (id id' : Nat) (X : Nat → Prop) (hx : Ext X w w') (hX : ∀ b, X b → ∃ u, ρ.row id = some u ∧ blk u = some b)
    (hid : s.used id' = false) (r : Row) (u' : Value) (hu' : ∀ g, blk u' = some g → (∃ u, ρ.row id = some u ∧ blk u = some g) ∨ w.heap.size ≤ g)
    (hok : ∀ ρ', Cx.Le w ρ w' ρ' → RowOk P w' ρ' w0.Own r u') :
    SR P w0 S0 rd0 k0 w' a ((s.kill id).add id' r) ((ρ.kill id).add id' u' r.es.length) ∧ Cx.Le w ρ w' ((ρ.kill id).add id' u' r.es.length) := by
  have fr : ∀ g, blk u' = some g → ¬ ρ.S g ∧ ρ.rd ≠ some g := fun g hg => by
    rcases hu' g hg with ⟨u, h1, h2⟩ | h1
    · exact h.ns id u g h1 h2
    · exact ⟨fun hb => by have := (h.sl g hb).1; omega, fun hb => by have := (h.rl g hb).1; omega⟩
  have n0 : ρ.row id' = none := by
    cases hs : s.rows id' with
    | none => exact h.rn id' hs
    | some r => have := (h.rw id' r hs).1; rw [hid] at this; cases this
  have nid : id ≠ id' ∨ ρ.row id = none := by
    by_cases e : id = id'
    · exact .inr (e ▸ n0)
    · exact .inl e
  refine h.step X (fun k => k = id ∨ k = id') hx (fun b hb => ?_) (fun _ h => h) (fun _ h => .inl h) rfl rfl rfl rfl (fun k => ?_) (fun k hk => by
    simp only [ASt.add, ASt.kill, upd]
    by_cases e : k = id'
    · simp [e]
    · simp [e, hk]) (fun k hk => ?_) (fun k u g hk h1 h2 => ?_) (fun k hk hu => ?_) (fun k r' hk h1 => ?_) (fun k hk h1 => ?_) (fun k u g hk h1 h2 => ?_) (fun k hk => ?_)
  · obtain ⟨u, h1, h2⟩ := hX b hb
    exact ⟨(h.ns id u b h1 h2).1, (h.ns id u b h1 h2).2, (h.row_lt h1 h2).1⟩
  · simp only [Cx.add, Cx.kill, ASt.add, ASt.kill, upd, h.us]
    by_cases e : k = id'
    · simp [e]
    · simp [e]
  · simp only [Cx.add, Cx.kill, ASt.add, ASt.kill]
    have k1 : k ≠ id := fun e => hk (.inl e)
    have k2 : k ≠ id' := fun e => hk (.inr e)
    rw [upd_ne _ _ k2, upd_ne _ _ k1, upd_ne _ _ k2, upd_ne _ _ k1, upd_ne _ _ k2]; exact ⟨rfl, rfl, rfl⟩
  · refine ⟨fun hXg => ?_, (h.ns k u g h1 h2).1⟩
    obtain ⟨u2, h3, h4⟩ := hX g hXg
    exact hk (.inl (h.dj k id u u2 g h1 h3 h2 h4))
  · have k2 : k ≠ id' := fun e => by rw [e, hid] at hu; cases hu
    rcases hk with rfl | rfl
    · simp only [Cx.add, Cx.kill]
      rw [upd_ne _ _ k2, upd_ne _ _ k2, upd_same]; exact ⟨Nat.le_refl _, fun u h => by cases h⟩
    · exact absurd rfl k2
  · by_cases k2 : k = id'
    · subst k2
      simp only [ASt.add, upd_same, Option.some.injEq] at h1
      subst h1
      exact ⟨by simp [ASt.add, upd_same], u', by simp [Cx.add, upd_same], by simp [Cx.add, upd_same], fun le => hok _ le⟩
    · rcases hk with rfl | rfl
      · simp only [ASt.add, ASt.kill] at h1
        rw [upd_ne _ _ k2, upd_same] at h1; cases h1
      · exact absurd rfl k2
  · by_cases k2 : k = id'
    · subst k2; simp [ASt.add, upd_same] at h1
    · rcases hk with rfl | rfl
      · simp only [Cx.add, Cx.kill]
        rw [upd_ne _ _ k2, upd_same]
      · exact absurd rfl k2
  · have eu : k = id' ∧ u = u' := by
      by_cases k2 : k = id'
      · subst k2; simp only [Cx.add, upd_same, Option.some.injEq] at h1; exact ⟨rfl, h1.symm⟩
      · rcases hk with rfl | rfl
        · simp only [Cx.add, Cx.kill] at h1
          rw [upd_ne _ _ k2, upd_same] at h1; cases h1
        · exact absurd rfl k2
    obtain ⟨rfl, rfl⟩ := eu
    refine ⟨(fr g h2).1, (fr g h2).2, fun k' u2 h3 h4 => ?_⟩
    by_cases k3 : k' = k
    · exact k3
    · simp only [Cx.add] at h3
      rw [upd_ne _ _ k3] at h3
      simp only [Cx.kill] at h3
      by_cases k4 : k' = id
      · subst k4; rw [upd_same] at h3; cases h3
      · rw [upd_ne _ _ k4] at h3
        rcases hu' g h2 with ⟨u3, h5, h6⟩ | h5
        · exact absurd (h.dj k' id u2 u3 g h3 h5 h4 h6) k4
        · have := (h.row_lt h3 h4).2; omega
  · by_cases k2 : k = id'
    · exact .inl (by rw [k2]; exact h.k_none hid)
    · rcases hk with rfl | rfl
      · refine .inr (.inl ?_)
        simp only [Cx.add, Cx.kill]
        rw [upd_ne _ _ k2, upd_same]
      · exact absurd rfl k2
theorem SR.new (h : SR P w0 S0 rd0 k0 w a s ρ) {w' : World} (hg : Grow w w') (id : Nat) (hid : s.used id = false) (r : Row) (u : Value) (hu : ∀ g, blk u = some g → w.heap.size ≤ g) (hok : RowOk P w' ρ (fun g => w.heap.size ≤ g) r u) :
    SR P w0 S0 rd0 k0 w' a (s.add id r) (ρ.add id u r.es.length) ∧ Cx.Le w ρ w' (ρ.add id u r.es.length) := by
  have n0 : ρ.row id = none := by
    cases hs : s.rows id with
    | none => exact h.rn id hs
    | some r => have := (h.rw id r hs).1; rw [hid] at this; cases this
  have s0 : s.rows id = none := by
    cases hs : s.rows id with
    | none => rfl
    | some r => have := (h.rw id r hs).1; rw [hid] at this; cases this
  have e1 : ρ.kill id = ρ := by
    cases ρ; simp only [Cx.kill, Cx.mk.injEq, true_and, and_true]
    funext x; unfold upd; split
    · rename_i e; subst e; exact n0.symm
    · rfl
  have e2 : s.kill id = s := by
    cases s; simp only [ASt.kill, ASt.mk.injEq, true_and, and_true]
    funext x; unfold upd; split
    · rename_i e; subst e; exact s0.symm
    · rfl
  have := h.swap (w' := w') id id nil hg (fun _ h => h.elim) hid r u (fun g hg' => .inr (hu g hg')) (fun ρ' hl => by
    obtain ⟨h0, h1, hb, xs, h2, h3, h4⟩ := hok
    have hl' : Cx.Le w' ρ w' ρ' := ⟨fun b hb => ⟨(hl.S b hb).1, fun _ => rfl⟩, fun b hb => ⟨(hl.L b hb).1, fun _ => rfl⟩, hl.U, hl.rd⟩
    exact RowOk.base ⟨h0, h1, hb, xs, h2, h3.le hl', h4⟩ (fun g hg => .inl (Nat.le_trans h.ext.size hg)))
  rw [e1, e2] at this
  exact this
theorem SR.turn (h : SR P w0 S0 rd0 k0 w a s ρ) {w' : World} (id : Nat) (u : Value) (g : Nat) (hu : ρ.row id = some u) (hg : blk u = some g) (hx : Ext (fun b => b = g) w w') (r : Row) (hlen : r.es.length = ρ.len id) (hbx : ∀ r0, s.rows id = some r0 → r.bx = r0.bx)
    (hok : ∀ ρ', Cx.Le w ρ w' ρ' → RowOk P w' ρ' w0.Own r u) : SR P w0 S0 rd0 k0 w' a (s.turn id r) ρ ∧ Cx.Le w ρ w' ρ := by
  have hin : s.used id = true := by
    cases hs : s.rows id with
    | none => rw [h.rn id hs] at hu; cases hu
    | some r => exact (h.rw id r hs).1
  refine h.step (fun b => b = g) (fun k => k = id) hx (fun b hb => ?_) (fun _ h => h) (fun _ h => .inl h) rfl rfl rfl rfl h.us (fun _ h => h) (fun k hk => ?_) (fun k u2 g2 hk h1 h2 => ?_) (fun k hk _ => ⟨Nat.le_refl _, fun u h _ => h⟩) (fun k r' hk h1 => ?_) (fun k hk h1 => ?_) (fun k u2 g2 hk h1 h2 => ?_) (fun k hk => .inr (.inr ⟨rfl, fun r0 r1 h1 h2 h3 => ?_⟩))
  · subst hb; exact ⟨(h.ns id u b hu hg).1, (h.ns id u b hu hg).2, (h.row_lt hu hg).1⟩
  · exact ⟨rfl, upd_ne _ _ hk, rfl⟩
  · exact ⟨fun e => hk (by subst e; exact h.dj k id u2 u g2 h1 hu h2 hg), (h.ns k u2 g2 h1 h2).1⟩
  · subst hk
    simp only [ASt.turn, upd_same, Option.some.injEq] at h1; subst h1
    exact ⟨hin, u, hu, hlen.symm, fun le => hok _ le⟩
  · subst hk; simp [ASt.turn, upd_same] at h1
  · subst hk
    exact ⟨(h.ns k u2 g2 h1 h2).1, (h.ns k u2 g2 h1 h2).2, fun id' u' h3 h4 => h.dj id' k u' u2 g2 h3 h1 h4 h2⟩
  · subst hk
    simp only [ASt.turn, upd_same, Option.some.injEq] at h2; subst h2
    rw [hbx r0 h1]; exact h3
theorem SR.regrow (h : SR P w0 S0 rd0 k0 w a s ρ) {w' : World} (id : Nat) (u u' : Value) (hu : ρ.row id = some u) (hx : Ext (fun b => blk u = some b) w w') (hu' : ∀ g, blk u' = some g → blk u = some g ∨ w.heap.size ≤ g) (r : Row)
    (hbx : ∃ r0, s.rows id = some r0 ∧ r0.bx = false) (hlen : ρ.len id ≤ r.es.length) (hsame : r.es.length = ρ.len id → u' = u) (hok : ∀ ρ', Cx.Le w ρ w' ρ' → RowOk P w' ρ' w0.Own r u') :
    SR P w0 S0 rd0 k0 w' a (s.turn id r) { ρ with row := upd ρ.row id (some u'), len := upd ρ.len id r.es.length } ∧ Cx.Le w ρ w' { ρ with row := upd ρ.row id (some u'), len := upd ρ.len id r.es.length } := by
  have hin : s.used id = true := by
    cases hs : s.rows id with
    | none => rw [h.rn id hs] at hu; cases hu
    | some r => exact (h.rw id r hs).1
  have fr : ∀ g, blk u' = some g → ¬ ρ.S g ∧ ρ.rd ≠ some g := fun g hg => by
    rcases hu' g hg with h1 | h1
    · exact h.ns id u g hu h1
    · exact ⟨fun hb => by have := (h.sl g hb).1; omega, fun hb => by have := (h.rl g hb).1; omega⟩
  refine h.step (fun b => blk u = some b) (fun k => k = id) hx (fun b hb => ?_) (fun _ h => h) (fun _ h => .inl h) rfl rfl rfl rfl h.us (fun _ h => h) (fun k hk => ?_) (fun k u2 g2 hk h1 h2 => ?_) (fun k hk _ => ?_) (fun k r' hk h1 => ?_) (fun k hk h1 => ?_) (fun k u2 g2 hk h1 h2 => ?_) (fun k hk => .inl ?_)
  · exact ⟨(h.ns id u b hu hb).1, (h.ns id u b hu hb).2, (h.row_lt hu hb).1⟩
  · exact ⟨upd_ne _ _ hk, upd_ne _ _ hk, upd_ne _ _ hk⟩
  · exact ⟨fun e => hk (h.dj k id u2 u g2 h1 hu h2 e), (h.ns k u2 g2 h1 h2).1⟩
  · subst hk
    simp only [upd_same, Option.some.injEq]
    exact ⟨hlen, fun u2 h1 h2 => by rw [← h1, hsame h2]; exact hu⟩
  · subst hk
    simp only [ASt.turn, upd_same, Option.some.injEq] at h1; subst h1
    exact ⟨hin, u', upd_same _ _ _, upd_same _ _ _, fun le => hok _ le⟩
  · subst hk; simp [ASt.turn, upd_same] at h1
  · subst hk
    simp only [upd_same, Option.some.injEq] at h1; subst h1
    refine ⟨(fr g2 h2).1, (fr g2 h2).2, fun k' u3 h3 h4 => ?_⟩
    by_cases k3 : k' = k
    · exact k3
    · simp only at h3
      rw [upd_ne _ _ k3] at h3
      rcases hu' g2 h2 with h5 | h5
      · exact h.dj k' k u3 u g2 h3 hu h4 h5
      · have := (h.row_lt h3 h4).2; omega
  · subst hk
    cases hK : w0.K k with
    | none => rfl
    | some v =>
      obtain ⟨r0, h1, h2⟩ := hbx
      have := ((h.kp k v hK).2 u hu).2 r0 h1
      rw [h2] at this; cases this
def Cx.hold (ρ : Cx) (id g : Nat) : Cx := { ρ with S := fun b => ρ.S b ∨ b = g, row := upd ρ.row id none }
theorem SR.hold (h : SR P w0 S0 rd0 k0 w a s ρ) (id : Nat) (r : Row) (hr : s.rows id = some r) :
    ∃ ρ', SR P w0 S0 rd0 k0 w a (s.kill id) ρ' ∧ Cx.Le w ρ w ρ' ∧ ∀ u, ρ.row id = some u → (∃ a c, u = .slice a r.es.length c ∧ r.es.length ≤ c ∧ r.es.length ≤ big ∧ (r.es = [] ∨ ∃ g, a = some ⟨g, 0, none⟩ ∧ ρ'.S g ∧ RepE w ρ' g 0 r.es)) ∧ (∀ x ∈ r.es, x.length = r.sz) := by
  obtain ⟨hin, u, hu, hln, hok⟩ := h.rw id r hr
  obtain ⟨hsz, hlen, hbx, xs, hat, hrep, hone⟩ := hok
  have hat0 := hat
  rcases hat with ⟨hn, rfl, a0, rfl⟩ | ⟨g, cap, cur, rfl, hp, hb, hg, hn, hcap, hcs, htk, hl⟩
  · have he : r.es = [] := List.length_eq_zero_iff.1 hn
    obtain ⟨h1, h2⟩ := h.step (w' := w) (s' := s.kill id) (ρ' := ρ.kill id) nil (fun k => k = id) (Ext.refl _ _) (fun _ h => h.elim) (fun _ h => h) (fun _ h => .inl h) rfl rfl rfl rfl h.us (fun _ h => h)
      (fun k hk => ⟨upd_ne _ _ hk, upd_ne _ _ hk, rfl⟩) (fun k u g _ h1 h2 => ⟨fun h => h, (h.ns k u g h1 h2).1⟩) (fun k hk _ => ⟨Nat.le_refl _, fun u2 h1 => by subst hk; simp [Cx.kill, upd_same] at h1⟩)
      (fun k r' hk h1 => by subst hk; simp [ASt.kill, upd_same] at h1) (fun k hk _ => by subst hk; simp [Cx.kill, upd_same]) (fun k u2 g2 hk h1 _ => by subst hk; simp [Cx.kill, upd_same] at h1) (fun k hk => .inr (.inl (by subst hk; simp [Cx.kill, upd_same])))
    refine ⟨_, h1, h2, fun u hu' => ?_⟩
    rw [hu] at hu'; cases hu'
    exact ⟨⟨a0, 0, by rw [he]; rfl, by rw [he]; exact Nat.le_refl _, by rw [he]; exact Nat.zero_le _, .inl he⟩, hlen⟩
  · have hbl : blk (.slice (some ⟨g, 0, none⟩) r.es.length cap) = some g := blk_slice _ _ _ hp
    have hgn := h.ns id _ g hu hbl
    have hglt := h.row_lt hu hbl
    obtain ⟨h1, h2⟩ := h.step (w' := w) (s' := s.kill id) (ρ' := ρ.hold id g) nil (fun k => k = id) (Ext.refl _ _) (fun _ h => h.elim) (fun _ h => .inl h) (fun b hb => by
        rcases hb with hb | rfl
        · exact .inl hb
        · exact .inr ⟨hglt.1, hglt.2, hgn.2⟩) rfl rfl rfl rfl h.us (fun _ h => h)
      (fun k hk => ⟨upd_ne _ _ hk, upd_ne _ _ hk, rfl⟩) (fun k u2 g2 hk h1 h2 => ⟨fun h => h, fun hb => by
        rcases hb with hb | rfl
        · exact (h.ns k u2 g2 h1 h2).1 hb
        · exact hk (h.dj k id u2 _ g2 h1 hu h2 hbl)⟩) (fun k hk _ => ⟨Nat.le_refl _, fun u2 h1 => by subst hk; simp [Cx.hold, upd_same] at h1⟩)
      (fun k r' hk h1 => by subst hk; simp [ASt.kill, upd_same] at h1) (fun k hk _ => by subst hk; simp [Cx.hold, upd_same]) (fun k u2 g2 hk h1 _ => by subst hk; simp [Cx.hold, upd_same] at h1) (fun k hk => .inr (.inl (by subst hk; simp [Cx.hold, upd_same])))
    refine ⟨_, h1, h2, fun u hu' => ?_⟩
    rw [hu] at hu'; cases hu'
    refine ⟨⟨_, cap, rfl, hn, by unfold maxLen at hcap; unfold big; omega, .inr ⟨g, rfl, .inr rfl, RepE.of_get hlen (fun i e he => RepC.of_get (fun j c hc => ?_))⟩⟩, hlen⟩
    have hlt : j < r.sz := by rw [← hlen e (List.mem_of_getElem? he)]; exact (List.getElem?_eq_some_iff.1 hc).1
    have hf := flat_get hlen he hlt
    rw [hc] at hf
    obtain ⟨v, hv, hrv⟩ := hrep.get hf
    refine ⟨v, ?_, hone v (List.mem_of_getElem? hv), hrv.le h2⟩
    rw [Nat.zero_add]
    exact hat0.cells _ _ hv
end
end Go.Proofs.Ytgfnmhfdmmnaoaa.Eng
namespace Go.Proofs.Ytgfnmhfdmmnaoaa.Eng
open Go Go.RowKit
inductive ZK where
  | int (k : IntKind)
  | bool
  | str
  | slice
  | other
  deriving DecidableEq
def ZK.av : ZK → AV
  | .int k => .int k 0
  | .bool => .bool false
  | .str => .str ⟨#[]⟩
  | .slice => .view .tight 0 []
  | .other => .any
def ZK.fits : ZK → Value → Bool
  | .int k, .int k' n => k == k' && n == 0
  | .bool, .bool b => !b
  | .str, .string s => s.data.toList.isEmpty
  | .slice, .slice _ n c => n == 0 && c == 0
  | .other, v => v.oneCell'
  | _, _ => false
inductive TD where
  | int (k : IntKind)
  | bool
  | str
  | slice (e : TypeId)
  | struct (fs : List (Nat × TypeId))
  | other
  deriving DecidableEq
structure TI where
  size : Nat
  bytes : Nat
  d : TD
  z : List ZK
def TD.fits : TD → TypeDesc → Bool
  | .int k, .int k' => k == k'
  | .bool, .bool => true
  | .str, .string => true
  | .slice e, .slice e' => e == e'
  | .struct fs, .struct gs => gs.toList.map (fun f => (f.offset, f.type)) == fs
  | .other, .pointer _ => true
  | .other, .func _ _ _ => true
  | .other, .tuple _ => true
  | _, _ => false
def zsFit : List ZK → List Value → Bool
  | [], [] => true
  | z :: zs, v :: vs => z.fits v && zsFit zs vs
  | _, _ => false
def TI.ok (P : Program) (t : TypeId) (i : TI) : Bool :=
  match P.info? t, P.underlying t with
  | some j, some d => j.size == i.size && j.bytes == i.bytes && i.d.fits d &&
      (match j.zero, i.d with
       | some (.agg vs), .struct _ => zsFit i.z vs.toList && vs.size == i.size
       | some v, .struct _ => false
       | some v, _ => zsFit i.z [v] && i.size == 1 && v.oneCell'
       | none, .other => true
       | none, _ => false)
  | _, _ => false
abbrev Tab := TypeId → Option TI
def Tab.Ok (P : Program) (T : Tab) : Prop := ∀ t i, T t = some i → i.ok P t = true
def tabOf (l : List (TypeId × TI)) : Tab := fun t => (l.find? (fun p => p.1 == t)).map (·.2)
theorem tabOf_ok {P : Program} {l : List (TypeId × TI)} (h : l.all (fun p => p.2.ok P p.1) = true) : Tab.Ok P (tabOf l) := by
  intro t i hi
  simp only [tabOf, Option.map_eq_some_iff] at hi
  obtain ⟨p, hp, rfl⟩ := hi
  have h1 := List.find?_some hp
  have h2 := List.mem_of_find?_eq_some hp
  have := List.all_eq_true.1 h p h2
  simp at h1
  rw [← h1]; exact this
structure TI.Says (P : Program) (t : TypeId) (i : TI) (d : TypeDesc) (j : TypeInfo) : Prop where
  un : P.underlying t = some d
  inf : P.info? t = some j
  sz : j.size = i.size
  by' : j.bytes = i.bytes
  dd : i.d.fits d = true
theorem TI.says {P : Program} {t : TypeId} {i : TI} (h : i.ok P t = true) : ∃ d j, TI.Says P t i d j := by
  unfold TI.ok at h
  split at h
  · rename_i j d h1 h2
    simp only [Bool.and_eq_true, beq_iff_eq] at h
    exact ⟨d, j, h2, h1, h.1.1.1, h.1.1.2, h.1.2⟩
  · cases h
theorem TI.Says.cells {P : Program} {t : TypeId} {i : TI} {d : TypeDesc} {j : TypeInfo} (h : TI.Says P t i d j) : P.cellsOf t = i.size := by
  unfold Program.cellsOf; rw [h.inf]; exact h.sz
theorem run_underlying' {P : Program} {t : TypeId} {d : TypeDesc} (h : P.underlying t = some d) (w : World) : (underlying t).run P w = .ok d w := by
  simp [underlying, h]
theorem TI.Says.sizeOf {P : Program} {t : TypeId} {i : TI} {d : TypeDesc} {j : TypeInfo} (h : TI.Says P t i d j) (w : World) : (Go.sizeOf t).run P w = .ok i.size w := by
  simp [Go.sizeOf, typeInfo, h.inf, h.sz]
def ofVal0 : Value → AV
  | .int k n => .int k n
  | .bool b => .bool b
  | .string s => if s.size ≤ big then .str s else .any
  | .slice _ 0 0 => .view .tight 0 []
  | _ => .any
def ofVal : Value → AV
  | .agg cs => if cs.toList.all Value.oneCell' then .agg (cs.toList.map ofVal0) else .any
  | v => ofVal0 v
def aev (s : ASt) : Operand → AV
  | .tmp t => (s.tmps[t]?).getD .any
  | .const v => ofVal v
  | .func f => .fn f []
  | _ => .any
theorem ofVal0_rep (w : World) (ρ : Cx) (v : Value) : Rep w ρ (ofVal0 v) v := by
  unfold ofVal0
  split
  · exact rep_int.2 rfl
  · exact rep_bool.2 rfl
  · split
    · exact rep_str.2 ⟨rfl, by assumption⟩
    · exact rep_any _
  · exact rep_view.2 ⟨_, 0, rfl, fun _ => rfl, Nat.le_refl _, Nat.zero_le _, (fun e he => by cases he), .inl rfl⟩
  · exact rep_any _
theorem ofVal_rep (w : World) (ρ : Cx) (v : Value) : Rep w ρ (ofVal v) v := by
  unfold ofVal
  split
  · rename_i cs
    split
    · rename_i h
      refine rep_agg.2 ⟨cs.toList, rfl, fun u hu => List.all_eq_true.1 h u hu, RepL.of_get (by simp) (fun i c v h1 h2 => ?_)⟩
      rw [List.getElem?_map, h2] at h1
      simp at h1; subst h1
      exact ofVal0_rep w ρ v
    · exact rep_any _
  · exact ofVal0_rep w ρ v
section
variable {P : Program} {w0 : W0} {S0 : Nat → Prop} {rd0 : Option Nat} {k0 : Nat} {w : World} {a : Act} {s : ASt} {ρ : Cx}
theorem aev_rep (h : SR P w0 S0 rd0 k0 w a s ρ) (x : Operand) : Rep w ρ (aev s x) (a.eval x) := by
  cases x with
  | tmp t =>
    unfold aev Act.eval
    cases ht : s.tmps[t]? with
    | none => dsimp only; rw [ht]; exact rep_any _
    | some c =>
      obtain ⟨v, hv, hr⟩ := h.tm.get ht
      dsimp only
      rw [ht, Option.getD_some]
      have : a.tmps.getD t undef = v := by
        rw [Array.getElem?_toList] at hv
        rw [Array.getD_eq_getD_getElem?, hv]; rfl
      rw [this]; exact hr
  | const v => exact ofVal_rep w ρ v
  | global g => exact rep_any _
  | func f => exact rep_fn.2 ⟨[], rfl, by unfold RepL; rfl⟩
end
def cellsTo (i : TI) (cs : List AV) : Option AV :=
  match i.d with
  | .struct _ => if i.size ≤ cs.length then some (.agg (cs.take i.size)) else none
  | _ => cs.head?
def ASt.at (s : ASt) (dr : Bool) : AV → Option (List AV)
  | .eptr _ cs => some cs
  | .ptr bx sz n id i j =>
    if dr && !bx then none else
    match s.rows id with
    | some r => if r.bx == bx && r.sz == sz && r.es.length == n then (match r.es[i]? with | some e => some (e.drop j) | none => none) else none
    | none => none
  | _ => none
def aload (T : Tab) (dr : Bool) (s : ASt) (t : TypeId) (x : AV) : Option AV :=
  match T t, s.at dr x with
  | some i, some cs => cellsTo i cs
  | _, _ => none
def acmp (op : BinOp) (a b : Int) : Option AV :=
  match op with
  | .eql => some (.bool (a == b))
  | .neq => some (.bool (a != b))
  | .lss => some (.bool (decide (a < b)))
  | .leq => some (.bool (decide (a ≤ b)))
  | .gtr => some (.bool (decide (a > b)))
  | .geq => some (.bool (decide (a ≥ b)))
  | _ => none
def aint (op : BinOp) (k : IntKind) (a b : Int) : Option AV :=
  match op with
  | .add => some (.int k (k.wrap (a + b)))
  | .sub => some (.int k (k.wrap (a - b)))
  | .mul => some (.int k (k.wrap (a * b)))
  | .quo => if b = 0 then none else some (.int k (k.wrap (a.tdiv b)))
  | .rem => if b = 0 then none else some (.int k (a.tmod b))
  | .eql | .neq | .lss | .leq | .gtr | .geq => acmp op a b
  | _ => none
@[irreducible] def eqs (a b : ByteArray) : Bool := a.toList == b.toList
@[irreducible] def lts (a b : ByteArray) : Bool := Op.bytesLess a.toList b.toList
theorem eqs_def (a b : ByteArray) : eqs a b = (a.toList == b.toList) := by unfold eqs; rfl
theorem lts_def (a b : ByteArray) : lts a b = Op.bytesLess a.toList b.toList := by unfold lts; rfl
def astr (op : BinOp) (a b : ByteArray) : Option AV :=
  match op with
  | .add => if a.size + b.size ≤ big then some (.str (a ++ b)) else none
  | .eql => some (.bool (eqs a b))
  | .neq => some (.bool !(eqs a b))
  | .lss => some (.bool (lts a b))
  | .leq => some (.bool (lts a b || eqs a b))
  | .gtr => some (.bool !(lts a b || eqs a b))
  | .geq => some (.bool !(lts a b))
  | _ => none
def abin (T : Tab) (op : BinOp) (t : TypeId) (x y : AV) : Option AV :=
  match x, y with
  | .int k a, .int k' b => if k = k' then aint op k a b else none
  | .str a, .str b => astr op a b
  | .bool a, .bool b =>
    match T t with
    | some ⟨_, _, .bool, _⟩ => (match op with | .eql => some (.bool (a == b)) | .neq => some (.bool !(a == b)) | _ => none)
    | _ => none
  | _, _ => none
def aun (op : UnOp) (x : AV) : Option AV :=
  match op, x with
  | .not, .bool b => some (.bool !b)
  | .neg, .int k n => some (.int k (k.wrap (0 - n)))
  | _, _ => none
def afield (T : Tab) (t : TypeId) (x : AV) (f : Nat) : Option AV :=
  match T t, x with
  | some ⟨_, _, .struct fs, _⟩, .agg cs =>
    match fs[f]? with
    | some (o, ft) => (match T ft with
        | some i => (match i.d with
            | .struct _ => if o + i.size ≤ cs.length then some (.agg ((cs.drop o).take i.size)) else none
            | _ => cs[o]?)
        | none => none)
    | none => none
  | _, _ => none
def afieldAddr (T : Tab) (t : TypeId) (x : AV) (f : Nat) : Option AV :=
  match T t with
  | some ⟨_, _, .struct fs, _⟩ =>
    match fs[f]? with
    | some (o, ft) => (match T ft with
        | some i => if i.size = 0 then none else
            (match x with
             | .eptr t cs => some (.eptr t (cs.drop o))
             | .ptr bx sz n id k j => some (.ptr bx sz n id k (j + o))
             | _ => none)
        | none => none)
    | none => none
  | _ => none
def aindexAddr (T : Tab) (t : TypeId) (x y : AV) : Option AV :=
  match T t, y with
  | some ⟨_, _, .slice e, _⟩, .int _ n =>
    match T e with
    | some i => (match x with
        | .view t sz es => if sz = i.size ∧ 0 ≤ n then (match es[n.toNat]? with | some c => some (.eptr t c) | none => none) else none
        | .own id m => if 0 ≤ n ∧ n < m then some (.ptr false i.size m id n.toNat 0) else none
        | _ => none)
    | none => none
  | _, _ => none
def aindex (T : Tab) (t : TypeId) (x y : AV) : Option AV :=
  match T t, x, y with
  | some ⟨_, _, .str, _⟩, .str b, .int _ n => if 0 ≤ n then (match b[n.toNat]? with | some c => some (.int .u8 c.toNat) | none => none) else none
  | _, _, _ => none
def alen (T : Tab) (t : TypeId) (x : AV) : Option AV :=
  match T t, x with
  | some ⟨_, _, .str, _⟩, .str b => some (.int .i64 b.size)
  | some ⟨_, _, .slice _, _⟩, .view _ _ es => some (.int .i64 es.length)
  | some ⟨_, _, .slice _, _⟩, .own _ n => some (.int .i64 n)
  | _, _ => none
def bytesV : List (List AV) → Option (List UInt8)
  | [] => some []
  | [.int .u8 n] :: es => if 0 ≤ n ∧ n ≤ 255 then (bytesV es).map (UInt8.ofNat n.toNat :: ·) else none
  | _ => none
def strV : Option (List UInt8) → Option AV
  | some (b :: l) => some (.str ⟨(b :: l).toArray⟩)
  | _ => none
def isU8 : Option TI → Bool
  | some ⟨_, _, .int .u8, _⟩ => true
  | _ => false
def aconv (T : Tab) (src dst : TypeId) (x : AV) : Option AV :=
  match T src, T dst, x with
  | some ⟨_, _, .int _, _⟩, some ⟨_, _, .int k, _⟩, .int _ n => some (.int k (k.wrap n))
  | some ⟨_, _, .str, _⟩, some ⟨_, _, .str, _⟩, .str b => some (.str b)
  | some ⟨_, _, .slice e, _⟩, some ⟨_, _, .str, _⟩, .view _ _ es => if isU8 (T e) then strV (bytesV es) else none
  | _, _, _ => none
def anil : AV → Option AV
  | .eptr t cs => some (.eptr t cs)
  | .ptr bx sz n id i j => some (.ptr bx sz n id i j)
  | .rdr => some .rdr
  | _ => none
def abound (d : Nat) (m : Nat) : Option AV → Option Nat
  | none => some d
  | some (.int _ n) => if 0 ≤ n ∧ n ≤ m then some n.toNat else none
  | _ => none
def aslice (T : Tab) (t : TypeId) (x : AV) (lo hi : Option AV) : Option AV :=
  match T t, x with
  | some ⟨_, _, .str, _⟩, .str b =>
    match abound b.size b.size hi with
    | some h => (match abound 0 h lo with | some l => some (.str (b.extract l h)) | none => none)
    | none => none
  | some ⟨_, _, .slice e, _⟩, .view t sz es =>
    match T e, abound es.length es.length hi with
    | some i, some h => if i.size = sz then (match abound 0 h lo with | some l => some (.view t.cut sz ((es.take h).drop l)) | none => none) else none
    | _, _ => none
  | _, _ => none
end Go.Proofs.Ytgfnmhfdmmnaoaa.Eng
namespace Go.Proofs.Ytgfnmhfdmmnaoaa.Eng
open Go Go.RowKit
section
variable {P : Program} {w : World}
theorem run_load1 {p : Addr} {v : Value} (h : w.cell? p = some v) (m : Mode) : (load p m).run P w = .ok v w := by simp [load, Sem.run, h]
theorem run_cellsFrom {b o : Nat} : ∀ {vs : List Value} {i : Nat} {acc : Array Value}, (∀ j v, vs[j]? = some v → w.cell? ⟨b, o + (i + j), none⟩ = some v) →
    (loadCellsFrom ⟨b, o, none⟩ i vs.length acc).run P w = .ok (acc ++ vs.toArray) w
  | [], i, acc, _ => by simp [loadCellsFrom]
  | v :: vs, i, acc, h => by
    have h0 := h 0 v rfl
    rw [Nat.add_zero] at h0
    simp only [List.length_cons, loadCellsFrom, Sem.run_bind, addr_add, run_load1 h0, Result.andThen_ok]
    rw [run_cellsFrom (vs := vs) (fun j u hj => by have := h (j + 1) u (by simpa using hj); rwa [show o + (i + (j + 1)) = o + (i + 1 + j) by omega] at this)]
    congr 1
    simp
theorem run_cells {b o : Nat} {vs : List Value} (h : ∀ j v, vs[j]? = some v → w.cell? ⟨b, o + j, none⟩ = some v) : (loadCells ⟨b, o, none⟩ vs.length).run P w = .ok vs.toArray w := by
  unfold loadCells
  rw [run_cellsFrom (fun j v hj => by rw [Nat.zero_add]; exact h j v hj)]
  simp
theorem RepC.vals {ρ : Cx} {b : Nat} : ∀ {cs : List AV} {o : Nat}, RepC w ρ b o cs → ∃ vs, RepL w ρ cs vs ∧ (∀ u ∈ vs, u.oneCell' = true) ∧ ∀ (j : Nat) (v : Value), vs[j]? = some v → w.cell? ⟨b, o + j, none⟩ = some v
  | [], o, _ => ⟨[], by unfold RepL; rfl, (fun u hu => by cases hu), (fun j v hj => by cases hj)⟩
  | c :: cs, o, h => by
    unfold RepC at h
    obtain ⟨⟨v, h1, h2, h3⟩, h4⟩ := h
    obtain ⟨vs, k1, k2, k3⟩ := RepC.vals h4
    refine ⟨v :: vs, by unfold RepL; exact ⟨v, vs, rfl, h3, k1⟩, fun u hu => ?_, fun j u hj => ?_⟩
    · rcases List.mem_cons.1 hu with rfl | hu
      · exact h2
      · exact k2 u hu
    · cases j with
      | zero => simp at hj; subst hj; exact h1
      | succ j =>
        have := k3 j u (by simpa using hj)
        rwa [show o + (j + 1) = o + 1 + j by omega]
variable {T : Tab}
theorem TI.Says.agg {t : TypeId} {i : TI} {d : TypeDesc} {j : TypeInfo} (h : TI.Says P t i d j) : (isAgg t).run P w = .ok (match i.d with | .struct _ => true | _ => false) w ∨ False := by
  left
  have hd := h.dd
  simp only [isAgg, Sem.run_bind, run_underlying' h.un, Result.andThen_ok]
  cases hi : i.d <;> rw [hi] at hd <;> cases d <;> simp [TD.fits] at hd <;> rfl
theorem run_cellsTo {t : TypeId} {i : TI} (hi : i.ok P t = true) {ρ : Cx} {b o : Nat} {cs : List AV} (h : RepC w ρ b o cs) {c : AV} (e : cellsTo i cs = some c) :
    ∃ u, (loadVar t ⟨b, o, none⟩).run P w = .ok u w ∧ Rep w ρ c u := by
  obtain ⟨d, j, hs⟩ := TI.says hi
  have ha := hs.agg (w := w)
  simp only [or_false] at ha
  have hz := hs.sizeOf w
  unfold cellsTo at e
  split at e
  · rename_i fs hd
    split at e
    · rename_i hl
      cases e
      obtain ⟨vs, k1, k2, k3⟩ := (h.take i.size).vals
      have hlen : vs.length = i.size := by rw [k1.length, List.length_take]; omega
      refine ⟨.agg vs.toArray, ?_, rep_agg.2 ⟨vs, rfl, k2, k1⟩⟩
      unfold loadVar
      rw [hd] at ha
      simp only [Sem.run_bind, ha, hz, Result.andThen_ok, if_true]
      rw [← hlen, run_cells k3]
      rfl
    · cases e
  · rename_i hd
    have hf : (isAgg t).run P w = .ok false w := by
      rw [ha]
      cases hq : i.d <;> first | rfl | exact absurd hq (hd _)
    cases cs with
    | nil => cases e
    | cons c' cs =>
      simp at e; subst e
      unfold RepC at h
      obtain ⟨⟨v, h1, h2, h3⟩, _⟩ := h
      refine ⟨v, ?_, h3⟩
      unfold loadVar
      simp only [Sem.run_bind, hf, Result.andThen_ok, Bool.false_eq_true, if_false, run_load1 h1]
end
section
variable {P : Program} {w0 : W0} {S0 : Nat → Prop} {rd0 : Option Nat} {k0 : Nat} {w : World} {a : Act} {s : ASt} {ρ : Cx} {T : Tab}
theorem SR.at (h : SR P w0 S0 rd0 k0 w a s ρ) {dr : Bool} {x : AV} {v : Value} {cs : List AV} (hx : Rep w ρ x v) (e : s.at dr x = some cs) : ∃ b o, v = .pointer (some ⟨b, o, none⟩) ∧ RepC w ρ b o cs := by
  unfold ASt.at at e
  split at e
  · cases e
    obtain ⟨b, o, h1, _, h3⟩ := rep_eptr.1 hx
    exact ⟨b, o, h1, h3⟩
  · rename_i bx sz nn id i j
    split at e
    · cases e
    · split at e
      · rename_i r hr
        split at e
        · rename_i hc
          simp only [Bool.and_eq_true, beq_iff_eq] at hc
          split at e
          · rename_i el hel
            cases e
            obtain ⟨hu, _, _, hp⟩ := rep_ptr.1 hx
            obtain ⟨_, u, hru, hln, h0, h1, _, xs, hat, hrep, hone⟩ := h.rw id r hr
            obtain ⟨b, n, c, rfl, rfl⟩ := hp u hru (by rw [hln]; exact hc.2.symm)
            refine ⟨b, i * sz + j, rfl, ?_⟩
            have hn : n = r.es.length := by
              rcases hat with ⟨h1, _, a0, h2⟩ | ⟨g', cap, cur, h2, _⟩
              · cases h2; exact h1.symm
              · cases h2; rfl
            subst hn
            refine RepC.of_get (fun k c' hk => ?_)
            rw [List.getElem?_drop] at hk
            have hlt : j + k < r.sz := by rw [← h1 el (List.mem_of_getElem? hel)]; exact (List.getElem?_eq_some_iff.1 hk).1
            have hf := flat_get h1 hel hlt
            rw [hk, hc.1.2] at hf
            obtain ⟨v, hv, hrv⟩ := hrep.get hf
            refine ⟨v, ?_, hone v (List.mem_of_getElem? hv), hrv⟩
            rw [Nat.add_assoc]
            exact hat.cells _ _ hv
          · cases e
        · cases e
      · cases e
  · cases e
theorem load_ok (hT : Tab.Ok P T) (h : SR P w0 S0 rd0 k0 w a s ρ) {dr : Bool} {t : TypeId} {x c : AV} {v : Value} (hx : Rep w ρ x v) (e : aload T dr s t x = some c) :
    ∃ u, (Instr.loadAt t v).run P w = .ok u w ∧ Rep w ρ c u := by
  unfold aload at e
  split at e
  · rename_i i cs hi hcs
    obtain ⟨b, o, rfl, hc⟩ := h.at hx hcs
    obtain ⟨u, h1, h2⟩ := run_cellsTo (hT t i hi) hc e
    exact ⟨u, by simpa [Instr.loadAt, Instr.sureAddr] using h1, h2⟩
  · cases e
theorem un_ok {op : UnOp} {x c : AV} {v : Value} (hx : Rep w ρ x v) (e : aun op x = some c) : ∃ u, (Op.unary op v).run P w = .ok u w ∧ Rep w ρ c u := by
  unfold aun at e
  split at e
  · rw [rep_bool] at hx; subst hx; cases e
    exact ⟨_, rfl, rep_bool.2 rfl⟩
  · rw [rep_int] at hx; subst hx; cases e
    exact ⟨_, rfl, rep_int.2 rfl⟩
  · cases e
theorem cmp_ok {op : BinOp} {x y : Int} {c : AV} (e : acmp op x y = some c) : ∃ u, (Op.intCmp op x y).run P w = .ok u w ∧ Rep w ρ c u := by
  unfold acmp at e
  split at e <;> first | (cases e; exact ⟨_, rfl, rep_bool.2 rfl⟩) | cases e
theorem guard_none {op : BinOp} {t : TypeId} {x y : Operand} {a b : Value} (h1 : ∀ cs, a ≠ .agg cs) (h2 : a ≠ .nilIface) : (eqGuard op t x y a b).run P w = .ok () w := by
  unfold eqGuard
  cases op <;> simp <;> (cases a <;> cases b <;> simp_all)
theorem int_ok {op : BinOp} {t : TypeId} {k : IntKind} {x y : Int} {c : AV} (e : aint op k x y = some c) : ∃ u, (binOp op t (.int k x) (.int k y)).run P w = .ok u w ∧ Rep w ρ c u := by
  unfold aint at e
  split at e
  · cases e; exact ⟨_, by simp [binOp, Op.intArith], rep_int.2 rfl⟩
  · cases e; exact ⟨_, by simp [binOp, Op.intArith], rep_int.2 rfl⟩
  · cases e; exact ⟨_, by simp [binOp, Op.intArith], rep_int.2 rfl⟩
  · split at e
    · cases e
    · rename_i hne; cases e; exact ⟨_, by simp [binOp, Op.intDiv, hne], rep_int.2 rfl⟩
  · split at e
    · cases e
    · rename_i hne; cases e; exact ⟨_, by simp [binOp, Op.intDiv, hne], rep_int.2 rfl⟩
  · obtain ⟨u, h1, h2⟩ := cmp_ok (P := P) (w := w) (ρ := ρ) e; exact ⟨u, by simpa [binOp] using h1, h2⟩
  · obtain ⟨u, h1, h2⟩ := cmp_ok (P := P) (w := w) (ρ := ρ) e; exact ⟨u, by simpa [binOp] using h1, h2⟩
  · obtain ⟨u, h1, h2⟩ := cmp_ok (P := P) (w := w) (ρ := ρ) e; exact ⟨u, by simpa [binOp] using h1, h2⟩
  · obtain ⟨u, h1, h2⟩ := cmp_ok (P := P) (w := w) (ρ := ρ) e; exact ⟨u, by simpa [binOp] using h1, h2⟩
  · obtain ⟨u, h1, h2⟩ := cmp_ok (P := P) (w := w) (ρ := ρ) e; exact ⟨u, by simpa [binOp] using h1, h2⟩
  · obtain ⟨u, h1, h2⟩ := cmp_ok (P := P) (w := w) (ρ := ρ) e; exact ⟨u, by simpa [binOp] using h1, h2⟩
  · cases e
theorem str_ok {op : BinOp} {t : TypeId} {x y : ByteArray} {c : AV} (e : astr op x y = some c) : ∃ u, (binOp op t (.string x) (.string y)).run P w = .ok u w ∧ Rep w ρ c u := by
  unfold astr at e
  simp only [eqs_def, lts_def] at e
  split at e
  · split at e
    · rename_i hl
      cases e
      refine ⟨.string (x ++ y), ?_, rep_str.2 ⟨rfl, by rw [ByteArray.size_append]; exact hl⟩⟩
      have : ¬ (((x.size + y.size : Nat) : Int) > IntKind.i64.max) := by
        have hm : IntKind.i64.max = 9223372036854775807 := by rfl
        rw [hm]; unfold big at hl; omega
      simp only [binOp, Op.stringOp, if_neg this]
      rfl
    · cases e
  all_goals first | (cases e; exact ⟨_, rfl, rep_bool.2 rfl⟩) | cases e
theorem run_equal_bool {t : TypeId} (hu : P.underlying t = some .bool) (x y : Bool) : (Op.equal t (.bool x) (.bool y)).run P w = .ok (x == y) w := by
  show (Op.equalIn (9999 + 1) t (.bool x) (.bool y)).run P w = _
  unfold Op.equalIn
  rw [Sem.run_bind, run_underlying' hu]
  rfl
theorem bin_ok (hT : Tab.Ok P T) {op : BinOp} {t : TypeId} {x y c : AV} {v u : Value} (hx : Rep w ρ x v) (hy : Rep w ρ y u) (e : abin T op t x y = some c) (p q : Operand) :
    ∃ r, (do eqGuard op t p q v u; binOp op t v u : Sem Value).run P w = .ok r w ∧ Rep w ρ c r := by
  unfold abin at e
  split at e
  · rw [rep_int] at hx hy; subst hx hy
    split at e
    · rename_i hk; subst hk
      obtain ⟨r, h1, h2⟩ := int_ok (P := P) (w := w) (ρ := ρ) (t := t) e
      exact ⟨r, by rw [Sem.run_bind, guard_none (by simp) (by simp)]; simpa using h1, h2⟩
    · cases e
  · rw [rep_str] at hx hy; obtain ⟨rfl, _⟩ := hx; obtain ⟨rfl, _⟩ := hy
    obtain ⟨r, h1, h2⟩ := str_ok (P := P) (w := w) (ρ := ρ) (t := t) e
    exact ⟨r, by rw [Sem.run_bind, guard_none (by simp) (by simp)]; simpa using h1, h2⟩
  · rw [rep_bool] at hx hy; subst hx hy
    split at e
    · rename_i sz by' z hi
      obtain ⟨d, j, hs⟩ := TI.says (hT t _ hi)
      have hd := hs.dd
      have hu := hs.un
      cases d <;> simp [TD.fits] at hd
      split at e
      · cases e
        refine ⟨_, ?_, rep_bool.2 rfl⟩
        rw [Sem.run_bind, guard_none (by simp) (by simp)]
        simp only [Result.andThen_ok, binOp, Sem.run_bind, run_equal_bool hu, Sem.run_pure]
      · cases e
        refine ⟨_, ?_, rep_bool.2 rfl⟩
        rw [Sem.run_bind, guard_none (by simp) (by simp)]
        simp only [Result.andThen_ok, binOp, Sem.run_bind, run_equal_bool hu, Sem.run_pure]
      · cases e
    · cases e
  · cases e
end
end Go.Proofs.Ytgfnmhfdmmnaoaa.Eng
namespace Go.Proofs.Ytgfnmhfdmmnaoaa.Eng
open Go Go.RowKit
section
variable {P : Program} {w : World} {ρ : Cx} {T : Tab}
theorem fits_field {fs : List (Nat × TypeId)} {d : TypeDesc} (h : (TD.struct fs).fits d = true) {f o : Nat} {ft : TypeId} (e : fs[f]? = some (o, ft)) :
    ∃ gs g, d = .struct gs ∧ gs[f]? = some g ∧ g.offset = o ∧ g.type = ft := by
  cases d <;> simp [TD.fits] at h
  rename_i gs
  rw [← h] at e
  simp only [List.getElem?_map, Option.map_eq_some_iff] at e
  obtain ⟨g, hg, he⟩ := e
  cases he
  exact ⟨gs, g, rfl, by simpa using hg, rfl, rfl⟩
theorem run_part {t : TypeId} {i : TI} (hi : i.ok P t = true) {cs : List AV} {vs : List Value} (h : RepL w ρ cs vs) (h1 : ∀ u ∈ vs, u.oneCell' = true) {o : Nat} {c : AV}
    (e : (match i.d with | .struct _ => if o + i.size ≤ cs.length then some (.agg ((cs.drop o).take i.size)) else none | _ => cs[o]?) = some c) :
    ∃ u, (part t vs.toArray o).run P w = .ok u w ∧ Rep w ρ c u := by
  obtain ⟨d, j, hs⟩ := TI.says hi
  have ha := hs.agg (w := w)
  simp only [or_false] at ha
  have hz := hs.sizeOf w
  split at e
  · rename_i fs hd
    rw [hd] at ha
    split at e
    · cases e
      refine ⟨.agg (vs.toArray.extract o (o + i.size)), ?_, rep_agg.2 ⟨(vs.drop o).take i.size, ?_, fun u hu => h1 u (List.mem_of_mem_drop (List.mem_of_mem_take hu)), (h.drop o).take i.size⟩⟩
      · unfold part
        simp only [Sem.run_bind, ha, hz, Result.andThen_ok, if_true, Sem.run_pure]
      · congr 1
        apply Array.ext'
        simp [List.extract_eq_take_drop]
    · cases e
  · rename_i hd
    have hf : (isAgg t).run P w = .ok false w := by
      rw [ha]
      cases hq : i.d <;> first | rfl | exact absurd hq (hd _)
    obtain ⟨v, hv, hr⟩ := h.get e
    refine ⟨v, ?_, hr⟩
    unfold part
    have : vs.toArray[o]? = some v := by simpa using hv
    simp only [Sem.run_bind, hf, Result.andThen_ok, Bool.false_eq_true, if_false, this, Sem.run_pure]
theorem field_ok (hT : Tab.Ok P T) {t : TypeId} {x c : AV} {v : Value} {f : Nat} (hx : Rep w ρ x v) (e : afield T t x f = some c) : ∃ u, (Instr.field t v f).run P w = .ok u w ∧ Rep w ρ c u := by
  unfold afield at e
  split at e
  · rename_i sz by' fs z cs hi
    obtain ⟨vs, rfl, h1, h2⟩ := rep_agg.1 hx
    obtain ⟨d, j, hs⟩ := TI.says (hT t _ hi)
    split at e
    · rename_i o ft hf
      obtain ⟨gs, g, rfl, hg, rfl, rfl⟩ := fits_field hs.dd hf
      split at e
      · rename_i i hi2
        obtain ⟨u, k1, k2⟩ := run_part (P := P) (hT _ _ hi2) h2 h1 e
        refine ⟨u, ?_, k2⟩
        unfold Instr.field
        simp only [Sem.run_bind, run_underlying' hs.un, Result.andThen_ok, hg, asAgg, Sem.run_pure]
        exact k1
      · cases e
    · cases e
  · cases e
theorem run_fieldPlace {b o : Nat} {g : Field} {i : TI} (hi : i.ok P g.type = true) (hne : i.size ≠ 0) : (fieldPlace ⟨b, o, none⟩ g).run P w = .ok ⟨b, o + g.offset, none⟩ w := by
  obtain ⟨d, j, hs⟩ := TI.says hi
  unfold fieldPlace
  simp only [Sem.run_bind, hs.sizeOf w, Result.andThen_ok, if_neg hne, Sem.run_pure, addr_add]
theorem fieldAddr_ok (hT : Tab.Ok P T) {t : TypeId} {x c : AV} {v : Value} {f : Nat} (hx : Rep w ρ x v) (e : afieldAddr T t x f = some c) : ∃ u, (Instr.fieldAt t v f).run P w = .ok u w ∧ Rep w ρ c u := by
  unfold afieldAddr at e
  split at e
  · rename_i sz by' fs z hi
    obtain ⟨d, j, hs⟩ := TI.says (hT t _ hi)
    split at e
    · rename_i o ft hf
      obtain ⟨gs, g, rfl, hg, rfl, rfl⟩ := fits_field hs.dd hf
      split at e
      · rename_i i hi2
        split at e
        · cases e
        · rename_i hne0
          split at e
          · rename_i cs
            cases e
            obtain ⟨b, o, rfl, h1, h2⟩ := rep_eptr.1 hx
            refine ⟨.pointer (some ⟨b, o + g.offset, none⟩), ?_, rep_eptr.2 ⟨b, _, rfl, h1, h2.drop _⟩⟩
            unfold Instr.fieldAt
            simp only [Sem.run_bind, run_underlying' hs.un, Result.andThen_ok, hg, Instr.sureAddr, Sem.run_pure, run_fieldPlace (hT _ _ hi2) hne0]
          · rename_i bx sz nn id k j
            cases e
            obtain ⟨hu, hn, ⟨b, rfl⟩, hp⟩ := rep_ptr.1 hx
            refine ⟨.pointer (some ⟨b, k * sz + (j + g.offset), none⟩), ?_, rep_ptr.2 ⟨hu, hn, ⟨b, rfl⟩, fun u hru hne => ?_⟩⟩
            · unfold Instr.fieldAt
              simp only [Sem.run_bind, run_underlying' hs.un, Result.andThen_ok, hg, Instr.sureAddr, Sem.run_pure, run_fieldPlace (hT _ _ hi2) hne0, Nat.add_assoc]
            · obtain ⟨b', n, c, rfl, he⟩ := hp u hru hne
              cases he
              exact ⟨b, n, c, rfl, rfl⟩
          · cases e
      · cases e
    · cases e
  · cases e
theorem indexAddr_ok (hT : Tab.Ok P T) {t : TypeId} {x y c : AV} {v u : Value} (hx : Rep w ρ x v) (hy : Rep w ρ y u)
    (e : aindexAddr T t x y = some c) : ∃ r, (Instr.indexAt t v u).run P w = .ok r w ∧ Rep w ρ c r := by
  unfold aindexAddr at e
  split at e
  · rename_i sz by' el z k n hi
    rw [rep_int] at hy; subst hy
    obtain ⟨d, j, hs⟩ := TI.says (hT t _ hi)
    have hd := hs.dd
    cases d <;> simp [TD.fits] at hd
    subst hd
    have hun := run_underlying' hs.un w
    split at e
    · rename_i i hi2
      obtain ⟨d2, j2, hs2⟩ := TI.says (hT _ _ hi2)
      have hz := hs2.sizeOf w
      split at e
      · rename_i tt sz2 es
        split at e
        · rename_i hc
          split at e
          · rename_i c' hel
            cases e
            obtain ⟨ad, cp, rfl, _, _, _, hl, hor⟩ := rep_view.1 hx
            have hlt : n.toNat < es.length := (List.getElem?_eq_some_iff.1 hel).1
            rcases hor with rfl | ⟨b, o, rfl, hb, he⟩
            · simp at hlt
            · refine ⟨.pointer (some ⟨b, o + n.toNat * sz2, none⟩), ?_, rep_eptr.2 ⟨b, _, rfl, hb, he.get hl hel⟩⟩
              have h1 : 0 ≤ n ∧ n < (es.length : Int) := ⟨hc.2, by omega⟩
              unfold Instr.indexAt
              simp only [asIntOf, Sem.run_bind, Sem.run_pure, hun, Result.andThen_ok, if_pos h1, hz, addr_add, ← hc.1]
          · cases e
        · cases e
      · rename_i id m
        split at e
        · rename_i hc
          cases e
          obtain ⟨hu, hmn, ⟨ad, cp, rfl, hor⟩, hp⟩ := rep_own.1 hx
          rcases hor with hz0 | ⟨bb, rfl⟩
          · omega
          · refine ⟨.pointer (some ⟨bb, n.toNat * i.size + 0, none⟩), ?_, rep_ptr.2 ⟨hu, hmn, ⟨bb, rfl⟩, fun u' hru' hne => ?_⟩⟩
            · have h1 : 0 ≤ n ∧ n < (m : Int) := hc
              unfold Instr.indexAt
              simp only [asIntOf, Sem.run_bind, Sem.run_pure, hun, Result.andThen_ok, if_pos h1, hz, addr_add, Nat.zero_add, Nat.add_zero]
            · have := hp u' hru' hne
              subst this
              exact ⟨bb, m, cp, rfl, rfl⟩
        · cases e
      · cases e
    · cases e
  · cases e
theorem index_ok (hT : Tab.Ok P T) {t : TypeId} {x y c : AV} {v u : Value} (hx : Rep w ρ x v) (hy : Rep w ρ y u) (e : aindex T t x y = some c) : ∃ r, (Instr.index t v u).run P w = .ok r w ∧ Rep w ρ c r := by
  unfold aindex at e
  split at e
  · rename_i sz by' z b k n hi
    rw [rep_int] at hy; subst hy
    rw [rep_str] at hx; obtain ⟨rfl, _⟩ := hx
    obtain ⟨d, j, hs⟩ := TI.says (hT t _ hi)
    have hd := hs.dd
    cases d <;> simp [TD.fits] at hd
    split at e
    · rename_i h0
      split at e
      · rename_i q hq
        cases e
        refine ⟨_, ?_, rep_int.2 rfl⟩
        unfold Instr.index
        simp only [asIntOf, Sem.run_bind, Sem.run_pure, run_underlying' hs.un, Result.andThen_ok, if_pos h0, hq]
      · cases e
    · cases e
  · cases e
theorem len_ok (hT : Tab.Ok P T) {t ty : TypeId} {x c : AV} {v : Value} (hx : Rep w ρ x v) (e : alen T t x = some c) : ∃ r, (Builtin.len_ #[t] ty #[v]).run P w = .ok r w ∧ Rep w ρ c r := by
  unfold alen at e
  split at e
  · rename_i sz by' z b hi
    rw [rep_str] at hx; obtain ⟨rfl, _⟩ := hx
    obtain ⟨d, j, hs⟩ := TI.says (hT t _ hi)
    have hd := hs.dd
    cases d <;> simp [TD.fits] at hd
    cases e
    refine ⟨_, ?_, rep_int.2 rfl⟩
    simp [Builtin.len_, run_underlying' hs.un, goInt]
  · rename_i sz by' el z tt sz2 es hi
    obtain ⟨ad, cp, rfl, _⟩ := rep_view.1 hx
    obtain ⟨d, j, hs⟩ := TI.says (hT t _ hi)
    have hd := hs.dd
    cases d <;> simp [TD.fits] at hd
    cases e
    refine ⟨_, ?_, rep_int.2 rfl⟩
    simp [Builtin.len_, run_underlying' hs.un, goInt]
  · rename_i sz by' el z id n hi
    obtain ⟨_, _, ⟨ad, cp, rfl, _⟩, _⟩ := rep_own.1 hx
    obtain ⟨d, j, hs⟩ := TI.says (hT t _ hi)
    have hd := hs.dd
    cases d <;> simp [TD.fits] at hd
    cases e
    refine ⟨_, ?_, rep_int.2 rfl⟩
    simp [Builtin.len_, run_underlying' hs.un, goInt]
  · cases e
theorem bytesV_at : ∀ {es : List (List AV)} {l : List UInt8}, bytesV es = some l → l.length = es.length ∧ ∀ j (hj : j < l.length), es[j]? = some [.int .u8 (l[j].toNat : Int)]
  | [], l, h => by
    unfold bytesV at h
    cases h
    exact ⟨rfl, fun j hj => by simp at hj⟩
  | [.int .u8 n] :: es, l, h => by
    unfold bytesV at h
    split at h
    · rename_i hn
      obtain ⟨l', h', rfl⟩ := Option.map_eq_some_iff.1 h
      obtain ⟨h1, h2⟩ := bytesV_at h'
      refine ⟨by simp [h1], fun j hj => ?_⟩
      cases j with
      | zero =>
        have : ((UInt8.ofNat n.toNat).toNat : Int) = n := by
          rw [UInt8.toNat_ofNat']
          have : n.toNat % 2 ^ 8 = n.toNat := Nat.mod_eq_of_lt (by omega)
          omega
        show some [AV.int IntKind.u8 n] = some [AV.int IntKind.u8 ((UInt8.ofNat n.toNat).toNat : Int)]
        rw [this]
      | succ j => simpa using h2 j (by simpa using hj)
    · cases h
theorem isU8_says {t : Option TI} (h : isU8 t = true) : ∃ s b z, t = some ⟨s, b, .int .u8, z⟩ := by
  unfold isU8 at h
  split at h
  · exact ⟨_, _, _, rfl⟩
  · cases h
theorem conv_ok (hT : Tab.Ok P T) {src dst : TypeId} {x c : AV} {v : Value} (hx : Rep w ρ x v) (e : aconv T src dst x = some c) : ∃ r, (convert src dst v).run P w = .ok r w ∧ Rep w ρ c r := by
  unfold aconv at e
  split at e
  · rename_i sz by' k1 z sz2 by2 k2 z2 k n hi hi2
    rw [rep_int] at hx; subst hx
    obtain ⟨d, j, hs⟩ := TI.says (hT _ _ hi)
    obtain ⟨d2, j2, hs2⟩ := TI.says (hT _ _ hi2)
    have hd := hs.dd
    have hd2 := hs2.dd
    cases d <;> simp [TD.fits] at hd
    cases d2 <;> simp [TD.fits] at hd2
    subst hd hd2
    cases e
    refine ⟨_, ?_, rep_int.2 rfl⟩
    simp [convert, run_underlying' hs.un, run_underlying' hs2.un, Conv.intToInt]
  · rename_i sz by' z sz2 by2 z2 b hi hi2
    rw [rep_str] at hx; obtain ⟨rfl, hl⟩ := hx
    obtain ⟨d, j, hs⟩ := TI.says (hT _ _ hi)
    obtain ⟨d2, j2, hs2⟩ := TI.says (hT _ _ hi2)
    have hd := hs.dd
    have hd2 := hs2.dd
    cases d <;> simp [TD.fits] at hd
    cases d2 <;> simp [TD.fits] at hd2
    cases e
    refine ⟨_, ?_, rep_str.2 ⟨rfl, hl⟩⟩
    simp [convert, run_underlying' hs.un, run_underlying' hs2.un]
  · rename_i sz by' el z sz2 by2 z2 t w2 es hi hi2
    split at e
    · rename_i hu
      obtain ⟨s3, b3, z3, hi3⟩ := isU8_says hu
      obtain ⟨d, j, hs⟩ := TI.says (hT _ _ hi)
      obtain ⟨d2, j2, hs2⟩ := TI.says (hT _ _ hi2)
      obtain ⟨d3, j3, hs3⟩ := TI.says (hT _ _ hi3)
      have hd := hs.dd
      have hd2 := hs2.dd
      have hd3 := hs3.dd
      cases d <;> simp [TD.fits] at hd
      cases d2 <;> simp [TD.fits] at hd2
      cases d3 <;> simp [TD.fits] at hd3
      subst hd hd3
      obtain ⟨a, c', rfl, _, h3, h4, h5, h6⟩ := rep_view.1 hx
      unfold strV at e
      split at e
      · rename_i b l hb
        obtain ⟨k1, k2⟩ := bytesV_at hb
        cases e
        rcases h6 with rfl | ⟨bl, o, rfl, _, he⟩
        · simp at k1
        · refine ⟨_, ?_, rep_str.2 ⟨rfl, by show (b :: l).toArray.size ≤ big; simpa [← k1] using h4⟩⟩
          rw [← k1]
          refine run_convert_bytes_back (P := P) w src dst el ⟨bl, o, none⟩ c' (b :: l) hs.un hs3.un hs2.un (fun j hj => ?_)
          have hw : w2 = 1 := by have := h5 _ (List.mem_of_getElem? (k2 j hj)); simpa using this.symm
          subst hw
          have hc := he.get h5 (k2 j hj)
          unfold RepC at hc
          obtain ⟨⟨v, hv, _, hr⟩, _⟩ := hc
          rw [rep_int] at hr
          subst hr
          have hadd : (⟨bl, o, none⟩ : Addr).add j = ⟨bl, o + j, none⟩ := by unfold Addr.add; split <;> simp_all
          rw [hadd]
          simpa using hv
      · cases e
    · cases e
  · cases e
def apick (c x y : AV) : Option AV := match c with | .bool true => some x | .bool false => some y | _ => none
theorem pick_ok {c x y r : AV} {vc vx vy : Value} (hc : Rep w ρ c vc) (hx : Rep w ρ x vx) (hy : Rep w ρ y vy) (e : apick c x y = some r) : ∃ b, vc = .bool b ∧ Rep w ρ r (if b then vx else vy) := by
  unfold apick at e
  split at e
  · rw [rep_bool] at hc; cases e; exact ⟨true, hc, hx⟩
  · rw [rep_bool] at hc; cases e; exact ⟨false, hc, hy⟩
  · cases e
def aextract (x : AV) (i : Nat) : Option AV := match x with | .tup cs => cs[i]? | _ => none
theorem extract_ok {x c : AV} {v : Value} {i : Nat} (hx : Rep w ρ x v) (e : aextract x i = some c) : ∃ r, (Instr.extract v i).run P w = .ok r w ∧ Rep w ρ c r := by
  unfold aextract at e
  split at e
  · obtain ⟨vs, rfl, h⟩ := rep_tup.1 hx
    obtain ⟨v, hv, hr⟩ := h.get e
    refine ⟨v, ?_, hr⟩
    unfold Instr.extract
    simp [hv]
  · cases e
theorem bound_ok {d m l : Nat} {x : Option AV} {v : Option Value} (hx : match x, v with | none, none => True | some c, some u => Rep w ρ c u | _, _ => False) (e : abound d m x = some l) (code : BoundsCode) :
    (match v with | some u => Instr.sliceBound u m code | none => pure d : Sem Nat).run P w = .ok l w ∧ (l ≤ m ∨ v = none) := by
  unfold abound at e
  split at e
  · cases e
    cases v with
    | none => exact ⟨rfl, .inr rfl⟩
    | some u => exact hx.elim
  · rename_i k n
    cases v with
    | none => exact hx.elim
    | some u =>
      have := rep_int.1 hx
      subst this
      split at e
      · rename_i h
        cases e
        refine ⟨?_, .inl (by omega)⟩
        simp only [Instr.sliceBound, asIntOf, Sem.run_bind, Sem.run_pure, Result.andThen_ok, if_pos h]
      · cases e
  · cases e
theorem bound_ok' {d m M l : Nat} (hM : m ≤ M) {x : Option AV} {v : Option Value} (hx : match x, v with | none, none => True | some c, some u => Rep w ρ c u | _, _ => False) (e : abound d m x = some l) (code : BoundsCode) :
    (match v with | some u => Instr.sliceBound u M code | none => pure d : Sem Nat).run P w = .ok l w ∧ (d ≤ m → l ≤ m) := by
  unfold abound at e
  split at e
  · cases e
    cases v with
    | none => exact ⟨rfl, fun h => h⟩
    | some u => exact hx.elim
  · rename_i k n
    cases v with
    | none => exact hx.elim
    | some u =>
      have := rep_int.1 hx
      subst this
      split at e
      · rename_i h
        cases e
        have h' : 0 ≤ n ∧ n ≤ (M : Int) := by omega
        refine ⟨?_, fun _ => by omega⟩
        simp only [Instr.sliceBound, asIntOf, Sem.run_bind, Sem.run_pure, Result.andThen_ok, if_pos h']
      · cases e
  · cases e
theorem str_extract_size (b : ByteArray) (l h : Nat) : (b.extract l h).size ≤ b.size := by
  rw [ByteArray.size_extract]; omega
theorem slice_ok (hT : Tab.Ok P T) {t : TypeId} {x c : AV} {v : Value} {lo hi : Option AV} {vl vh : Option Value} (hx : Rep w ρ x v)
    (hlo : match lo, vl with | none, none => True | some c, some u => Rep w ρ c u | _, _ => False) (hhi : match hi, vh with | none, none => True | some c, some u => Rep w ρ c u | _, _ => False)
    (e : aslice T t x lo hi = some c) : ∃ r, (Instr.sliceAt t v vl vh none).run P w = .ok r w ∧ Rep w ρ c r := by
  unfold aslice at e
  split at e
  · rename_i sz by' z b hi'
    obtain ⟨rfl, hb⟩ := rep_str.1 hx
    obtain ⟨d, j, hs⟩ := TI.says (hT _ _ hi')
    have hd := hs.dd
    cases d <;> simp [TD.fits] at hd
    split at e
    · rename_i h hh
      split at e
      · rename_i l hl
        cases e
        refine ⟨.string (b.extract l h), ?_, rep_str.2 ⟨rfl, Nat.le_trans (str_extract_size _ _ _) hb⟩⟩
        have k1 := (bound_ok (P := P) hhi hh .sliceAlen).1
        have k2 := (bound_ok (P := P) hlo hl .sliceB).1
        unfold Instr.sliceAt Instr.slice
        simp only [Sem.run_bind, run_underlying' hs.un, Result.andThen_ok]
        cases vh <;> cases vl <;> simp_all [Instr.sliceBounds]
      · cases e
    · cases e
  · rename_i sz by' el z tt sz2 es hi'
    obtain ⟨ad, cp, rfl, _, hcp, hbig, hl, hor⟩ := rep_view.1 hx
    obtain ⟨d, j, hs⟩ := TI.says (hT _ _ hi')
    have hd := hs.dd
    cases d <;> simp [TD.fits] at hd
    subst hd
    split at e
    · rename_i i h hi2 hh
      obtain ⟨d2, j2, hs2⟩ := TI.says (hT _ _ hi2)
      have hz := hs2.sizeOf w
      split at e
      · rename_i hsz
        split at e
        · rename_i l hl2
          cases e
          obtain ⟨k1, hle⟩ := bound_ok' (P := P) hcp hhi hh .sliceAcap
          obtain ⟨k2, hle2⟩ := bound_ok' (P := P) (Nat.le_refl _) hlo hl2 .sliceB
          have h1 := hle (Nat.le_refl _)
          have h2 := hle2 (Nat.zero_le _)
          have hlen : ((es.take h).drop l).length = h - l := by rw [List.length_drop, List.length_take]; omega
          refine ⟨.slice (if cp = l then ad else ad.map (·.add (l * i.size))) (h - l) (cp - l), ?_, rep_view.2 ⟨_, cp - l, by rw [hlen], fun h => (VC.cut_ne h).elim, by rw [hlen]; omega, by rw [hlen]; omega, fun x hx => hl x (List.mem_of_mem_take (List.mem_of_mem_drop hx)), ?_⟩⟩
          · unfold Instr.sliceAt Instr.slice
            simp only [Sem.run_bind, run_underlying' hs.un, Result.andThen_ok]
            cases vh <;> cases vl <;> simp_all [Instr.sliceBounds]
          · by_cases hem : l < h
            · rcases hor with rfl | ⟨b, o, rfl, hb, he⟩
              · simp at h1; omega
              · refine .inr ⟨b, o + l * sz2, by rw [if_neg (by omega), Option.map_some, addr_add, hsz], Cx.H_cut hb, RepE.of_get (sz := sz2) (fun x hx => hl x (List.mem_of_mem_take (List.mem_of_mem_drop hx))) (fun k x hk => ?_)⟩
                rw [List.getElem?_drop] at hk
                have hlt := (List.getElem?_eq_some_iff.1 hk).1
                rw [List.length_take] at hlt
                rw [List.getElem?_take_of_lt (by omega)] at hk
                have := he.get hl hk
                rwa [show o + (l + k) * sz2 = o + l * sz2 + k * sz2 by rw [Nat.add_mul]; omega] at this
            · exact .inl (List.length_eq_zero_iff.1 (by rw [hlen]; omega))
        · cases e
      · cases e
    · cases e
  · cases e
end
end Go.Proofs.Ytgfnmhfdmmnaoaa.Eng
namespace Go.Proofs.Ytgfnmhfdmmnaoaa.Eng
open Go Go.RowKit
def avCells : AV → Option (List AV)
  | .any => none
  | .tup _ => none
  | .fn _ _ => none
  | .agg cs => some cs
  | c => some [c]
def over {α : Type} (cs : List α) (o : Nat) (xs : List α) : List α := cs.take o ++ xs ++ cs.drop (o + xs.length)
theorem over_length {α : Type} {cs : List α} {o : Nat} {xs : List α} (h : o + xs.length ≤ cs.length) : (over cs o xs).length = cs.length := by
  unfold over; simp only [List.length_append, List.length_take, List.length_drop]; omega
section
variable {P : Program} {w : World} {ρ : Cx} {T : Tab}
theorem avCells_ok {x : AV} {xs : List AV} {v : Value} (hx : Rep w ρ x v) (e : avCells x = some xs) : ∃ vs, v.cells = vs.toArray ∧ RepL w ρ xs vs ∧ ∀ u ∈ vs, u.oneCell' = true := by
  have one : ∀ {c : AV}, Rep w ρ c v → v.cells = #[v] → v.oneCell' = true → ∃ vs, v.cells = vs.toArray ∧ RepL w ρ [c] vs ∧ ∀ u ∈ vs, u.oneCell' = true := fun hc h1 h2 =>
    ⟨[v], h1, by unfold RepL; exact ⟨v, [], rfl, hc, by unfold RepL; rfl⟩, fun u hu => by simp at hu; subst hu; exact h2⟩
  cases x with
  | any => cases e
  | tup cs => cases e
  | fn f cs => cases e
  | agg cs =>
    cases e
    obtain ⟨vs, rfl, h1, h2⟩ := rep_agg.1 hx
    exact ⟨vs, rfl, h2, h1⟩
  | int k n => cases e; have := rep_int.1 hx; subst this; exact one hx rfl rfl
  | bool b => cases e; have := rep_bool.1 hx; subst this; exact one hx rfl rfl
  | str b => cases e; obtain ⟨rfl, _⟩ := rep_str.1 hx; exact one hx rfl rfl
  | view t sz es => cases e; obtain ⟨a, c, rfl, _⟩ := rep_view.1 hx; exact one hx rfl rfl
  | own id n => cases e; obtain ⟨_, _, ⟨a, c, rfl, _⟩, _⟩ := rep_own.1 hx; exact one hx rfl rfl
  | eptr t cs => cases e; obtain ⟨a, c, rfl, _⟩ := rep_eptr.1 hx; exact one hx rfl rfl
  | ptr bx sz n id i j => cases e; obtain ⟨_, _, ⟨b, rfl⟩, _⟩ := rep_ptr.1 hx; exact one hx rfl rfl
  | rdr => cases e; obtain ⟨b, _, rfl⟩ := rep_rdr.1 hx; exact one hx rfl rfl
theorem over_rep {cs xs : List AV} {vs us : List Value} {o : Nat} (h : RepL w ρ cs vs) (k : RepL w ρ xs us) : RepL w ρ (over cs o xs) (over vs o us) := by
  unfold over
  rw [k.length]
  exact ((h.take o).append k).append (h.drop _)
theorem over_one {vs us : List Value} {o : Nat} (h : ∀ u ∈ vs, u.oneCell' = true) (k : ∀ u ∈ us, u.oneCell' = true) : ∀ u ∈ over vs o us, u.oneCell' = true := by
  intro u hu
  unfold over at hu
  rcases List.mem_append.1 hu with hu | hu
  · rcases List.mem_append.1 hu with hu | hu
    · exact h u (List.mem_of_mem_take hu)
    · exact k u hu
  · exact h u (List.mem_of_mem_drop hu)
theorem foldl_over (off : Nat) : ∀ (l : List Value) (k : Nat) (vs : List Value), off + k + l.length ≤ vs.length →
    (l.zipIdx k).foldl (fun (cs : Array Value) (p : Value × Nat) => cs.setIfInBounds (off + p.2) p.1) vs.toArray = (over vs (off + k) l).toArray
  | [], k, vs, h => by simp [over]
  | v :: l, k, vs, h => by
    simp only [List.length_cons] at h
    rw [List.zipIdx_cons, List.foldl_cons]
    have e : vs.toArray.setIfInBounds (off + k) v = (vs.set (off + k) v).toArray := by simp
    rw [e, foldl_over off l (k + 1) _ (by rw [List.length_set]; omega)]
    congr 1
    unfold over
    have h1 : off + k < vs.length := by omega
    have hA : (vs.take (off + k)).length = off + k := by rw [List.length_take]; omega
    rw [List.set_eq_take_append_cons_drop, if_pos h1, ← Nat.add_assoc]
    generalize hq : off + k = q at *
    have t1 : List.take (q + 1) (List.take q vs ++ v :: List.drop (q + 1) vs) = List.take q vs ++ [v] := by
      rw [List.take_append, hA, List.take_of_length_le (by omega)]
      congr 1
      rw [show q + 1 - q = 1 by omega]; rfl
    have t2 : List.drop (q + 1 + l.length) (List.take q vs ++ v :: List.drop (q + 1) vs) = List.drop (q + (l.length + 1)) vs := by
      rw [List.drop_append, hA, List.drop_of_length_le (by omega), show q + 1 + l.length - q = l.length + 1 by omega, List.drop_succ_cons, List.drop_drop, List.nil_append]
      congr 1; omega
    rw [t1, t2]
    simp
def afill (place : Nat → Option (Nat × Nat)) : List (Nat × AV) → List AV → Option (List AV)
  | [], cs => some cs
  | (i, x) :: rest, cs =>
    match place i, avCells x with
    | some (o, sz), some xs => if xs.length = sz ∧ o + xs.length ≤ cs.length then afill place rest (over cs o xs) else none
    | _, _ => none
def RepP (w : World) (ρ : Cx) : List (Nat × AV) → List (Nat × Value) → Prop
  | [], vs => vs = []
  | (i, x) :: l, vs => ∃ v vs', vs = (i, v) :: vs' ∧ Rep w ρ x v ∧ RepP w ρ l vs'
theorem fill_ok {place place' : Nat → Option (Nat × Nat)} (hp : ∀ i q, place i = some q → place' i = some q) : ∀ {ps : List (Nat × AV)} {us : List (Nat × Value)} {cs cs' : List AV} {vs : List Value},
    RepP w ρ ps us → RepL w ρ cs vs → (∀ u ∈ vs, u.oneCell' = true) → afill place ps cs = some cs' → ∃ vs', Instr.fill place' vs.toArray us = some vs'.toArray ∧ RepL w ρ cs' vs' ∧ ∀ u ∈ vs', u.oneCell' = true
  | [], us, cs, cs', vs, hu, h, h1, e => by
    unfold RepP at hu; subst hu
    unfold afill at e; cases e
    exact ⟨vs, rfl, h, h1⟩
  | (i, x) :: ps, us, cs, cs', vs, hu, h, h1, e => by
    unfold RepP at hu
    obtain ⟨v, us', rfl, hx, hr⟩ := hu
    unfold afill at e
    split at e
    · rename_i o sz xs hpl hxs
      split at e
      · rename_i hc
        obtain ⟨ws, k1, k2, k3⟩ := avCells_ok hx hxs
        have l1 := h.length
        have l2 := k2.length
        have hf := foldl_over o ws 0 vs (by omega)
        obtain ⟨vs', m1, m2, m3⟩ := fill_ok hp hr (over_rep h k2 (o := o)) (over_one h1 k3) e
        refine ⟨vs', ?_, m2, m3⟩
        unfold Instr.fill
        simp only [hp i _ hpl]
        rw [k1]
        have n1 : ¬ (ws.toArray.size ≠ sz) := by simp; omega
        have n2 : ¬ (o + ws.toArray.size > vs.toArray.size) := by simp; omega
        simp only [n1, n2, decide_false, Bool.or_self, Bool.false_eq_true, if_false]
        rw [← m1]
        congr 1
        rw [Nat.add_zero] at hf
        rw [← hf]
        simp
      · cases e
    · cases e
theorem zsFit_rep : ∀ {zs : List ZK} {vs : List Value}, zsFit zs vs = true → RepL w ρ (zs.map ZK.av) vs ∧ (∀ u ∈ vs, u.oneCell' = true)
  | [], [], _ => ⟨by unfold RepL; rfl, fun u hu => by cases hu⟩
  | [], _ :: _, h => by cases h
  | _ :: _, [], h => by cases h
  | z :: zs, v :: vs, h => by
    simp only [zsFit, Bool.and_eq_true] at h
    obtain ⟨h1, h2⟩ := zsFit_rep (zs := zs) (vs := vs) h.2
    have hz : Rep w ρ z.av v ∧ v.oneCell' = true := by
      have hf := h.1
      cases z with
      | int k => cases v <;> simp [ZK.fits] at hf; obtain ⟨rfl, rfl⟩ := hf; exact ⟨rep_int.2 rfl, rfl⟩
      | bool => cases v <;> simp [ZK.fits] at hf; subst hf; exact ⟨rep_bool.2 rfl, rfl⟩
      | str =>
        cases v <;> simp [ZK.fits] at hf
        rename_i s
        refine ⟨rep_str.2 ⟨?_, by simp [ByteArray.size, big]⟩, rfl⟩
        have : s = ⟨#[]⟩ := by cases s; simp at hf; subst hf; rfl
        rw [this]
      | slice => cases v <;> simp [ZK.fits] at hf; obtain ⟨rfl, rfl⟩ := hf; exact ⟨rep_view.2 ⟨_, 0, rfl, fun _ => rfl, Nat.le_refl _, Nat.zero_le _, (fun e he => by cases he), .inl rfl⟩, rfl⟩
      | other => exact ⟨rep_any _, by simpa [ZK.fits] using hf⟩
    refine ⟨?_, fun u hu => ?_⟩
    · rw [List.map_cons]; unfold RepL; exact ⟨v, vs, rfl, hz.1, h1⟩
    · rcases List.mem_cons.1 hu with rfl | hu
      · exact hz.2
      · exact h2 u hu
theorem zero_ok {t : TypeId} {i : TI} (hi : i.ok P t = true) (hno : i.d ≠ .other) : ∃ (j : TypeInfo) (z : Value) (zs : List Value), P.info? t = some j ∧ j.zero = some z ∧ z.cells = zs.toArray ∧ j.size = i.size ∧ j.bytes = i.bytes ∧
    RepL w ρ (i.z.map ZK.av) zs ∧ (∀ u ∈ zs, u.oneCell' = true) ∧ zs.length = i.size := by
  unfold TI.ok at hi
  split at hi
  · rename_i j d h1 h2
    simp only [Bool.and_eq_true, beq_iff_eq] at hi
    obtain ⟨⟨⟨hs, hb⟩, hd⟩, hz⟩ := hi
    split at hz
    · rename_i vs fs hz1 _
      simp only [Bool.and_eq_true, beq_iff_eq] at hz
      obtain ⟨k1, k2⟩ := zsFit_rep (w := w) (ρ := ρ) hz.1
      exact ⟨j, _, vs.toList, h1, hz1, rfl, hs, hb, k1, k2, by simpa using hz.2⟩
    · cases hz
    · rename_i v hz1 _ _
      simp only [Bool.and_eq_true, beq_iff_eq] at hz
      obtain ⟨k1, k2⟩ := zsFit_rep (w := w) (ρ := ρ) hz.1.1
      have hv : v.cells = #[v] := by cases v <;> first | rfl | (simp [Value.oneCell'] at hz)
      exact ⟨j, v, [v], h1, hz1, hv, hs, hb, k1, k2, by simp [hz.1.2]⟩
    · rename_i hd2; exact absurd hd2 hno
    · cases hz
  · cases hi
def abuild (T : Tab) (t : TypeId) (ps : List (Nat × AV)) : Option AV :=
  match T t with
  | some ⟨_, _, .struct fs, z⟩ =>
    if fs.all (fun p => (T p.2).isSome) then
      match afill (fun i => (fs[i]?).bind fun p => (T p.2).map fun ti => (p.1, ti.size)) ps (z.map ZK.av) with
      | some cs => some (.agg cs)
      | none => none
    else none
  | _ => none
theorem places_ok (hT : Tab.Ok P T) : ∀ {gs : List Field}, (gs.map (fun f => (f.offset, f.type))).all (fun (p : Nat × TypeId) => (T p.2).isSome) = true →
    ∃ ps, gs.mapM (fun f => (P.info? f.type).map fun i => (f.offset, i.size)) = some ps ∧ ∀ (i : Nat) (q : Nat × Nat), ((gs.map (fun f => (f.offset, f.type)))[i]?).bind (fun (p : Nat × TypeId) => (T p.2).map fun ti => (p.1, ti.size)) = some q → ps[i]? = some q
  | [], _ => ⟨[], rfl, fun i q h => by simp at h⟩
  | g :: gs, h => by
    simp only [List.map_cons, List.all_cons, Bool.and_eq_true] at h
    obtain ⟨ps, h1, h2⟩ := places_ok hT (gs := gs) h.2
    obtain ⟨ti, hti⟩ := Option.isSome_iff_exists.1 h.1
    obtain ⟨d, j, hs⟩ := TI.says (hT _ _ hti)
    refine ⟨(g.offset, ti.size) :: ps, ?_, fun i q hq => ?_⟩
    · simp [List.mapM_cons, hs.inf, h1, hs.sz]
    · cases i with
      | zero => simp [hti] at hq; simp [hq]
      | succ i => simpa using h2 i q (by simpa using hq)
theorem build_ok (hT : Tab.Ok P T) {t : TypeId} {ps : List (Nat × AV)} {us : List (Nat × Value)} {c : AV} (hp : RepP w ρ ps us) (e : abuild T t ps = some c) :
    ∃ r, (Instr.build t us.toArray).run P w = .ok r w ∧ Rep w ρ c r := by
  unfold abuild at e
  split at e
  · rename_i sz by' fs z hi
    obtain ⟨d, j, hs⟩ := TI.says (hT _ _ hi)
    obtain ⟨j', zv, zs, k1, k2, k3, _, _, k4, k5, k6⟩ := zero_ok (w := w) (ρ := ρ) (hT _ _ hi) (by simp)
    have hd := hs.dd
    cases d <;> simp [TD.fits] at hd
    rename_i gs
    split at e
    · rename_i hall
      split at e
      · rename_i cs hcs
        cases e
        rw [← hd] at hall
        obtain ⟨pl, m1, m2⟩ := places_ok hT hall
        rw [hd] at m2
        obtain ⟨vs', n1, n2, n3⟩ := fill_ok (place' := fun i => pl.toArray[i]?) (fun i q hq => by simpa using m2 i q hq) hp k4 k5 hcs
        refine ⟨.agg vs'.toArray, run_build w t _ _ ?_, rep_agg.2 ⟨vs', rfl, n3, n2⟩⟩
        unfold Program.built
        simp only [k1, hs.un, k2, m1, k3]
        exact n1
      · cases e
    · cases e
  · cases e
end
end Go.Proofs.Ytgfnmhfdmmnaoaa.Eng
namespace Go.Proofs.Ytgfnmhfdmmnaoaa.Eng
open Go Go.RowKit
theorem flat_set {α : Type} {sz : Nat} : ∀ {es : List (List α)}, (∀ e ∈ es, e.length = sz) → ∀ {i j : Nat} {e xs : List α}, es[i]? = some e → j + xs.length ≤ sz →
    (es.set i (over e j xs)).flatten = over es.flatten (i * sz + j) xs
  | [], _, i, j, e, xs, hc, _ => by simp at hc
  | x :: es, hs, 0, j, e, xs, hc, hj => by
    simp at hc; subst hc
    have hl := hs x (by simp)
    simp only [List.set_cons_zero, List.flatten_cons, Nat.zero_mul, Nat.zero_add]
    unfold over
    rw [List.take_append_of_le_length (by omega), List.drop_append_of_le_length (by omega)]
    simp
  | x :: es, hs, i + 1, j, e, xs, hc, hj => by
    have hl := hs x (by simp)
    have ih := flat_set (fun y (hy : y ∈ es) => hs y (by simp [hy])) (i := i) (j := j) (e := e) (xs := xs) (by simpa using hc) hj
    simp only [List.set_cons_succ, List.flatten_cons, ih]
    unfold over
    have q : (i + 1) * sz + j = sz + (i * sz + j) := by rw [Nat.succ_mul]; omega
    have t1 : List.take (sz + (i * sz + j)) (x ++ es.flatten) = x ++ List.take (i * sz + j) es.flatten := by
      rw [List.take_append, hl, List.take_of_length_le (by omega), Nat.add_sub_cancel_left]
    have t2 : List.drop (sz + (i * sz + j) + xs.length) (x ++ es.flatten) = List.drop (i * sz + j + xs.length) es.flatten := by
      rw [List.drop_append, hl, List.drop_of_length_le (by omega), List.nil_append, show sz + (i * sz + j) + xs.length - sz = i * sz + j + xs.length by omega]
    rw [q, t1, t2]
    simp
theorem over_take {α : Type} {cs xs : List α} {m o : Nat} (h : o + xs.length ≤ m) (hm : m ≤ cs.length) : (over cs o xs).take m = over (cs.take m) o xs := by
  unfold over
  have e1 : List.take o (List.take m cs) = List.take o cs := by rw [List.take_take]; congr 1; omega
  have e2 : (List.take o cs).length = o := by rw [List.length_take]; omega
  rw [e1, List.append_assoc, List.append_assoc, List.take_append, e2, List.take_of_length_le (by omega : (List.take o cs).length ≤ m), List.take_append, List.take_of_length_le (by omega : xs.length ≤ m - o), List.drop_take,
    show m - o - xs.length = m - (o + xs.length) by omega]
def asCells (sz : Nat) : List (Nat × AV) → Nat → Option (List (List AV))
  | [], _ => some []
  | (i, x) :: rest, k =>
    if i = k then
      match avCells x, asCells sz rest (k + 1) with
      | some xs, some es => if xs.length = sz then some (xs :: es) else none
      | _, _ => none
    else none
section
variable {P : Program} {w : World} {ρ : Cx} {T : Tab}
theorem fill_seq {sz : Nat} : ∀ {ps : List (Nat × AV)} {us : List (Nat × Value)} {k : Nat} {es : List (List AV)} {vs : List Value}, RepP w ρ ps us → asCells sz ps k = some es → vs.length = (k + ps.length) * sz →
    ∃ xs, Instr.fill (fun i => some (i * sz, sz)) vs.toArray us = some (vs.take (k * sz) ++ xs).toArray ∧ RepL w ρ es.flatten xs ∧ (∀ u ∈ xs, u.oneCell' = true) ∧ es.length = ps.length ∧ ∀ e ∈ es, e.length = sz
  | [], us, k, es, vs, hu, e, hl => by
    unfold RepP at hu; subst hu
    unfold asCells at e; cases e
    refine ⟨[], ?_, by unfold RepL; rfl, (fun u hu => by cases hu), rfl, (fun e he => by cases he)⟩
    simp only [List.length_nil, Nat.add_zero] at hl
    rw [List.append_nil, List.take_of_length_le (by omega)]
    rfl
  | (i, x) :: ps, us, k, es, vs, hu, e, hl => by
    unfold RepP at hu
    obtain ⟨v, us', rfl, hx, hr⟩ := hu
    unfold asCells at e
    split at e
    · rename_i hik; subst hik
      split at e
      · rename_i xs es' hxs hes
        split at e
        · rename_i hsz
          cases e
          obtain ⟨ws, k1, k2, k3⟩ := avCells_ok hx hxs
          have l2 := k2.length
          have hfit : i * sz + ws.length ≤ vs.length := by rw [hl, List.length_cons, Nat.add_mul, Nat.succ_mul]; omega
          have hf := foldl_over (i * sz) ws 0 vs (by omega)
          rw [Nat.add_zero] at hf
          have hol : (over vs (i * sz) ws).length = (i + 1 + ps.length) * sz := by rw [over_length hfit, hl, List.length_cons]; congr 1; omega
          obtain ⟨ys, m1, m2, m3, m4, m5⟩ := fill_seq (vs := over vs (i * sz) ws) hr hes hol
          refine ⟨ws ++ ys, ?_, k2.append m2, ?_, by simp [m4], ?_⟩
          · unfold Instr.fill
            dsimp only
            rw [k1]
            have n1 : ¬ (ws.toArray.size ≠ sz) := by simp; omega
            have n2 : ¬ (i * sz + ws.toArray.size > vs.toArray.size) := by simp; omega
            simp only [n1, n2, decide_false, Bool.or_self, Bool.false_eq_true, if_false]
            have e2 : (over vs (i * sz) ws).take ((i + 1) * sz) = vs.take (i * sz) ++ ws := by
              unfold over
              rw [List.take_append_of_le_length (by simp only [List.length_append, List.length_take]; rw [Nat.succ_mul]; omega), List.take_of_length_le (by simp only [List.length_append, List.length_take]; rw [Nat.succ_mul]; omega)]
            rw [e2] at m1
            rw [← List.append_assoc, ← m1]
            congr 1
            rw [← hf]
            simp
          · intro u hu
            rcases List.mem_append.1 hu with hu | hu
            · exact k3 u hu
            · exact m3 u hu
          · intro e he
            rcases List.mem_cons.1 he with rfl | he
            · exact hsz
            · exact m5 e he
        · cases e
      · cases e
    · cases e
end
section
variable {P : Program} {w0 : W0} {S0 : Nat → Prop} {rd0 : Option Nat} {k0 : Nat} {w : World} {a : Act} {s : ASt} {ρ : Cx} {T : Tab}
theorem SR.stable (h : SR P w0 S0 rd0 k0 w a s ρ) {w' : World} (hg : Grow w w') (g : Nat) (hge : w.heap.size ≤ g) (hlt : g < w'.heap.size) :
    SR P w0 S0 rd0 k0 w' a s { ρ with S := fun b => ρ.S b ∨ b = g } ∧ Cx.Le w ρ w' { ρ with S := fun b => ρ.S b ∨ b = g } := by
  have hw := h.ext.size
  refine h.step nil (fun _ => False) hg (fun _ h => h.elim) (fun _ h => .inl h) (fun b hb => ?_) rfl rfl rfl rfl h.us (fun _ h => h) (fun _ _ => ⟨rfl, rfl, rfl⟩)
    (fun id u g' _ h1 h2 => ⟨fun h => h, fun hb => ?_⟩) (fun _ h => h.elim) (fun _ _ h => h.elim) (fun _ h => h.elim) (fun _ _ _ h => h.elim) (fun _ h => h.elim)
  · rcases hb with hb | rfl
    · exact .inl hb
    · exact .inr ⟨.inl (by omega), hlt, fun e => by have := (h.rl b e).1; omega⟩
  · rcases hb with hb | rfl
    · exact (h.ns id u g' h1 h2).1 hb
    · have := (h.row_lt h1 h2).2; omega
theorem grow_alloc (w : World) (o : Obj) : Grow w (w.alloc o) := (Ext.refl nil w).alloc o
theorem SR.lit (h : SR P w0 S0 rd0 k0 w a s ρ) {e : TypeId} {es : List (List AV)} {sz : Nat} {xs : List Value} (hsz : ∀ x ∈ es, x.length = sz) (hx : RepL w ρ es.flatten xs) (h1 : ∀ u ∈ xs, u.oneCell' = true) (hb : es.length ≤ big) :
    ∃ ρ', SR P w0 S0 rd0 k0 (w.alloc (.cells xs.toArray e)) a s ρ' ∧ Rep (w.alloc (.cells xs.toArray e)) ρ' (.view .tight sz es) (.slice (some ⟨w.heap.size, 0, none⟩) es.length es.length) := by
  obtain ⟨k1, k2⟩ := h.stable (grow_alloc w (.cells xs.toArray e)) w.heap.size (Nat.le_refl _) (by simp)
  refine ⟨_, k1, rep_view.2 ⟨_, _, rfl, fun _ => rfl, Nat.le_refl _, hb, hsz, .inr ⟨w.heap.size, 0, rfl, .inr rfl, RepE.of_get hsz (fun i e he => RepC.of_get (fun j c hc => ?_))⟩⟩⟩
  have hlt : j < sz := by rw [← hsz e (List.mem_of_getElem? he)]; exact (List.getElem?_eq_some_iff.1 hc).1
  have hf := flat_get hsz he hlt
  rw [hc] at hf
  obtain ⟨v, hv, hrv⟩ := hx.get hf
  refine ⟨v, ?_, h1 v (List.mem_of_getElem? hv), hrv.le k2⟩
  rw [World.cell?_alloc_new, Nat.zero_add]
  simpa using hv
theorem SR.litF (h : SR P w0 S0 rd0 k0 w a s ρ) {e : TypeId} {es : List (List AV)} {sz : Nat} {xs : List Value} (hsz : ∀ x ∈ es, x.length = sz) (hx : RepL w ρ es.flatten xs) (h1 : ∀ u ∈ xs, u.oneCell' = true) (hb : es.length ≤ big) :
    ∃ ρ', SR P w0 S0 rd0 k0 (w.alloc (.cells xs.toArray e)) a s ρ' ∧ Rep (w.alloc (.cells xs.toArray e)) ρ' (.view (.fr w.heap.size) sz es) (.slice (some ⟨w.heap.size, 0, none⟩) es.length es.length) := by
  obtain ⟨k1, k2⟩ := h.stable (grow_alloc w (.cells xs.toArray e)) w.heap.size (Nat.le_refl _) (by simp)
  refine ⟨_, k1, rep_view.2 ⟨_, _, rfl, fun h => (by cases h), Nat.le_refl _, hb, hsz, .inr ⟨w.heap.size, 0, rfl, ⟨.inr rfl, rfl, fun o => (by unfold World.frozen?; rw [heap_alloc_new]; simp)⟩, RepE.of_get hsz (fun i e he => RepC.of_get (fun j c hc => ?_))⟩⟩⟩
  have hlt : j < sz := by rw [← hsz e (List.mem_of_getElem? he)]; exact (List.getElem?_eq_some_iff.1 hc).1
  have hf := flat_get hsz he hlt
  rw [hc] at hf
  obtain ⟨v, hv, hrv⟩ := hx.get hf
  refine ⟨v, ?_, h1 v (List.mem_of_getElem? hv), hrv.le k2⟩
  rw [World.cell?_alloc_new, Nat.zero_add]
  simpa using hv
def abuildSlice (T : Tab) (t : TypeId) (len : Nat) (ps : List (Nat × AV)) : Option AV :=
  match T t with
  | some ⟨_, _, .slice e, _⟩ =>
    match T e with
    | some i => if len * i.size ≤ 16777216 ∧ ps.length = len ∧ len ≤ 16777216 ∧ i.d ≠ .other then (match asCells i.size ps 0 with | some es => some (.view .tight i.size es) | none => none) else none
    | none => none
  | _ => none
theorem buildSlice_ok (hT : Tab.Ok P T) (h : SR P w0 S0 rd0 k0 w a s ρ) {t : TypeId} {len : Nat} {ps : List (Nat × AV)} {us : List (Nat × Value)} {c : AV} (hp : RepP w ρ ps us) (e : abuildSlice T t len ps = some c) :
    ∃ r w' ρ', (Instr.buildSlice t len us.toArray).run P w = .ok r w' ∧ SR P w0 S0 rd0 k0 w' a s ρ' ∧ Rep w' ρ' c r := by
  unfold abuildSlice at e
  split at e
  · rename_i sz by' el z hi
    obtain ⟨d, j, hs⟩ := TI.says (hT _ _ hi)
    have hd := hs.dd
    cases d <;> simp [TD.fits] at hd
    subst hd
    split at e
    · rename_i i hi2
      split at e
      · rename_i hc
        split at e
        · rename_i es hes
          cases e
          obtain ⟨j', zv, zs, k1, k2, k3, k3', _, k4, k5, k6⟩ := zero_ok (w := w) (ρ := ρ) (hT _ _ hi2) hc.2.2.2
          obtain ⟨d2, j2, hs2⟩ := TI.says (hT _ _ hi2)
          have hz := hs2.sizeOf w
          obtain ⟨xs, m1, m2, m3, m4, m5⟩ := fill_seq (vs := (madeCells (if len * i.size = 0 then #[] else zv.cells) (len * i.size)).toList) hp hes (by rw [Nat.zero_add, Array.length_toList, size_madeCells, hc.2.1])
          rw [Nat.zero_mul, List.take_zero, List.nil_append] at m1
          have hel : es.length = len := by rw [m4, hc.2.1]
          obtain ⟨ρ', n1, n2⟩ := h.lit (e := el) m5 m2 m3 (by rw [hel]; unfold big; omega)
          rw [hel] at n2
          refine ⟨_, _, ρ', ?_, n1, n2⟩
          unfold Instr.buildSlice
          simp only [Sem.run_bind, run_underlying' hs.un, Result.andThen_ok, hz]
          have nle : ¬ (len * i.size > 2 ^ 24) := by omega
          simp only [nle, if_false, Sem.run_pure, Result.andThen_ok]
          rw [Array.toArray_toList] at m1
          unfold madeCells at m1
          by_cases h0 : len * i.size = 0
          · rw [if_pos h0] at m1
            simp only [h0, if_true, Sem.run_bind, Sem.run_pure, Result.andThen_ok] at m1 ⊢
            rw [m1]
            rfl
          · rw [if_neg h0] at m1
            simp only [h0, if_false, Sem.run_bind, Sem.run_pure, Result.andThen_ok, zeroValue, typeInfo, run_program, k1, k2]
            rw [m1]
            rfl
        · cases e
      · cases e
    · cases e
  · cases e
theorem buildSliceF_ok (hT : Tab.Ok P T) (h : SR P w0 S0 rd0 k0 w a s ρ) {t : TypeId} {len : Nat} {ps : List (Nat × AV)} {us : List (Nat × Value)} {sz : Nat} {es : List (List AV)} (hp : RepP w ρ ps us) (e : abuildSlice T t len ps = some (.view .tight sz es)) :
    ∃ r w' ρ', w.heap.size < w'.heap.size ∧ (Instr.buildSlice t len us.toArray).run P w = .ok r w' ∧ SR P w0 S0 rd0 k0 w' a s ρ' ∧ Rep w' ρ' (.view (.fr w.heap.size) sz es) r := by
  unfold abuildSlice at e
  split at e
  · rename_i szt by' el z hi
    obtain ⟨d, j, hs⟩ := TI.says (hT _ _ hi)
    have hd := hs.dd
    cases d <;> simp [TD.fits] at hd
    subst hd
    split at e
    · rename_i i hi2
      split at e
      · rename_i hc
        split at e
        · rename_i es hes
          cases e
          obtain ⟨j', zv, zs, k1, k2, k3, k3', _, k4, k5, k6⟩ := zero_ok (w := w) (ρ := ρ) (hT _ _ hi2) hc.2.2.2
          obtain ⟨d2, j2, hs2⟩ := TI.says (hT _ _ hi2)
          have hz := hs2.sizeOf w
          obtain ⟨xs, m1, m2, m3, m4, m5⟩ := fill_seq (vs := (madeCells (if len * i.size = 0 then #[] else zv.cells) (len * i.size)).toList) hp hes (by rw [Nat.zero_add, Array.length_toList, size_madeCells, hc.2.1])
          rw [Nat.zero_mul, List.take_zero, List.nil_append] at m1
          have hel : es.length = len := by rw [m4, hc.2.1]
          obtain ⟨ρ', n1, n2⟩ := h.litF (e := el) m5 m2 m3 (by rw [hel]; unfold big; omega)
          rw [hel] at n2
          refine ⟨_, _, ρ', by simp, ?_, n1, n2⟩
          unfold Instr.buildSlice
          simp only [Sem.run_bind, run_underlying' hs.un, Result.andThen_ok, hz]
          have nle : ¬ (len * i.size > 2 ^ 24) := by omega
          simp only [nle, if_false, Sem.run_pure, Result.andThen_ok]
          rw [Array.toArray_toList] at m1
          unfold madeCells at m1
          by_cases h0 : len * i.size = 0
          · rw [if_pos h0] at m1
            simp only [h0, if_true, Sem.run_bind, Sem.run_pure, Result.andThen_ok] at m1 ⊢
            rw [m1]
            rfl
          · rw [if_neg h0] at m1
            simp only [h0, if_false, Sem.run_bind, Sem.run_pure, Result.andThen_ok, zeroValue, typeInfo, run_program, k1, k2]
            rw [m1]
            rfl
        · cases e
      · cases e
    · cases e
  · cases e
theorem SR.box (h : SR P w0 S0 rd0 k0 w a s ρ) {e : TypeId} {cs : List AV} {sz : Nat} {xs : List Value} (he : P.cellsOf e = sz) (hl : cs.length = sz) (hx : RepL w ρ cs xs) (h1 : ∀ u ∈ xs, u.oneCell' = true) (id : Nat) (hid : s.used id = false) :
    ∃ ρ', SR P w0 S0 rd0 k0 (w.alloc (.cells xs.toArray e)) a (s.add id ⟨true, e, sz, [cs]⟩) ρ' ∧ Rep (w.alloc (.cells xs.toArray e)) ρ' (.ptr true sz 1 id 0 0) (.pointer (some ⟨w.heap.size, 0, none⟩)) := by
  have hg := h.grow (grow_alloc w (.cells xs.toArray e))
  have hxl : xs.length = sz := by rw [hx.length, hl]
  obtain ⟨k1, k2⟩ := h.new (grow_alloc w (.cells xs.toArray e)) id hid ⟨true, e, sz, [cs]⟩ (.slice (some ⟨w.heap.size, 0, none⟩) 1 1) (fun g hg => by rw [blk_slice _ _ _ (by omega)] at hg; cases hg; exact Nat.le_refl _)
    ⟨⟨he, fun g hg => by rw [blk_slice _ _ _ (by omega)] at hg; cases hg; exact Nat.le_refl _⟩, fun x hx => by simp at hx; rw [hx]; exact hl, fun _ => rfl, xs, .inr ⟨w.heap.size, 1, xs.toArray, rfl, by omega, Nat.zero_le _, heap_alloc_new w _, Nat.le_refl _, by unfold maxLen; omega, by simp [hxl], by simp [← hxl], by simp [hxl]⟩, by simpa using hx.le hg.2, h1⟩
  refine ⟨_, k1, rep_ptr.2 ⟨.inr rfl, by simp [Cx.add, upd_same], ⟨w.heap.size, by simp⟩, fun u hu _ => ?_⟩⟩
  simp only [Cx.add, upd_same, Option.some.injEq] at hu
  subst hu
  exact ⟨w.heap.size, 1, 1, rfl, by simp⟩
def abox (T : Tab) (t : TypeId) (id : Nat) (s : ASt) (x : AV) : Option (AV × ASt) :=
  match T t, avCells x with
  | some i, some cs => if cs.length = i.size ∧ s.used id = false then some (.ptr true i.size 1 id 0 0, s.add id ⟨true, t, i.size, [cs]⟩) else none
  | _, _ => none
theorem box_ok (hT : Tab.Ok P T) (h : SR P w0 S0 rd0 k0 w a s ρ) {t : TypeId} {id : Nat} {x c : AV} {v : Value} {s' : ASt} (hx : Rep w ρ x v) (e : abox T t id s x = some (c, s')) :
    ∃ r w' ρ', (Instr.box t v).run P w = .ok r w' ∧ SR P w0 S0 rd0 k0 w' a s' ρ' ∧ Rep w' ρ' c r := by
  unfold abox at e
  split at e
  · rename_i i cs hi hcs
    split at e
    · rename_i hc
      cases e
      obtain ⟨d, j, hs⟩ := TI.says (hT _ _ hi)
      obtain ⟨vs, k1, k2, k3⟩ := avCells_ok hx hcs
      obtain ⟨ρ', m1, m2⟩ := h.box (e := t) hs.cells hc.1 k2 k3 id hc.2
      refine ⟨_, _, ρ', ?_, m1, m2⟩
      unfold Instr.box newVar
      rw [k1]
      rfl
    · cases e
  · cases e
def aalloc (T : Tab) (t : TypeId) (id : Nat) (s : ASt) : Option (AV × ASt) :=
  match T t with
  | some i => if i.d ≠ .other ∧ i.z.length = i.size ∧ s.used id = false then some (.ptr true i.size 1 id 0 0, s.add id ⟨true, t, i.size, [i.z.map ZK.av]⟩) else none
  | none => none
theorem alloc_ok (hT : Tab.Ok P T) (h : SR P w0 S0 rd0 k0 w a s ρ) {t : TypeId} {id : Nat} {c : AV} {s' : ASt} (e : aalloc T t id s = some (c, s')) :
    ∃ r w' ρ', (Instr.alloc t true (.tuple #[])).run P w = .ok r w' ∧ SR P w0 S0 rd0 k0 w' a s' ρ' ∧ Rep w' ρ' c r := by
  unfold aalloc at e
  split at e
  · rename_i i hi
    split at e
    · rename_i hc
      cases e
      obtain ⟨d, j, hs⟩ := TI.says (hT _ _ hi)
      obtain ⟨j', zv, zs, k1, k2, k3, _, _, k4, k5, k6⟩ := zero_ok (w := w) (ρ := ρ) (hT _ _ hi) hc.1
      obtain ⟨ρ', m1, m2⟩ := h.box (e := t) hs.cells (by simpa using hc.2.1) k4 k5 id hc.2.2
      refine ⟨_, _, ρ', ?_, m1, m2⟩
      unfold Instr.alloc newVar
      simp only [Sem.run_bind, zeroValue, typeInfo, run_program, k1, k2, Result.andThen_ok, Sem.run_pure, k3]
      rfl
    · cases e
  · cases e
def astore (T : Tab) (t : TypeId) (s : ASt) (p x : AV) : Option ASt :=
  match T t, p, avCells x with
  | some ti, .ptr bx sz n id i j, some xs =>
    match s.rows id with
    | some r =>
      if r.bx = bx ∧ r.sz = sz ∧ r.es.length = n ∧ xs.length = ti.size ∧ j + xs.length ≤ sz ∧ 0 < xs.length then
        match r.es[i]? with
        | some e => some (s.turn id { r with es := r.es.set i (over e j xs) })
        | none => none
      else none
    | none => none
  | _, _, _ => none
theorem store_ok (hT : Tab.Ok P T) (h : SR P w0 S0 rd0 k0 w a s ρ) {t : TypeId} {p x : AV} {vp vx : Value} {s' : ASt} (hp : Rep w ρ p vp) (hx : Rep w ρ x vx) (e : astore T t s p x = some s') :
    ∃ w' , (Instr.storeAt t vp vx).run P w = .ok () w' ∧ SR P w0 S0 rd0 k0 w' a s' ρ := by
  unfold astore at e
  split at e
  · rename_i ti bx sz nn id i j xs hi hxs
    split at e
    · rename_i r hr
      split at e
      · rename_i hc
        split at e
        · rename_i el hel
          cases e
          obtain ⟨d, jt, hs⟩ := TI.says (hT _ _ hi)
          obtain ⟨vs, k1, k2, k3⟩ := avCells_ok hx hxs
          obtain ⟨hu, _, _, hq⟩ := rep_ptr.1 hp
          obtain ⟨_, u, hru, hln, h0, hes, hbx, ys, hat, hrep, hone⟩ := h.rw id r hr
          obtain ⟨hbxe, hsze, hnn, hlx, hfit, hpos⟩ := hc
          obtain ⟨b, n, c, rfl, rfl⟩ := hq u hru (by rw [hln]; exact hnn.symm)
          subst hsze
          have l2 := k2.length
          have hrl : i < r.es.length := (List.getElem?_eq_some_iff.1 hel).1
          rcases hat with ⟨hn, _, a0, ha0⟩ | ⟨g, cap, cur, he, hcp, hB, hg, hn, hcm, hcs, htk, hyl⟩
          · omega
          · cases he
            have hmul : i * r.sz + r.sz ≤ r.es.length * r.sz := by rw [← Nat.succ_mul]; exact Nat.mul_le_mul_right _ hrl
            have hmul2 : r.es.length * r.sz ≤ c * r.sz := Nat.mul_le_mul_right _ hn
            have hst := run_storeCells_at P b (i * r.sz + j) r.e vs 0 cur w hg (by rw [hcs]; omega) k3
            simp only [Nat.add_zero] at hst
            have hxx : Ext (fun k => k = b) w (w.setRow b (cur.toList.take (i * r.sz + j) ++ vs ++ cur.toList.drop (i * r.sz + j + vs.length)).toArray) :=
              ⟨rfl, rfl, rfl, by simp, fun k _ hk => setRow_other w b k _ hk⟩
            obtain ⟨m1, m2⟩ := h.turn id _ b hru (blk_slice _ _ _ hcp) hxx { r with es := r.es.set i (over el j xs) } (by rw [hln]; simp) (fun r0 hr0 => by rw [hr] at hr0; cases hr0; rfl) (fun ρ' le => by
              refine ⟨h0, fun x hx => ?_, fun hb => by simpa using hbx hb, over ys (i * r.sz + j) vs, .inr ⟨b, c, _, by simp, hcp, hB, setRow_heap w b cur _ r.e _ hg, by simpa using hn, hcm, ?_, ?_, ?_⟩, ?_, over_one hone k3⟩
              · rcases List.mem_or_eq_of_mem_set hx with hx | rfl
                · exact hes x hx
                · rw [over_length (by rw [hes el (List.mem_of_getElem? hel)]; omega)]; exact hes el (List.mem_of_getElem? hel)
              · simp only [List.size_toArray, List.length_append, List.length_take, List.length_drop, Array.length_toList, hcs]; omega
              · simp only [List.length_set]
                rw [← htk, ← over_take (by omega) (by rw [Array.length_toList, hcs]; omega)]
                rfl
              · rw [over_length (by rw [hyl]; omega), hyl]; simp
              · rw [flat_set hes hel (by omega)]
                exact (over_rep hrep k2).le le)
            refine ⟨_, ?_, m1⟩
            unfold Instr.storeAt storeVar
            have : ¬ (vs.toArray.size ≠ ti.size) := by simp; omega
            simp only [Instr.sureAddr, Sem.run_bind, Sem.run_pure, Result.andThen_ok, hs.sizeOf w, k1, this, if_false]
            exact hst
        · cases e
      · cases e
    · cases e
  · cases e
end
end Go.Proofs.Ytgfnmhfdmmnaoaa.Eng
namespace Go.Proofs.Ytgfnmhfdmmnaoaa.Eng
open Go Go.RowKit
def Src (w : World) (y : Option Addr) (m : Nat) (news : List Value) : Prop := (m = 0 ∧ news = []) ∨ ∃ ad, y = some ad ∧ ∀ j u, news[j]? = some u → w.cell? (ad.add j) = some u
section
variable {P : Program} {w : World} {ρ : Cx} {T : Tab}
theorem run_append_full (t ty e : TypeId) (i : TypeInfo) (z : Value) (ht : P.underlying t = some (.slice e)) (hi : P.info? e = some i) (hz : i.zero = some z) (hzs : z.cells.size = i.size)
    (ba : Option Addr) (n : Nat) (olds : List Value) (hlo : olds.length = n * i.size) (holds : n = 0 ∨ ∃ b, ba = some b ∧ ∀ j v, olds[j]? = some v → w.cell? (b.add j) = some v)
    (y : Option Addr) (m c : Nat) (news : List Value) (hl : news.length = m * i.size) (hy : Src w y m news) (hbytes : (n + m) * i.bytes ≤ 140737488355328) (h63 : n + m ≤ maxLen) :
    (m = 0 ∧ (Builtin.append_ #[t, t] ty #[.slice ba n n, .slice y m c]).run P w = .ok (.slice ba n n) w) ∨
    (0 < m ∧ ∃ cap rest, (Builtin.append_ #[t, t] ty #[.slice ba n n, .slice y m c]).run P w = .ok (.slice (some ⟨w.heap.size, 0, none⟩) (n + m) cap) (w.drew.alloc (.cells (olds ++ news ++ rest).toArray e)) ∧
      n + m ≤ cap ∧ cap ≤ maxLen ∧ (olds ++ news ++ rest).length = cap * i.size) := by
  rcases Nat.eq_zero_or_pos m with rfl | hm
  · refine .inl ⟨rfl, ?_⟩
    cases y <;> cases ba <;> simp [Builtin.append_, run_underlying ht, sizeOf, typeInfo, hi, Builtin.lenOf, Builtin.firstCells, loadCells, loadCellsFrom, storeCells]
  · refine .inr ⟨hm, ?_⟩
    rcases hy with ⟨h0, _⟩ | ⟨ad, rfl, hnews⟩
    · omega
    have h63' : ((n + m : Nat) : Int) ≤ 9223372036854775807 := by unfold maxLen at h63; omega
    have fin : ∀ cap, cap = grownCap w (n + m) n e → n + m ≤ cap ∧ cap ≤ maxLen ∧ (olds ++ news ++ (Builtin.zeroCells z.cells (cap - (n + m))).toList).length = cap * i.size := by
      rintro cap rfl
      have h1 := grownCap_ge w (n + m) n e
      refine ⟨h1, grownCap_le_maxLen w _ _ _ h63, ?_⟩
      simp only [List.length_append, hlo, hl, Array.length_toList, size_zeroCells, hzs, ← Nat.add_mul]
      congr 1; omega
    by_cases hb : ∃ b, ba = some b
    · obtain ⟨b, rfl⟩ := hb
      have holds' : ∀ j v, olds[j]? = some v → w.cell? (b.add j) = some v := by
        rcases holds with rfl | ⟨b', hb', hh⟩
        · intro j v hj
          have : olds = [] := List.length_eq_zero_iff.1 (by rw [hlo]; simp)
          subst this; simp at hj
        · cases hb'; exact hh
      have hr := run_append_grow (P := P) w t ty e i z ht hi hz b n n olds hlo holds' ad m c news hl hnews (by omega) h63' (growslice_fits (by omega) hbytes)
      obtain ⟨f1, f2, f3⟩ := fin _ rfl
      refine ⟨_, (Builtin.zeroCells z.cells (grownCap w (n + m) n e - (n + m))).toList, ?_, f1, f2, f3⟩
      have q : ∀ Z : Array Value, olds.toArray ++ news.toArray ++ Z = (olds ++ news ++ Z.toList).toArray := fun Z => by apply Array.ext'; simp [List.append_assoc]
      rw [hr, q]
    · have hbn : ba = none := by cases ba with | none => rfl | some b => exact absurd ⟨b, rfl⟩ hb
      subst hbn
      have hn : n = 0 := by
        rcases holds with h | ⟨b, hb, _⟩
        · exact h
        · cases hb
      subst hn
      have ho : olds = [] := List.length_eq_zero_iff.1 (by rw [hlo]; simp)
      subst ho
      have hr := run_append_nil (P := P) w t ty e i z ht hi hz ad m c news hl hnews hm (by omega) (by have := hbytes; rw [Nat.zero_add] at this; omega)
      obtain ⟨f1, f2, f3⟩ := fin _ rfl
      refine ⟨_, (Builtin.zeroCells z.cells (grownCap w (0 + m) 0 e - (0 + m))).toList, ?_, f1, f2, f3⟩
      have q : ∀ Z : Array Value, news.toArray ++ Z = ([] ++ news ++ Z.toList).toArray := fun Z => by apply Array.ext'; simp
      rw [hr, q]
      simp only [Nat.zero_add]
theorem run_append_none (t ty e : TypeId) (i : TypeInfo) (ht : P.underlying t = some (.slice e)) (hi : P.info? e = some i) (ba : Option Addr) (n cap : Nat) (hn : n ≤ cap) (y : Option Addr) (c : Nat) :
    (Builtin.append_ #[t, t] ty #[.slice ba n cap, .slice y 0 c]).run P w = .ok (.slice ba n cap) w := by
  cases y <;> cases ba <;> simp [Builtin.append_, run_underlying ht, sizeOf, typeInfo, hi, Builtin.lenOf, Builtin.firstCells, loadCells, loadCellsFrom, storeCells, hn]
theorem run_append_row {B : Nat} (t ty e : TypeId) (i : TypeInfo) (z : Value) (ht : P.underlying t = some (.slice e)) (hi : P.info? e = some i) (hz : i.zero = some z) (hzs : z.cells.size = i.size) 
    {u : Value} {n : Nat} {olds : List Value} (hat : RowAt w B e i.size u n olds) (hB : B ≤ w.heap.size) (y : Option Addr) (m c : Nat) (news : List Value) (hl : news.length = m * i.size) (hy : Src w y m news) (h1 : ∀ u ∈ news, u.oneCell' = true)
    (hbytes : (n + m) * i.bytes ≤ 140737488355328) (h63 : n + m ≤ maxLen) :
    ∃ v' w', (Builtin.append_ #[t, t] ty #[u, .slice y m c]).run P w = .ok v' w' ∧ RowAt w' B e i.size v' (n + m) (olds ++ news) ∧ Ext (fun k => blk u = some k) w w' ∧ (∀ g, blk v' = some g → blk u = some g ∨ w.heap.size ≤ g) ∧ (m = 0 → v' = u) := by
  have hg : ∀ (o : Obj), Ext (fun k => blk u = some k) w (w.drew.alloc o) := fun o => ((Ext.refl _ w).drew).alloc o
  rcases hat with ⟨rfl, rfl, a0, rfl⟩ | ⟨g, cap, cur, rfl, hcp, hb, hgg, hn, hcm, hcs, htk, hol⟩
  · rcases run_append_full (P := P) (w := w) t ty e i z ht hi hz hzs a0 0 [] (by simp) (.inl rfl) y m c news hl hy hbytes h63 with ⟨rfl, hr⟩ | ⟨hm, cap, rest, hr, k1, k2, k3⟩
    · refine ⟨_, _, hr, .inl ⟨rfl, ?_, _, rfl⟩, Ext.refl _ _, fun g hg => .inl hg, fun _ => rfl⟩
      have : news = [] := List.length_eq_zero_iff.1 (by rw [hl]; simp)
      simp [this]
    · refine ⟨_, _, hr, .inr ⟨w.heap.size, cap, _, rfl, by omega, hB, heap_alloc_new w.drew _, k1, k2, by simpa using k3, ?_, ?_⟩, hg _, fun g hg => ?_, fun h0 => by omega⟩
      · simp only [List.nil_append, Nat.zero_add]
        rw [← hl, List.take_left']
        rfl
      · simp [hl]
      · rw [blk_slice _ _ _ (by omega)] at hg; cases hg; exact .inr (Nat.le_refl _)
  · rcases Nat.eq_zero_or_pos m with rfl | hm
    · refine ⟨_, _, run_append_none t ty e i ht hi _ _ _ hn y c, .inr ⟨g, cap, cur, rfl, hcp, hb, hgg, hn, hcm, hcs, ?_, ?_⟩, Ext.refl _ _, fun g hg => .inl hg, fun _ => rfl⟩
      · have : news = [] := List.length_eq_zero_iff.1 (by rw [hl]; simp)
        rw [this, List.append_nil]; exact htk
      · simp [hl, hol]
    · rcases hy with ⟨h0, _⟩ | ⟨ad, rfl, hnews⟩
      · omega
      have hat : RowAt w B e i.size (.slice (some ⟨g, 0, none⟩) n cap) n olds := .inr ⟨g, cap, cur, rfl, hcp, hb, hgg, hn, hcm, hcs, htk, hol⟩
      have hlen : (olds ++ news).length = (n + m) * i.size := by rw [List.length_append, hol, hl, Nat.add_mul]
      by_cases hroom : n + m ≤ cap
      · have hfit : n * i.size + news.length ≤ cur.size := by rw [hl, hcs, ← Nat.add_mul]; exact Nat.mul_le_mul_right _ hroom
        have hr := run_append_room (P := P) w t ty e i ht hi g n cap cur hgg ad m c news hl hnews h1 hroom hfit
        refine ⟨_, _, hr, .inr ⟨g, cap, _, rfl, hcp, hb, setRow_heap w g cur _ e _ hgg, hroom, hcm, ?_, ?_, hlen⟩, ⟨rfl, rfl, rfl, by simp, fun k _ hk => setRow_other w g k _ (fun e => hk (by rw [e]; exact blk_slice _ _ _ hcp))⟩, fun g' hg' => ?_, fun h0 => by omega⟩
        · simp only [List.size_toArray, List.length_append, List.length_take, List.length_drop, Array.length_toList]
          omega
        · rw [htk, ← hlen]
          exact List.take_left
        · rw [blk_slice _ _ _ hcp] at hg'; exact .inl (by rw [blk_slice _ _ _ hcp]; exact hg')
      · have hge := grownCap_ge w (n + m) cap e
        have hr := run_append_grow (P := P) w t ty e i z ht hi hz ⟨g, 0, none⟩ n cap olds hol (fun j u hj => by rw [addr_add, Nat.zero_add]; exact hat.cells _ _ hj) ad m c news hl hnews (by omega) (by unfold maxLen at h63; omega) (growslice_fits (by omega) hbytes)
        refine ⟨_, _, hr, .inr ⟨w.heap.size, _, _, rfl, by omega, hB, heap_alloc_new w.drew _, hge, grownCap_le_maxLen w _ _ _ h63, ?_, ?_, hlen⟩, hg _, fun g' hg' => ?_, fun h0 => by omega⟩
        · simp only [Array.size_append, List.size_toArray, size_zeroCells, hzs, hol, hl, ← Nat.add_mul]
          congr 1; omega
        · simp only [Array.toList_append, List.append_assoc]
          rw [← List.append_assoc, ← hlen]
          exact List.take_left
        · rw [blk_slice _ _ _ (by omega)] at hg'; cases hg'; exact .inr (Nat.le_refl _)
theorem view_src {tt : VC} {sz : Nat} {es : List (List AV)} {v : Value} (h : Rep w ρ (.view tt sz es) v) : ∃ ad c xs, v = .slice ad es.length c ∧ RepL w ρ es.flatten xs ∧ (∀ u ∈ xs, u.oneCell' = true) ∧ Src w ad es.length xs ∧ (∀ e ∈ es, e.length = sz) ∧ es.length ≤ big ∧
    (tt = .tight → c = es.length) ∧ (es.length = 0 ∨ ∃ b, ad = some b ∧ ∀ j u, xs[j]? = some u → w.cell? (b.add j) = some u) := by
  obtain ⟨ad, c, rfl, ht, hc, hb, hl, hor⟩ := rep_view.1 h
  rcases hor with rfl | ⟨b, o, rfl, hS, he⟩
  · exact ⟨ad, c, [], rfl, by simp only [List.flatten_nil]; unfold RepL; rfl, (fun u hu => by cases hu), .inl ⟨rfl, rfl⟩, hl, hb, ht, .inl rfl⟩
  · have hC : RepC w ρ b o es.flatten := RepC.of_get (fun k c' hk => by
      obtain ⟨i, j, e, h1, h2, rfl, h4⟩ := flat_split hl hk
      have := (he.get hl h1).get h4
      rwa [Nat.add_assoc] at this)
    obtain ⟨xs, k1, k2, k3⟩ := hC.vals
    have hcell : ∀ j u, xs[j]? = some u → w.cell? ((⟨b, o, none⟩ : Addr).add j) = some u := fun j u hj => by rw [addr_add]; exact k3 j u hj
    exact ⟨_, c, xs, rfl, k1, k2, .inr ⟨_, rfl, hcell⟩, hl, hb, ht, .inr ⟨_, rfl, hcell⟩⟩
end
section
variable {P : Program} {w0 : W0} {S0 : Nat → Prop} {rd0 : Option Nat} {k0 : Nat} {w : World} {a : Act} {s : ASt} {ρ : Cx} {T : Tab}
theorem own_src (h : SR P w0 S0 rd0 k0 w a s ρ) {id n : Nat} {r : Row} {v : Value} (hv : Rep w ρ (.own id n) v) (hr : s.rows id = some r) (hnr : r.es.length = n) : ∃ ad c xs, v = .slice ad r.es.length c ∧ n = r.es.length ∧ RepL w ρ r.es.flatten xs ∧ (∀ u ∈ xs, u.oneCell' = true) ∧ Src w ad r.es.length xs ∧
    (∀ e ∈ r.es, e.length = r.sz) ∧ P.cellsOf r.e = r.sz ∧ ρ.row id = some v ∧ RowAt w 0 r.e r.sz v r.es.length xs := by
  obtain ⟨hu, _, ⟨ad, c, rfl, _⟩, hp⟩ := rep_own.1 hv
  obtain ⟨_, u, hru, hln, h0, hes, hbx, xs, hat, hrep, hone⟩ := h.rw id r hr
  have := hp u hru (by rw [hln]; exact hnr.symm); subst this
  rcases hat with ⟨hn, rfl, a0, he⟩ | ⟨g, cap, cur, he, hcp, hB, hg, hn, hcm, hcs, htk, hyl⟩
  · cases he
    exact ⟨ad, 0, [], by rw [hn], by rw [hn], hrep, hone, .inl ⟨hn, rfl⟩, hes, h0.1, hru, .inl ⟨hn, rfl, _, rfl⟩⟩
  · cases he
    have hat' : RowAt w 0 r.e r.sz (.slice (some ⟨g, 0, none⟩) r.es.length c) r.es.length xs := .inr ⟨g, c, cur, rfl, hcp, hB, hg, hn, hcm, hcs, htk, hyl⟩
    exact ⟨_, c, xs, rfl, rfl, hrep, hone, .inr ⟨_, rfl, fun j u hj => by rw [addr_add, Nat.zero_add]; exact hat'.cells _ _ hj⟩, hes, h0.1, hru, hat'⟩
def asrc (s : ASt) (i : TI) : AV → Option (List (List AV))
  | .view _ sz es => if sz = i.size ∨ es.isEmpty then some es else none
  | .own id n => match s.rows id with | some r => if r.sz = i.size ∧ r.es.length = n then some r.es else none | none => none
  | _ => none
theorem src_ok (h : SR P w0 S0 rd0 k0 w a s ρ) {i : TI} {y : AV} {v : Value} {ys : List (List AV)} (hy : Rep w ρ y v) (e : asrc s i y = some ys) :
    ∃ ad c xs, v = .slice ad ys.length c ∧ RepL w ρ ys.flatten xs ∧ (∀ u ∈ xs, u.oneCell' = true) ∧ Src w ad ys.length xs ∧ (∀ e ∈ ys, e.length = i.size) := by
  unfold asrc at e
  split at e
  · rename_i tt sz es
    split at e
    · rename_i hc
      cases e
      obtain ⟨ad, c, xs, h1, h2, h3, h4, h5, _⟩ := view_src hy
      refine ⟨ad, c, xs, h1, h2, h3, h4, fun x hx => ?_⟩
      rcases hc with hc | hc
      · rw [← hc]; exact h5 x hx
      · have : ys = [] := by simpa using hc
        subst this; cases hx
    · cases e
  · rename_i id n
    split at e
    · rename_i r hr
      split at e
      · rename_i hsz
        cases e
        obtain ⟨ad, c, xs, h1, h2, h3, h4, h5, h6, _⟩ := own_src h hy hr hsz.2
        exact ⟨ad, c, xs, h1, h3, h4, h5, fun x hx => by rw [← hsz.1]; exact h6 x hx⟩
      · cases e
    · cases e
  · cases e
def aappend (T : Tab) (t : TypeId) (id : Nat) (s : ASt) (x y : AV) : Option (Nat × Row × ASt) :=
  match T t with
  | some ⟨_, _, .slice e, _⟩ =>
    match T e with
    | some i =>
      match asrc s i y with
      | some ys =>
        match x with
        | .own idb n =>
          match s.rows idb with
          | some r => if i.d ≠ .other ∧ r.bx = false ∧ r.e = e ∧ r.es.length = n ∧ (r.es.length + ys.length) * i.bytes ≤ 140737488355328 ∧ r.es.length + ys.length ≤ 140737488355328
              then some (idb, ⟨false, e, i.size, r.es ++ ys⟩, s.turn idb ⟨false, e, i.size, r.es ++ ys⟩) else none
          | none => none
        | .view .tight _ es => if i.d ≠ .other ∧ es.isEmpty ∧ ys.length * i.bytes ≤ 140737488355328 ∧ ys.length ≤ 140737488355328 ∧ s.used id = false then some (id, ⟨false, e, i.size, ys⟩, s.add id ⟨false, e, i.size, ys⟩) else none
        | _ => none
      | none => none
    | none => none
  | _ => none
theorem own_shape {u : Value} {w' : World} {B sz n : Nat} {e : TypeId} {xs : List Value} (hat : RowAt w' B e sz u n xs) : ∃ a c, u = .slice a n c ∧ (n = 0 ∨ ∃ b, a = some ⟨b, 0, none⟩) := by
  rcases hat with ⟨rfl, _, a0, rfl⟩ | ⟨g, cap, cur, rfl, _⟩
  · exact ⟨_, _, rfl, .inl rfl⟩
  · exact ⟨_, _, rfl, .inr ⟨g, rfl⟩⟩
theorem append_ok (hT : Tab.Ok P T) (h : SR P w0 S0 rd0 k0 w a s ρ) {t ty : TypeId} {id id' : Nat} {x y : AV} {vx vy : Value} {r' : Row} {s' : ASt} (hx : Rep w ρ x vx) (hy : Rep w ρ y vy) (e : aappend T t id s x y = some (id', r', s')) :
    s'.rows id' = some r' ∧ ∃ r w' ρ', (Builtin.append_ #[t, t] ty #[vx, vy]).run P w = .ok r w' ∧ SR P w0 S0 rd0 k0 w' a s' ρ' ∧ Rep w' ρ' (.own id' r'.es.length) r := by
  unfold aappend at e
  split at e
  · rename_i sz by' el z hi
    obtain ⟨d, j, hs⟩ := TI.says (hT _ _ hi)
    have hd := hs.dd
    cases d <;> simp [TD.fits] at hd
    subst hd
    split at e
    · rename_i i hi2
      obtain ⟨d2, j2, hs2⟩ := TI.says (hT _ _ hi2)
      split at e
      · rename_i ys hys
        obtain ⟨yad, yc, news, rfl, n1, n2, n3, n4⟩ := src_ok h hy hys
        have hnl : news.length = ys.length * j2.size := by rw [n1.length, flat_len n4, hs2.sz]
        split at e
        · rename_i idb nb
          split at e
          · rename_i r hr
            split at e
            · rename_i hc
              cases e
              obtain ⟨hno, hbx, hre, hnn, hby, hle⟩ := hc
              obtain ⟨j', zv, zs, k1, k2, k3, k3', k3'', k4, k5, k6⟩ := zero_ok (w := w) (ρ := ρ) (hT _ _ hi2) hno
              rw [hs2.inf] at k1; cases k1
              obtain ⟨ad, c, olds, rfl, _, o1, o2, o3, o4, o5, o6, o7⟩ := own_src h hx hr hnn
              obtain ⟨hin, u0, hu0, hln, _⟩ := h.rw id' r hr
              have hcell : r.sz = i.size := by rw [← o5, hre]; exact hs2.cells
              rw [hcell, ← hs2.sz, hre] at o7
              obtain ⟨v', w', m1, m2, m3, m4, m5⟩ := run_append_row (P := P) t ty el j2 zv hs.un hs2.inf k2 (by rw [k3, hs2.sz]; simpa using k6) o7 (Nat.zero_le _) yad ys.length yc news hnl n3 n2 (by rw [hs2.by']; exact hby) (by unfold maxLen; omega)
              have hrow : RowAt w' 0 el i.size v' (r.es ++ ys).length (olds ++ news) := by rw [← hs2.sz, List.length_append]; exact m2
              obtain ⟨q1, q2⟩ := h.regrow id' (.slice ad r.es.length c) v' o6 m3 m4 ⟨false, el, i.size, r.es ++ ys⟩ ⟨r, hr, hbx⟩ (by rw [hln]; simp) (fun h0 => m5 (by rw [hln] at h0; simpa using h0))
                (fun ρ' le => ⟨⟨hs2.cells, fun g hg => (m4 g hg).elim (fun h1 => (h.row_lt o6 h1).1) (fun h1 => .inl (Nat.le_trans h.ext.size h1))⟩, fun x hx => (List.mem_append.1 hx).elim (fun hx => by rw [← hcell]; exact o4 x hx) (n4 x), fun hb => (by cases hb), olds ++ news, hrow, (by
                  have := (o1.append n1).le le
                  rwa [← List.flatten_append] at this), fun u hu => (List.mem_append.1 hu).elim (o2 u) (n2 u)⟩)
              refine ⟨by simp [ASt.turn, upd_same], v', w', _, m1, q1, rep_own.2 ⟨(h.us _).2 hin, by simp [upd_same], own_shape hrow, fun u' hu' _ => by simp [upd_same] at hu'; exact hu'⟩⟩
            · cases e
          · cases e
        · rename_i szb esb
          split at e
          · rename_i hc
            cases e
            obtain ⟨hno, hem, hby, hle, hid⟩ := hc
            have hem' : esb = [] := by simpa using hem
            subst hem'
            obtain ⟨ba, bc, rfl, hb1, _⟩ := rep_view.1 hx
            have hbc := hb1 rfl
            simp only [List.length_nil] at hbc
            subst hbc
            obtain ⟨j', zv, zs, k1, k2, k3, k3', k3'', k4, k5, k6⟩ := zero_ok (w := w) (ρ := ρ) (hT _ _ hi2) hno
            rw [hs2.inf] at k1; cases k1
            have hat : RowAt w 0 el j2.size (.slice ba 0 0) 0 [] := .inl ⟨rfl, rfl, _, rfl⟩
            obtain ⟨v', w', m1, m2, m3, m4, _⟩ := run_append_row (P := P) t ty el j2 zv hs.un hs2.inf k2 (by rw [k3, hs2.sz]; simpa using k6) hat (Nat.zero_le _) yad ys.length yc news hnl n3 n2 (by rw [hs2.by', Nat.zero_add]; exact hby) (by unfold maxLen; omega)
            have hbn : ∀ k, blk (.slice ba 0 0) ≠ some k := fun k => by cases ba <;> simp [blk]
            have hg : Grow w w' := m3.mono (fun k hk => absurd hk (hbn k))
            have hrow : RowAt w' 0 el i.size v' ys.length news := by
              rw [← hs2.sz]; simpa using m2
            obtain ⟨q1, q2⟩ := h.new hg id hid ⟨false, el, i.size, ys⟩ v' (fun g hg => (m4 g hg).resolve_left (hbn g)) ⟨⟨hs2.cells, fun g hg => (m4 g hg).resolve_left (hbn g)⟩, n4, fun hb => (by cases hb), news, hrow, n1.le (h.grow hg).2, n2⟩
            refine ⟨by simp [ASt.add, upd_same], v', w', _, m1, q1, rep_own.2 ⟨Or.inr rfl, by simp [Cx.add, upd_same], own_shape hrow, fun u' hu' _ => by simp [Cx.add, upd_same] at hu'; exact hu'⟩⟩
          · cases e
        · cases e
      · cases e
    · cases e
  · cases e
end
end Go.Proofs.Ytgfnmhfdmmnaoaa.Eng
namespace Go.Proofs.Ytgfnmhfdmmnaoaa.Eng
open Go Go.RowKit
mutual
def AV.sub (id n : Nat) (c : AV) : AV → AV
  | .own id' n' => if id' = id ∧ n' = n then c else .own id' n'
  | .agg cs => .agg (AV.subL id n c cs)
  | .tup cs => .tup (AV.subL id n c cs)
  | .fn f cs => .fn f (AV.subL id n c cs)
  | x => x
def AV.subL (id n : Nat) (c : AV) : List AV → List AV
  | [] => []
  | x :: xs => AV.sub id n c x :: AV.subL id n c xs
end
theorem subL_length {id n : Nat} {c : AV} : ∀ {xs : List AV}, (AV.subL id n c xs).length = xs.length
  | [] => by unfold AV.subL; rfl
  | x :: xs => by unfold AV.subL; simp [subL_length (xs := xs)]
theorem subL_nil {id n : Nat} {c : AV} : AV.subL id n c [] = [] := by unfold AV.subL; rfl
theorem subL_cons {id n : Nat} {c x : AV} {xs : List AV} : AV.subL id n c (x :: xs) = AV.sub id n c x :: AV.subL id n c xs := by conv => lhs; unfold AV.subL
theorem subL_append {id n : Nat} {c : AV} : ∀ {xs ys : List AV}, AV.subL id n c (xs ++ ys) = AV.subL id n c xs ++ AV.subL id n c ys
  | [], ys => by rw [subL_nil]; rfl
  | x :: xs, ys => by rw [List.cons_append, subL_cons, subL_cons, subL_append, List.cons_append]
theorem subL_flatten {id n : Nat} {c : AV} : ∀ {es : List (List AV)}, (es.map (AV.subL id n c)).flatten = AV.subL id n c es.flatten
  | [] => by simp; unfold AV.subL; rfl
  | e :: es => by rw [List.map_cons, List.flatten_cons, List.flatten_cons, subL_append, subL_flatten]
section
variable {w : World} {ρ ρ' : Cx} {id n : Nat} {c : AV}
mutual
theorem Rep.sub (hl : Cx.Le w ρ w ρ') (hc : ∀ v, Rep w ρ (.own id n) v → Rep w ρ' c v) : ∀ {x : AV} {v : Value}, Rep w ρ x v → Rep w ρ' (AV.sub id n c x) v
  | .any, _, h => by unfold AV.sub; exact h.le hl
  | .int _ _, _, h => by unfold AV.sub; exact h.le hl
  | .bool _, _, h => by unfold AV.sub; exact h.le hl
  | .str _, _, h => by unfold AV.sub; exact h.le hl
  | .agg cs, _, h => by
    unfold AV.sub
    obtain ⟨vs, h1, h2, h3⟩ := rep_agg.1 h
    exact rep_agg.2 ⟨vs, h1, h2, RepL.sub hl hc h3⟩
  | .tup cs, _, h => by
    unfold AV.sub
    obtain ⟨vs, h1, h3⟩ := rep_tup.1 h
    exact rep_tup.2 ⟨vs, h1, RepL.sub hl hc h3⟩
  | .fn f cs, _, h => by
    unfold AV.sub
    obtain ⟨vs, h1, h3⟩ := rep_fn.1 h
    exact rep_fn.2 ⟨vs, h1, RepL.sub hl hc h3⟩
  | .view _ _ _, _, h => by unfold AV.sub; exact h.le hl
  | .own id' n', _, h => by
    unfold AV.sub
    split
    · rename_i he
      obtain ⟨rfl, rfl⟩ := he
      exact hc _ h
    · exact h.le hl
  | .eptr _ _, _, h => by unfold AV.sub; exact h.le hl
  | .ptr _ _ _ _ _ _, _, h => by unfold AV.sub; exact h.le hl
  | .rdr, _, h => by unfold AV.sub; exact h.le hl
theorem RepL.sub (hl : Cx.Le w ρ w ρ') (hc : ∀ v, Rep w ρ (.own id n) v → Rep w ρ' c v) : ∀ {xs : List AV} {vs : List Value}, RepL w ρ xs vs → RepL w ρ' (AV.subL id n c xs) vs
  | [], _, h => by unfold AV.subL; exact h.le hl
  | x :: xs, _, h => by
    unfold RepL at h
    obtain ⟨v, vs', rfl, h1, h2⟩ := h
    unfold AV.subL RepL
    exact ⟨v, vs', rfl, Rep.sub hl hc h1, RepL.sub hl hc h2⟩
end
end
def Row.sub (id n : Nat) (c : AV) (r : Row) : Row := { r with es := r.es.map (AV.subL id n c) }
def ASt.hold (s : ASt) (id : Nat) : ASt :=
  match s.rows id with
  | some r => { s with tmps := AV.subL id r.es.length (.view .loose r.sz r.es) s.tmps, rows := fun k => ((upd s.rows id none) k).map (Row.sub id r.es.length (.view .loose r.sz r.es)) }
  | none => s
section
variable {P : Program} {w0 : W0} {S0 : Nat → Prop} {rd0 : Option Nat} {k0 : Nat} {w : World} {a : Act} {s : ASt} {ρ : Cx} {T : Tab}
theorem SR.held (h : SR P w0 S0 rd0 k0 w a s ρ) (id : Nat) : ∃ ρ', SR P w0 S0 rd0 k0 w a (s.hold id) ρ' ∧ ∀ r, s.rows id = some r → ∀ x v, Rep w ρ x v → Rep w ρ' (AV.sub id r.es.length (.view .loose r.sz r.es) x) v := by
  unfold ASt.hold
  split
  · rename_i r hr
    obtain ⟨_, u0, hu0, hln, _⟩ := h.rw id r hr
    obtain ⟨ρ', h1, h2, h3⟩ := h.hold id r hr
    refine ⟨ρ', ?_⟩
    have hc : ∀ v, Rep w ρ (.own id r.es.length) v → Rep w ρ' (.view .loose r.sz r.es) v := fun v hv => by
      obtain ⟨_, _, _, hq⟩ := rep_own.1 hv
      have := hq u0 hu0 hln.symm
      subst this
      obtain ⟨⟨ad, c, rfl, k1, k2, k3⟩, k4⟩ := h3 _ hu0
      exact rep_view.2 ⟨ad, c, rfl, (fun h => by cases h), k1, k2, k4, k3.imp (fun h => h) (fun ⟨g, e1, e2, e3⟩ => ⟨g, 0, e1, e2, e3⟩)⟩
    refine ⟨⟨h.tm.sub h2 hc, h1.df, h1.ext, h1.s0, h1.sl, h1.us, fun k r' hk => ?_, fun k hk => ?_, h1.dj, h1.ns, h1.rl, h1.rdk, h1.rdn, h1.r0, h1.ll, h1.kp2 (fun k r' hk => by
      simp only [Option.map_eq_some_iff] at hk
      obtain ⟨r0, hk, rfl⟩ := hk
      exact ⟨r0, hk, rfl⟩), h1.rv, h1.av⟩, fun r' hr' x v hx => by rw [hr] at hr'; cases hr'; exact hx.sub h2 hc⟩
    · simp only [Option.map_eq_some_iff] at hk
      obtain ⟨r0, hk, rfl⟩ := hk
      have hid : k ≠ id := fun e => by subst e; simp [upd_same] at hk
      rw [upd_ne _ _ hid] at hk
      obtain ⟨q1, u, q2, q3, p0, p1, p2, xs, p3, p4, p5⟩ := h.rw k r0 hk
      obtain ⟨q1', u', q2', q3', p0', p1', p2', xs', p3', p4', p5'⟩ := h1.rw k r0 (by simp only [ASt.kill]; rw [upd_ne _ _ hid]; exact hk)
      have hu' : ρ.row k = some u' := by
        have := (h2.U k ((h.us k).2 q1)).2.2 u' q2'
        exact this (by rw [q3', q3])
      rw [q2] at hu'; cases hu'
      refine ⟨q1', u, q2', by simpa [Row.sub] using q3', p0, fun x hx => ?_, fun hb => by simpa [Row.sub] using p2 hb, xs, by simpa [Row.sub] using p3, ?_, p5⟩
      · simp only [Row.sub, List.mem_map] at hx
        obtain ⟨y, hy, rfl⟩ := hx
        rw [subL_length]; exact p1 y hy
      · simp only [Row.sub]
        rw [subL_flatten]
        exact p4.sub h2 hc
    · simp only [Option.map_eq_none_iff] at hk
      exact h1.rn k hk
  · rename_i hn; exact ⟨ρ, h, fun r hr => by rw [hr] at hn; cases hn⟩
end
def aps (s : ASt) (ps : Array (Nat × Operand)) : List (Nat × AV) := ps.toList.map fun p => (p.1, aev s p.2)
def amax : List AV → Option AV
  | [.int k a, .int k' b] => if k = k' then some (.int k (if b > a then b else a)) else none
  | _ => none
def amin : List AV → Option AV
  | [.int k a, .int k' b] => if k = k' then some (.int k (if b < a then b else a)) else none
  | _ => none
def idOf : AV → List Nat
  | .own id _ => [id]
  | .ptr _ _ _ id _ _ => [id]
  | _ => []
def aloadD (T : Tab) (dr : Bool) (md : List Nat) (s : ASt) (t : TypeId) (x : AV) : Option AV :=
  if (dr && md.contains 5000 && (idOf x).any (fun id => md.contains (6000 + id))) = true then none else aload T (dr && !md.contains 3000) s t x
def astoreD (T : Tab) (dr : Bool) (md : List Nat) (t : TypeId) (s : ASt) (p x : AV) : Option ASt :=
  if (dr && md.contains 5000 && !(idOf p).all (fun id => md.contains (6000 + id))) = true then none else astore T t s p x
theorem aloadD_some {T : Tab} {dr : Bool} {md : List Nat} {s : ASt} {t : TypeId} {x c : AV} (h : aloadD T dr md s t x = some c) : aload T (dr && !md.contains 3000) s t x = some c := by
  unfold aloadD at h
  split at h
  · cases h
  · exact h
theorem astoreD_some {T : Tab} {dr : Bool} {md : List Nat} {s s' : ASt} {t : TypeId} {p x : AV} (h : astoreD T dr md t s p x = some s') : astore T t s p x = some s' := by
  unfold astoreD at h
  split at h
  · cases h
  · exact h
def abuildOwn (T : Tab) (t : TypeId) (len : Nat) (ps : List (Nat × AV)) (d : Nat) (s : ASt) : Option (AV × ASt) :=
  match T t with
  | some ⟨_, _, .slice e, _⟩ =>
    match abuildSlice T t len ps with
    | some (.view .tight sz es) => some (.own d es.length, s.add d ⟨false, e, sz, es⟩)
    | _ => none
  | _ => none
def ado (T : Tab) (dr : Bool) (md : List Nat) (o : Oper) (s : ASt) : Option (AV × ASt) :=
  match o.op with
  | .move x | .assign x => some (aev s x, s)
  | .pick c x y => (apick (aev s c) (aev s x) (aev s y)).map (·, s)
  | .load t x => (aloadD T dr md s t (aev s x)).map (·, s)
  | .binOp op t x y _ => (abin T op t (aev s x) (aev s y)).map (·, s)
  | .unOp op _ x => (aun op (aev s x)).map (·, s)
  | .convert t u x => (aconv T t u (aev s x)).map (·, s)
  | .fieldAddr t x f => (afieldAddr T t (aev s x) f).map (·, s)
  | .field t x f => (afield T t (aev s x) f).map (·, s)
  | .indexAddr t x i => (aindexAddr T t (aev s x) (aev s i)).map (·, s)
  | .index t x i => (aindex T t (aev s x) (aev s i)).map (·, s)
  | .extract x i => (aextract (aev s x) i).map (·, s)
  | .nilCheck x => (anil (aev s x)).map (·, s)
  | .slice t x lo hi none => (aslice T t (aev s x) (lo.map (aev s)) (hi.map (aev s))).map (·, s)
  | .build t ps => (abuild T t (aps s ps)).map (·, s)
  | .buildSlice t n ps => (match o.dst with
     | some d => if ((dr || md.contains (2000 + d)) && s.used d) = true then none else if md.contains (2000 + d) = true then abuildOwn T t n (aps s ps) d s else (abuildSlice T t n (aps s ps)).map (·, s)
     | none => none)
  | .box t x => (match o.dst with | some d => abox T t d s (aev s x) | none => none)
  | .alloc t => (match o.dst with | some d => aalloc T t d s | none => none)
  | .store t p x => (astoreD T dr md t s (aev s p) (aev s x)).map (.any, ·)
  | .call { callee := .builtin .len, args := ⟨[x]⟩, argTypes := ⟨[t]⟩ } => (alen T t (aev s x)).map (·, s)
  | .call { callee := .builtin .append, args := ⟨[x, y]⟩, argTypes := ⟨[t, t']⟩ } =>
    if t = t' then
      (match o.dst with
       | some d => (match aappend T t d s (aev s x) (aev s y) with
          | some (id, r, s') => if md.contains d then some (.view .loose r.sz r.es, s'.kill id) else some (.own id r.es.length, s')
          | none => none)
       | none => none)
    else none
  | .call { callee := .builtin .max, args := ⟨[x, y]⟩, argTypes := _ } => (amax [aev s x, aev s y]).map (·, s)
  | .call { callee := .builtin .min, args := ⟨[x, y]⟩, argTypes := _ } => (amin [aev s x, aev s y]).map (·, s)
  | .makeFunc (.func f) ⟨[]⟩ cs => some (.fn f (cs.toList.map (aev s)), s)
  | _ => none
section
variable {P : Program} {w0 : W0} {S0 : Nat → Prop} {rd0 : Option Nat} {k0 : Nat} {w : World} {a : Act} {s : ASt} {ρ : Cx} {T : Tab}
def Leaves (P : Program) (w0 : W0) (S0 : Nat → Prop) (rd0 : Option Nat) (k0 : Nat) (o : Oper) (a : Act) (w : World) (c : AV) (s' : ASt) : Prop :=
  ∃ v w' ρ', ((execOp a.eval o).run P w = .ok (.value v) w' ∨ ((execOp a.eval o).run P w = .ok .skip w' ∧ v = undef)) ∧ SR P w0 S0 rd0 k0 w' a s' ρ' ∧ Rep w' ρ' c v
theorem aps_rep (h : SR P w0 S0 rd0 k0 w a s ρ) : ∀ (l : List (Nat × Operand)), RepP w ρ (l.map fun p => (p.1, aev s p.2)) (l.map fun p => (p.1, a.eval p.2))
  | [] => by unfold RepP; rfl
  | p :: l => by simp only [List.map_cons]; unfold RepP; exact ⟨_, _, rfl, aev_rep h p.2, aps_rep h l⟩
theorem ownSlice_ok (hT : Tab.Ok P T) (h : SR P w0 S0 rd0 k0 w a s ρ) {o : Oper} {t : TypeId} {len sz : Nat} {ps : Array (Nat × Operand)} {es : List (List AV)} {e : TypeId} {by' szt : Nat} {z : List ZK} (ho : o.op = .buildSlice t len ps) (ht : T t = some ⟨szt, by', .slice e, z⟩)
    (hb : abuildSlice T t len (aps s ps) = some (.view .tight sz es)) (id : Nat) (hid : s.used id = false) : Leaves P w0 S0 rd0 k0 o a w (.own id es.length) (s.add id ⟨false, e, sz, es⟩) := by
  have hp := aps_rep h ps.toList
  have hb0 := hb
  unfold abuildSlice at hb
  rw [ht] at hb
  dsimp only at hb
  split at hb
  · rename_i i hi2
    split at hb
    · rename_i hc
      split at hb
      · rename_i es' hes
        cases hb
        obtain ⟨d, j, hs⟩ := TI.says (hT _ _ ht)
        have hd := hs.dd
        cases d <;> simp [TD.fits] at hd
        subst hd
        obtain ⟨j', zv, zs, k1, k2, k3, k3', _, k4, k5, k6⟩ := zero_ok (w := w) (ρ := ρ) (hT _ _ hi2) hc.2.2.2
        obtain ⟨d2, j2, hs2⟩ := TI.says (hT _ _ hi2)
        have hz := hs2.sizeOf w
        obtain ⟨xs, m1, m2, m3, m4, m5⟩ := fill_seq (vs := (madeCells (if len * i.size = 0 then #[] else zv.cells) (len * i.size)).toList) hp hes (by rw [Nat.zero_add, Array.length_toList, size_madeCells]; congr 1; rw [← hc.2.1]; simp [aps])
        rw [Nat.zero_mul, List.take_zero, List.nil_append] at m1
        have hel : es.length = len := by rw [m4]; have := hc.2.1; simpa [aps] using this
        have hxl : xs.length = es.length * i.size := by rw [m2.length, flat_len m5]
        have hrun : (Instr.buildSlice t len (ps.toList.map fun p => (p.1, a.eval p.2)).toArray).run P w = .ok (.slice (some ⟨w.heap.size, 0, none⟩) len len) (w.alloc (.cells xs.toArray e)) := by
          unfold Instr.buildSlice
          simp only [Sem.run_bind, run_underlying' hs.un, Result.andThen_ok, hz]
          have nle : ¬ (len * i.size > 2 ^ 24) := by omega
          simp only [nle, if_false, Sem.run_pure, Result.andThen_ok]
          rw [Array.toArray_toList] at m1
          unfold madeCells at m1
          by_cases h0 : len * i.size = 0
          · rw [if_pos h0] at m1
            simp only [h0, if_true, Sem.run_bind, Sem.run_pure, Result.andThen_ok] at m1 ⊢
            rw [m1]
            rfl
          · rw [if_neg h0] at m1
            simp only [h0, if_false, Sem.run_bind, Sem.run_pure, Result.andThen_ok, zeroValue, typeInfo, run_program, k1, k2]
            rw [m1]
            rfl
        have hat : RowAt (w.alloc (.cells xs.toArray e)) 0 e i.size (.slice (some ⟨w.heap.size, 0, none⟩) len len) es.length xs := by
          rcases Nat.eq_zero_or_pos len with h0 | h0
          · have : xs = [] := List.length_eq_zero_iff.1 (by rw [hxl, hel, h0]; simp)
            exact .inl ⟨by rw [hel, h0], this, some ⟨w.heap.size, 0, none⟩, by rw [h0]⟩
          · exact .inr ⟨w.heap.size, len, xs.toArray, by rw [hel], h0, Nat.zero_le _, heap_alloc_new w _, by rw [hel]; exact Nat.le_refl _, by unfold maxLen; omega, by simp [hxl, hel], by simp only [List.take_of_length_le (Nat.le_of_eq hxl)], hxl⟩
        have hlt : ∀ g, blk (.slice (some ⟨w.heap.size, 0, none⟩) len len) = some g → w.heap.size ≤ g := fun g hg => by
          rcases Nat.eq_zero_or_pos len with h0 | h0
          · rw [h0] at hg; simp [blk] at hg
          · rw [blk_slice _ _ _ h0] at hg; cases hg; exact Nat.le_refl _
        have hg := h.grow (grow_alloc w (.cells xs.toArray e))
        obtain ⟨q1, q2⟩ := h.new (grow_alloc w (.cells xs.toArray e)) id hid ⟨false, e, i.size, es⟩ (.slice (some ⟨w.heap.size, 0, none⟩) len len) hlt ⟨⟨hs2.cells, hlt⟩, m5, (fun hb => by cases hb), xs, hat, m2.le hg.2, m3⟩
        refine ⟨_, _, _, .inl ?_, q1, rep_own.2 ⟨.inr rfl, by simp [Cx.add, upd_same], ⟨some ⟨w.heap.size, 0, none⟩, len, by rw [hel], .inr ⟨_, rfl⟩⟩, fun u hu _ => by simp [Cx.add, upd_same] at hu; exact hu⟩⟩
        unfold execOp
        simp only [ho]
        have e1 : (ps.map fun p => (p.1, a.eval p.2)) = (ps.toList.map fun p => (p.1, a.eval p.2)).toArray := by apply Array.ext'; simp
        simp only [e1, Sem.run_bind, hrun, Sem.run_pure, Result.andThen_ok]
      · cases hb
    · cases hb
  · cases hb
theorem ado_ok (hT : Tab.Ok P T) (h : SR P w0 S0 rd0 k0 w a s ρ) {dr : Bool} {md : List Nat} {o : Oper} {c : AV} {s' : ASt} (e : ado T dr md o s = some (c, s')) : Leaves P w0 S0 rd0 k0 o a w c s' := by
  have pure1 : ∀ {x : Sem Value} {r : Value}, (execOp a.eval o) = (do pure (Next.value (← x))) → x.run P w = .ok r w → Rep w ρ c r → s' = s → Leaves P w0 S0 rd0 k0 o a w c s' := fun {x r} h1 h2 h3 h4 => by
    subst h4
    exact ⟨r, w, ρ, .inl (by rw [h1]; simp [h2]), h, h3⟩
  have ev := fun x => aev_rep h x
  obtain ⟨dst, op, type, pos, after, guard⟩ := o
  unfold ado at e
  split at e
  all_goals (rename_i heq; dsimp only at heq)
  · subst heq; cases e; exact ⟨_, w, ρ, .inl rfl, h, ev _⟩
  · subst heq; cases e; exact ⟨_, w, ρ, .inl rfl, h, ev _⟩
  · subst heq
    simp only [Option.map_eq_some_iff] at e
    obtain ⟨c', e, he⟩ := e; cases he
    obtain ⟨b, hb, hr⟩ := pick_ok (ev _) (ev _) (ev _) e
    refine ⟨_, w, ρ, .inl ?_, h, hr⟩
    unfold execOp
    simp only [hb, asBool, Sem.run_bind, Sem.run_pure, Result.andThen_ok]
  · subst heq
    simp only [Option.map_eq_some_iff] at e
    obtain ⟨c', e, he⟩ := e; cases he
    obtain ⟨r, h1, h2⟩ := load_ok hT h (ev _) (aloadD_some e)
    exact ⟨r, w, ρ, .inl (by unfold execOp; simp only [Sem.run_bind, Sem.run_pure, Result.andThen_ok, h1] at *), h, h2⟩
  · subst heq
    simp only [Option.map_eq_some_iff] at e
    obtain ⟨c', e, he⟩ := e; cases he
    obtain ⟨r, h1, h2⟩ := bin_ok hT (ev _) (ev _) e _ _
    exact ⟨r, w, ρ, .inl (by unfold execOp; dsimp only; rw [Sem.run_bind, h1]; rfl), h, h2⟩
  · subst heq
    simp only [Option.map_eq_some_iff] at e
    obtain ⟨c', e, he⟩ := e; cases he
    obtain ⟨r, h1, h2⟩ := un_ok (P := P) (ev _) e
    exact ⟨r, w, ρ, .inl (by unfold execOp; simp only [Sem.run_bind, Sem.run_pure, Result.andThen_ok, h1] at *), h, h2⟩
  · subst heq
    simp only [Option.map_eq_some_iff] at e
    obtain ⟨c', e, he⟩ := e; cases he
    obtain ⟨r, h1, h2⟩ := conv_ok hT (ev _) e
    exact ⟨r, w, ρ, .inl (by unfold execOp; simp only [Sem.run_bind, Sem.run_pure, Result.andThen_ok, h1] at *), h, h2⟩
  · subst heq
    simp only [Option.map_eq_some_iff] at e
    obtain ⟨c', e, he⟩ := e; cases he
    obtain ⟨r, h1, h2⟩ := fieldAddr_ok hT (ev _) e
    exact ⟨r, w, ρ, .inl (by unfold execOp; simp only [Sem.run_bind, Sem.run_pure, Result.andThen_ok, h1] at *), h, h2⟩
  · subst heq
    simp only [Option.map_eq_some_iff] at e
    obtain ⟨c', e, he⟩ := e; cases he
    obtain ⟨r, h1, h2⟩ := field_ok hT (ev _) e
    exact ⟨r, w, ρ, .inl (by unfold execOp; simp only [Sem.run_bind, Sem.run_pure, Result.andThen_ok, h1] at *), h, h2⟩
  · subst heq
    simp only [Option.map_eq_some_iff] at e
    obtain ⟨c', e, he⟩ := e; cases he
    obtain ⟨r, h1, h2⟩ := indexAddr_ok hT (ev _) (ev _) e
    exact ⟨r, w, ρ, .inl (by unfold execOp; simp only [Sem.run_bind, Sem.run_pure, Result.andThen_ok, h1] at *), h, h2⟩
  · subst heq
    simp only [Option.map_eq_some_iff] at e
    obtain ⟨c', e, he⟩ := e; cases he
    obtain ⟨r, h1, h2⟩ := index_ok hT (ev _) (ev _) e
    exact ⟨r, w, ρ, .inl (by unfold execOp; simp only [Sem.run_bind, Sem.run_pure, Result.andThen_ok, h1] at *), h, h2⟩
  · subst heq
    simp only [Option.map_eq_some_iff] at e
    obtain ⟨c', e, he⟩ := e; cases he
    obtain ⟨r, h1, h2⟩ := extract_ok (P := P) (ev _) e
    exact ⟨r, w, ρ, .inl (by unfold execOp; simp only [Sem.run_bind, Sem.run_pure, Result.andThen_ok, h1] at *), h, h2⟩
  · subst heq
    simp only [Option.map_eq_some_iff] at e
    obtain ⟨c', e, he⟩ := e; cases he
    rename_i x
    have hx := ev x
    generalize hv : a.eval x = v at hx
    refine ⟨v, w, ρ, .inl ?_, h, ?_⟩
    · unfold execOp
      dsimp only
      rw [hv]
      unfold anil at e
      split at e
      · rename_i hq; rw [hq] at hx; obtain ⟨b, o, rfl, _⟩ := rep_eptr.1 hx; rfl
      · rename_i hq; rw [hq] at hx; obtain ⟨_, _, ⟨b, rfl⟩, _⟩ := rep_ptr.1 hx; rfl
      · rename_i hq; rw [hq] at hx; obtain ⟨b, _, rfl⟩ := rep_rdr.1 hx; rfl
      · cases e
    · unfold anil at e
      split at e
      · rename_i hq; cases e; rwa [hq] at hx
      · rename_i hq; cases e; rwa [hq] at hx
      · rename_i hq; cases e; rwa [hq] at hx
      · cases e
  · subst heq
    simp only [Option.map_eq_some_iff] at e
    obtain ⟨c', e, he⟩ := e; cases he
    rename_i t x lo hi
    obtain ⟨r, h1, h2⟩ := slice_ok (P := P) (w := w) (ρ := ρ) (vl := lo.map a.eval) (vh := hi.map a.eval) hT (ev x) (by cases lo <;> simp [ev]) (by cases hi <;> simp [ev]) e
    exact ⟨r, w, ρ, .inl (by unfold execOp; simp only [Option.map_none, Sem.run_bind, Sem.run_pure, Result.andThen_ok, h1]), h, h2⟩
  · subst heq
    simp only [Option.map_eq_some_iff] at e
    obtain ⟨c', e, he⟩ := e; cases he
    rename_i t ps
    obtain ⟨r, h1, h2⟩ := build_ok hT (aps_rep h ps.toList) e
    refine ⟨r, w, ρ, .inl ?_, h, h2⟩
    have q : (ps.map fun (p : Nat × Operand) => (p.1, a.eval p.2)) = (ps.toList.map fun p => (p.1, a.eval p.2)).toArray := by apply Array.ext'; simp
    unfold execOp
    dsimp only
    rw [q, Sem.run_bind, h1]; rfl
  · rename_i t n ps
    subst heq
    split at e
    rotate_left
    · cases e
    rename_i d hd
    split at e
    · cases e
    rename_i hu
    split at e
    · rename_i hmd
      have hid : s.used d = false := by
        cases hs : s.used d with
        | false => rfl
        | true => exact absurd (by rw [hmd, hs]; simp) hu
      unfold abuildOwn at e
      split at e
      · rename_i szt by' el z ht
        split at e
        · rename_i sz es hb
          cases e
          exact ownSlice_ok hT h rfl ht hb d hid
        · cases e
      · cases e
    simp only [Option.map_eq_some_iff] at e
    obtain ⟨c', e, he⟩ := e; cases he
    obtain ⟨r, w', ρ', h1, h2, h3⟩ := buildSlice_ok hT h (aps_rep h ps.toList) e
    refine ⟨r, w', ρ', .inl ?_, h2, h3⟩
    have q : (ps.map fun (p : Nat × Operand) => (p.1, a.eval p.2)) = (ps.toList.map fun p => (p.1, a.eval p.2)).toArray := by apply Array.ext'; simp
    unfold execOp
    dsimp only
    rw [q, Sem.run_bind, h1]; rfl
  · subst heq
    split at e
    · rename_i d hd
      obtain ⟨r, w', ρ', h1, h2, h3⟩ := box_ok hT h (ev _) e
      exact ⟨r, w', ρ', .inl (by unfold execOp; simp only [Sem.run_bind, Sem.run_pure, Result.andThen_ok, h1]), h2, h3⟩
    · cases e
  · subst heq
    split at e
    · rename_i d hd
      obtain ⟨r, w', ρ', h1, h2, h3⟩ := alloc_ok hT h e
      exact ⟨r, w', ρ', .inl (by unfold execOp; simp only [Sem.run_bind, Sem.run_pure, Result.andThen_ok, h1]), h2, h3⟩
    · cases e
  · subst heq
    simp only [Option.map_eq_some_iff] at e
    obtain ⟨s1, e, he⟩ := e; cases he
    obtain ⟨w', h1, h2⟩ := store_ok hT h (ev _) (ev _) (astoreD_some e)
    exact ⟨undef, w', ρ, .inr ⟨by unfold execOp; simp only [Sem.run_bind, Sem.run_pure, Result.andThen_ok, h1], rfl⟩, h2, rep_any _⟩
  · subst heq
    simp only [Option.map_eq_some_iff] at e
    obtain ⟨c', e, he⟩ := e; cases he
    obtain ⟨r, h1, h2⟩ := len_ok (ty := type) hT (ev _) e
    refine ⟨r, w, ρ, .inl ?_, h, h2⟩
    unfold execOp
    simp only [resolve, invoke, builtin, Sem.run_bind, Sem.run_pure, Result.andThen_ok, List.map_toArray, List.map_cons, List.map_nil, h1]
  · rename_i x y t t'
    subst heq
    split at e
    · rename_i htt; subst htt
      split at e
      · rename_i d hd
        split at e
        · rename_i id r s1 hap
          obtain ⟨hr, v, w', ρ', h1, h2, h3⟩ := append_ok (ty := type) hT h (ev _) (ev _) hap
          have hrun : ((execOp a.eval ⟨dst, .call { callee := .builtin .append, args := ⟨[x, y]⟩, argTypes := ⟨[t, t]⟩ }, type, pos, after, guard⟩).run P w) = .ok (.value v) w' := by
            unfold execOp
            simp only [resolve, invoke, builtin, Sem.run_bind, Sem.run_pure, Result.andThen_ok, List.map_toArray, List.map_cons, List.map_nil, h1]
          split at e
          · cases e
            obtain ⟨_, u0, hu0, hln, _⟩ := h2.rw id r hr
            obtain ⟨ρ2, k1, k2, k3⟩ := h2.hold id r hr
            obtain ⟨_, _, _, hq⟩ := rep_own.1 h3
            have := hq u0 hu0 hln.symm
            subst this
            obtain ⟨⟨ad, cc, rfl, q1, q2, q3⟩, q4⟩ := k3 _ hu0
            exact ⟨_, w', ρ2, .inl hrun, k1, rep_view.2 ⟨ad, cc, rfl, (fun h => by cases h), q1, q2, q4, q3.imp (fun h => h) (fun ⟨g, e1, e2, e3⟩ => ⟨g, 0, e1, e2, e3⟩)⟩⟩
          · cases e
            exact ⟨v, w', ρ', .inl hrun, h2, h3⟩
        · cases e
      · cases e
    · cases e
  · subst heq
    simp only [Option.map_eq_some_iff] at e
    obtain ⟨c', e, he⟩ := e; cases he
    rename_i x y _
    have hx := ev x
    have hy := ev y
    unfold amax at e
    split at e
    · rename_i hq
      simp only [List.cons.injEq, and_true] at hq
      rw [hq.1] at hx; rw [hq.2] at hy
      rw [rep_int] at hx hy
      split at e
      · rename_i hk; subst hk; cases e
        refine ⟨_, w, ρ, .inl ?_, h, rep_int.2 rfl⟩
        unfold execOp
        simp [resolve, invoke, builtin, hx, hy, Builtin.max_, Builtin.max2, List.foldlM]
      · cases e
    · cases e
  · subst heq
    simp only [Option.map_eq_some_iff] at e
    obtain ⟨c', e, he⟩ := e; cases he
    rename_i x y _
    have hx := ev x
    have hy := ev y
    unfold amin at e
    split at e
    · rename_i hq
      simp only [List.cons.injEq, and_true] at hq
      rw [hq.1] at hx; rw [hq.2] at hy
      rw [rep_int] at hx hy
      split at e
      · rename_i hk; subst hk; cases e
        refine ⟨_, w, ρ, .inl ?_, h, rep_int.2 rfl⟩
        unfold execOp
        simp [resolve, invoke, builtin, hx, hy, Builtin.min_, Builtin.min2, List.foldlM]
      · cases e
    · cases e
  · subst heq
    cases e
    rename_i f cs
    refine ⟨.func (.func f) #[] (cs.toList.map a.eval).toArray, w, ρ, .inl ?_, h, rep_fn.2 ⟨_, rfl, RepL.of_get (by simp) (fun i c v h1 h2 => ?_)⟩⟩
    · have q : cs.map a.eval = (cs.toList.map a.eval).toArray := by apply Array.ext'; simp
      unfold execOp
      simp [Instr.makeFunc]
      exact q
    · rw [List.getElem?_map] at h1 h2
      cases hx : cs.toList[i]? with
      | none => rw [hx] at h1; cases h1
      | some x => rw [hx] at h1 h2; cases h1; cases h2; exact ev x
  · cases e
end
end Go.Proofs.Ytgfnmhfdmmnaoaa.Eng
