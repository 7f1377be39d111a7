/-
  Texts of this claim, joined.
-/
import Derived.BigQuiet
import Derived.Laws.AppendOwn
import Derived.Laws.AppendOwnNone
import Derived.Laws.OwnMore
import Derived.Lib.Bytealg
import Derived.Test.YtfjaobfaepjfnaaDoorMaE

set_option linter.unusedSimpArgs false
set_option linter.unusedVariables false
set_option linter.unnecessarySimpa false
set_option maxRecDepth 100000
set_option maxHeartbeats 16000000
namespace Go.Proofs.YtfjaobfaepjfnaaDoor
open Go Go.RowKit
def CellsAt (w : World) (b o : Nat) (cs : List Value) : Prop := ∀ i v, cs[i]? = some v → w.cell? ⟨b, o + i, none⟩ = some v
theorem CellsAt.ext {X : Nat → Prop} {w w' : World} (h : Ext X w w') {b o : Nat} (hb : ¬ X b) {cs : List Value} (hc : CellsAt w b o cs) : CellsAt w' b o cs :=
  fun i v hi => h.some (hc i v hi) hb
theorem CellsAt.keep {w w' : World} {b o : Nat} {cs : List Value} (hc : CellsAt w b o cs) (h : ∀ o', o ≤ o' → o' < o + cs.length → w'.cell? ⟨b, o', none⟩ = w.cell? ⟨b, o', none⟩) : CellsAt w' b o cs :=
  fun i v hi => by
    have := (List.getElem?_eq_some_iff.1 hi).1
    rw [h _ (by omega) (by omega)]; exact hc i v hi
structure Rep (α : Type) where
  n : Nat
  R : World → (Nat → Prop) → α → List Value → Prop
  F : World → α → List Value → List Nat → Prop
  rlen : ∀ {w S x cs}, R w S x cs → cs.length = n
  flen : ∀ {w x cs fp}, F w x cs fp → cs.length = n
  ext : ∀ {X S : Nat → Prop} {w w' x cs}, Ext X w w' → (∀ k, S k → ¬ X k) → R w S x cs → R w' S x cs
  mono : ∀ {S T : Nat → Prop} {w x cs}, (∀ k, S k → T k) → R w S x cs → R w T x cs
  lt : ∀ {S : Nat → Prop} {w x cs}, R w S x cs → R w (fun k => S k ∧ k < w.heap.size) x cs
  keep : ∀ {w w' x cs fp}, F w x cs fp → (∀ b ∈ fp, ∀ o, w'.cell? ⟨b, o, none⟩ = w.cell? ⟨b, o, none⟩) → F w' x cs fp
  toR : ∀ {S : Nat → Prop} {w x cs fp}, F w x cs fp → (∀ b ∈ fp, S b) → R w S x cs
theorem Rep.grow {α : Type} (E : Rep α) {S : Nat → Prop} {w w' : World} {x : α} {cs : List Value} (h : E.R w S x cs) (hg : Grow w w') : E.R w' S x cs := E.ext hg (fun _ _ h => h) h
def intRep : Rep Int where
  n := 1
  R := fun _ _ x cs => cs = [.int .i64 x]
  F := fun _ x cs fp => cs = [.int .i64 x] ∧ fp = []
  rlen := fun h => by rw [h]; rfl
  flen := fun h => by rw [h.1]; rfl
  ext := fun _ _ h => h
  mono := fun _ h => h
  lt := fun h => h
  keep := fun h _ => h
  toR := fun h _ => h.1
def pairRep {α β : Type} (A : Rep α) (B : Rep β) : Rep (α × β) where
  n := A.n + B.n
  R := fun w S x cs => ∃ c d, cs = c ++ d ∧ A.R w S x.1 c ∧ B.R w S x.2 d
  F := fun w x cs fp => ∃ c d f g, cs = c ++ d ∧ fp = f ++ g ∧ A.F w x.1 c f ∧ B.F w x.2 d g
  rlen := by rintro w S x cs ⟨c, d, rfl, h1, h2⟩; rw [List.length_append, A.rlen h1, B.rlen h2]
  flen := by rintro w x cs fp ⟨c, d, f, g, rfl, rfl, h1, h2⟩; rw [List.length_append, A.flen h1, B.flen h2]
  ext := by rintro X S w w' x cs h hS ⟨c, d, rfl, h1, h2⟩; exact ⟨c, d, rfl, A.ext h hS h1, B.ext h hS h2⟩
  mono := by rintro S T w x cs h ⟨c, d, rfl, h1, h2⟩; exact ⟨c, d, rfl, A.mono h h1, B.mono h h2⟩
  lt := by rintro S w x cs ⟨c, d, rfl, h1, h2⟩; exact ⟨c, d, rfl, A.lt h1, B.lt h2⟩
  keep := by rintro w w' x cs fp ⟨c, d, f, g, rfl, rfl, h1, h2⟩ h; exact ⟨c, d, f, g, rfl, rfl, A.keep h1 (fun b hb => h b (by simp [hb])), B.keep h2 (fun b hb => h b (by simp [hb]))⟩
  toR := by rintro S w x cs fp ⟨c, d, f, g, rfl, rfl, h1, h2⟩ h; exact ⟨c, d, rfl, A.toR h1 (fun b hb => h b (by simp [hb])), B.toR h2 (fun b hb => h b (by simp [hb]))⟩
section slices
variable {α : Type} (E : Rep α)
def SlR (w : World) (S : Nat → Prop) (a : Option Addr) (c : Nat) (l : List α) : Prop :=
  l.length ≤ c ∧ l.length ≤ big ∧ (l = [] ∨ ∃ b o, a = some ⟨b, o, none⟩ ∧ S b ∧ ∀ i (h : i < l.length), ∃ cs, CellsAt w b (o + i * E.n) cs ∧ E.R w S l[i] cs)
def RowF (w : World) (b : Nat) : Nat → List α → List Nat → Prop
  | _, [], fp => fp = []
  | o, x :: l, fp => ∃ f1 f2 cs, fp = f1 ++ f2 ∧ CellsAt w b o cs ∧ E.F w x cs f1 ∧ RowF w b (o + E.n) l f2
def SlF (w : World) (a : Option Addr) (c : Nat) (l : List α) (fp : List Nat) : Prop :=
  l.length ≤ c ∧ l.length ≤ big ∧ ((l = [] ∧ fp = []) ∨ ∃ b o f, l ≠ [] ∧ a = some ⟨b, o, none⟩ ∧ fp = b :: f ∧ RowF E w b o l f)
variable {E}
theorem RowF.keep {w w' : World} {b : Nat} : ∀ {l : List α} {o : Nat} {fp : List Nat}, RowF E w b o l fp → (∀ x ∈ fp, ∀ o', w'.cell? ⟨x, o', none⟩ = w.cell? ⟨x, o', none⟩) →
    (∀ o', o ≤ o' → o' < o + l.length * E.n → w'.cell? ⟨b, o', none⟩ = w.cell? ⟨b, o', none⟩) → RowF E w' b o l fp
  | [], _, _, hk, _, _ => hk
  | x :: l, o, fp, hk, h, hb => by
    obtain ⟨f1, f2, cs, rfl, hc, hx, hr⟩ := hk
    have hl := E.flen hx
    have e : (x :: l).length * E.n = l.length * E.n + E.n := by simp [Nat.succ_mul]
    rw [e] at hb
    exact ⟨f1, f2, cs, rfl, hc.keep (fun o' h1 h2 => hb o' h1 (by omega)), E.keep hx (fun b hb => h b (by simp [hb])), RowF.keep hr (fun b hb => h b (by simp [hb])) (fun o' h1 h2 => hb o' (by omega) (by omega))⟩
theorem RowF.toR {S : Nat → Prop} {w : World} {b : Nat} : ∀ {l : List α} {o : Nat} {fp : List Nat}, RowF E w b o l fp → (∀ x ∈ fp, S x) → ∀ i (h : i < l.length), ∃ cs, CellsAt w b (o + i * E.n) cs ∧ E.R w S l[i] cs
  | [], _, _, _, _, i, h => absurd h (by simp)
  | x :: l, o, fp, hk, h, 0, _ => by
    obtain ⟨f1, f2, cs, rfl, hc, hx, _⟩ := hk
    exact ⟨cs, by simpa using hc, E.toR hx (fun b hb => h b (by simp [hb]))⟩
  | x :: l, o, fp, hk, h, i + 1, hi => by
    obtain ⟨f1, f2, cs, rfl, _, _, hr⟩ := hk
    have := RowF.toR hr (fun b hb => h b (by simp [hb])) i (by simpa using hi)
    rw [show o + (i + 1) * E.n = o + E.n + i * E.n by rw [Nat.succ_mul]; omega]
    simpa using this
theorem SlF.keep {w w' : World} {a : Option Addr} {c : Nat} {l : List α} {fp : List Nat} (hs : SlF E w a c l fp)
    (h : ∀ b ∈ fp, ∀ o, w'.cell? ⟨b, o, none⟩ = w.cell? ⟨b, o, none⟩) : SlF E w' a c l fp := by
  obtain ⟨h1, h2, h4⟩ := hs
  refine ⟨h1, h2, h4.imp id ?_⟩
  rintro ⟨b, o, f, hne, rfl, rfl, hc⟩
  exact ⟨b, o, f, hne, rfl, rfl, hc.keep (fun x hx => h x (by simp [hx])) (fun o' _ _ => h b (by simp) o')⟩
theorem SlF.toR {S : Nat → Prop} {w : World} {a : Option Addr} {c : Nat} {l : List α} {fp : List Nat} (hs : SlF E w a c l fp) (hS : ∀ b ∈ fp, S b) : SlR E w S a c l := by
  obtain ⟨h1, h2, h4⟩ := hs
  refine ⟨h1, h2, h4.imp (fun h => h.1) ?_⟩
  rintro ⟨b, o, f, _, rfl, rfl, hc⟩
  exact ⟨b, o, rfl, hS b (by simp), hc.toR (fun x hx => hS x (by simp [hx]))⟩
theorem SlR.ext {X S : Nat → Prop} {w w' : World} (h : Ext X w w') (hS : ∀ k, S k → ¬ X k) {a : Option Addr} {c : Nat} {l : List α} (hs : SlR E w S a c l) : SlR E w' S a c l := by
  obtain ⟨h1, h2, h4⟩ := hs
  refine ⟨h1, h2, h4.imp id ?_⟩
  rintro ⟨b, o, rfl, hb, hc⟩
  exact ⟨b, o, rfl, hb, fun i hi => by obtain ⟨cs, h1, h2⟩ := hc i hi; exact ⟨cs, h1.ext h (hS b hb), E.ext h hS h2⟩⟩
theorem SlR.grow {S : Nat → Prop} {w w' : World} {a : Option Addr} {c : Nat} {l : List α} (hs : SlR E w S a c l) (h : Grow w w') : SlR E w' S a c l := hs.ext h (fun _ _ h => h)
theorem SlR.mono {S T : Nat → Prop} {w : World} (h : ∀ k, S k → T k) {a : Option Addr} {c : Nat} {l : List α} (hs : SlR E w S a c l) : SlR E w T a c l := by
  obtain ⟨h1, h2, h4⟩ := hs
  refine ⟨h1, h2, h4.imp id ?_⟩
  rintro ⟨b, o, rfl, hb, hc⟩
  exact ⟨b, o, rfl, h b hb, fun i hi => by obtain ⟨cs, h1, h2⟩ := hc i hi; exact ⟨cs, h1, E.mono h h2⟩⟩
theorem CellsAt.lt {w : World} {b o : Nat} {cs : List Value} (hc : CellsAt w b o cs) (h : cs ≠ []) : b < w.heap.size := by
  cases cs with
  | nil => exact absurd rfl h
  | cons v vs => exact lt_of_cell (hc 0 v rfl)
theorem RowF.snoc {w : World} {b : Nat} {x : α} {cs : List Value} {f' : List Nat} : ∀ {l : List α} {o : Nat} {fp : List Nat}, RowF E w b o l fp → CellsAt w b (o + l.length * E.n) cs → E.F w x cs f' → RowF E w b o (l ++ [x]) (fp ++ f')
  | [], o, fp, hk, hc, hx => by
    cases hk
    exact ⟨f', [], cs, by simp, by simpa using hc, hx, rfl⟩
  | y :: l, o, fp, hk, hc, hx => by
    obtain ⟨f1, f2, cs', rfl, h1, h2, hr⟩ := hk
    have e : o + (y :: l).length * E.n = o + E.n + l.length * E.n := by simp [Nat.succ_mul]; omega
    rw [e] at hc
    exact ⟨f1, f2 ++ f', cs', by simp, h1, h2, RowF.snoc hr hc hx⟩
theorem RowF.lay {w : World} {b n : Nat} {l : List α} {x : α} {cs : List Value} {fp f' : List Nat} (hr : RowIn w b n) (hk : RowF E w b 0 l fp) (hn : E.F w x cs f') (hlen : (l.length + 1) * E.n ≤ n) (h1 : b ∉ fp) (h2 : b ∉ f') :
    RowF E (storeL w b (l.length * E.n) cs) b 0 (l ++ [x]) (fp ++ f') := by
  have hcl := E.flen hn
  rw [Nat.succ_mul] at hlen
  have hl : l.length * E.n + cs.length ≤ n := by omega
  have other := fun x hx o => storeL_elsewhere b cs w (l.length * E.n) x o hx
  refine RowF.snoc (hk.keep (fun x hx o => other x (fun e => h1 (e ▸ hx)) o) (fun o' _ ho => storeL_below hr hl o' (by omega))) ?_ (E.keep hn (fun x hx o => other x (fun e => h2 (e ▸ hx)) o))
  intro i v hi
  rw [Nat.zero_add]
  exact storeL_at hr hl i v hi
end slices
end Go.Proofs.YtfjaobfaepjfnaaDoor
namespace Go.Proofs.YtfjaobfaepjfnaaDoor
open Go.RowKit
end Go.Proofs.YtfjaobfaepjfnaaDoor
namespace Go.Proofs.YtfjaobfaepjfnaaDoor
open Go.RowKit
def inl (fp : List Nat) (k : Nat) : Prop := k ∈ fp
theorem Free.sub {B : Nat} {w w' : World} {fp fx : List Nat} (h : Free B w fp) (he : Ext (inl fx) w w') (hx : ∀ b ∈ fx, ∀ o, w'.frozen? ⟨b, o, none⟩ = false) : Free B w' fp := by
  refine ⟨h.1, fun b hb => ⟨(h.2 b hb).1, Nat.lt_of_lt_of_le (h.2 b hb).2.1 he.size, fun o => ?_⟩⟩
  by_cases hbx : b ∈ fx
  · exact hx b hbx o
  · rw [he.frozen (p := ⟨b, o, none⟩) (h.2 b hb).2.1 hbx]; exact (h.2 b hb).2.2 o
def RowAt (w : World) (b o n : Nat) : Prop := b < w.heap.size ∧ (∀ j, j < n → ∃ u, w.cell? ⟨b, o + j, none⟩ = some u) ∧ ∀ j, w.frozen? ⟨b, j, none⟩ = false
theorem RowAt.ext {X : Nat → Prop} {w w' : World} {b o n : Nat} (h : Ext X w w') (hx : ¬ X b) (hr : RowAt w b o n) : RowAt w' b o n := by
  obtain ⟨h1, h2, h3⟩ := hr
  refine ⟨Nat.lt_of_lt_of_le h1 h.size, fun j hj => ?_, fun j => ?_⟩
  · rw [h.cell (p := ⟨b, o + j, none⟩) h1 hx]; exact h2 j hj
  · rw [h.frozen (p := ⟨b, j, none⟩) h1 hx]; exact h3 j
theorem RowAt.setCell {w : World} {b o n : Nat} (hr : RowAt w b o n) (p : Addr) (v : Value) : RowAt (w.setCell p v) b o n := by
  obtain ⟨h1, h2, h3⟩ := hr
  refine ⟨by rw [size_setCell]; exact h1, fun j hj => cell?_setCell_some (h2 j hj).choose_spec, fun j => ?_⟩
  rw [World.frozen?_setCell]; exact h3 j
end Go.Proofs.YtfjaobfaepjfnaaDoor
namespace Go.Proofs.YtfjaobfaepjfnaaDoor
open Go.RowKit
theorem KidsF.append {w : World} {b : Nat} : ∀ {l m : List Nd} {o : Nat} {f g : List Nat}, KidsF w b o l f → KidsF w b (o + l.length * 5) m g → KidsF w b o (l ++ m) (f ++ g)
  | [], m, o, f, g, h1, h2 => by
    unfold KidsF at h1; subst h1; simpa using h2
  | x :: l, m, o, f, g, h1, h2 => by
    unfold KidsF at h1
    obtain ⟨f1, f2, rfl, hx, hr⟩ := h1
    rw [List.cons_append]; unfold KidsF
    refine ⟨f1, f2 ++ g, by simp, hx, KidsF.append hr ?_⟩
    rw [show o + 5 + l.length * 5 = o + (x :: l).length * 5 by simp; omega]
    exact h2
theorem KidsF.split {w : World} {b : Nat} : ∀ {l m : List Nd} {o : Nat} {fp : List Nat}, KidsF w b o (l ++ m) fp → ∃ f g, fp = f ++ g ∧ KidsF w b o l f ∧ KidsF w b (o + l.length * 5) m g
  | [], m, o, fp, h => ⟨[], fp, rfl, by unfold KidsF; rfl, by simpa using h⟩
  | x :: l, m, o, fp, h => by
    rw [List.cons_append] at h; unfold KidsF at h
    obtain ⟨f1, f2, rfl, hx, hr⟩ := h
    obtain ⟨f, g, rfl, h1, h2⟩ := KidsF.split hr
    rw [show o + 5 + l.length * 5 = o + (x :: l).length * 5 by simp; omega] at h2
    exact ⟨f1 ++ f, g, by simp, by unfold KidsF; exact ⟨f1, f, rfl, hx, h1⟩, h2⟩
theorem set_ne (w : World) (b p b' q : Nat) (v : Value) (h : b' ≠ b ∨ q ≠ p) : (w.setCell ⟨b, p, none⟩ v).cell? ⟨b', q, none⟩ = w.cell? ⟨b', q, none⟩ :=
  World.cell?_setCell_other _ _ _ _ (by intro e; cases e; rcases h with h | h <;> exact h rfl)
end Go.Proofs.YtfjaobfaepjfnaaDoor
namespace Go.Proofs.YtfjaobfaepjfnaaDoor
open Go.RowKit
end Go.Proofs.YtfjaobfaepjfnaaDoor
namespace Go.Proofs.YtfjaobfaepjfnaaDoor
open Go Go.RowKit
section
variable {P : Program} {ops : Array Oper} {Vs : Nat → Option (Value → World → Prop)} {w : World} {Q : Act → World → Prop}
theorem drew_grow {w w' : World} (h : Grow w.drew w') : Grow w w' := ((Ext.refl nil w).drew).trans h
theorem wpStab_made {o : Oper} {rest : List Oper} {k : Nat} {a : Act} {E : Env} (V : Value → World → Prop) (hw : Region.wanted o (yielded ops a.tmps) = true) (hV : Vs k = some V)
    (h : ∀ x : Later w, (∀ e ∈ o.after, Region.binds .any e = true → E e.on (later w x)) → stabAt Grow P o a (later w x) V)
    (h2 : ∀ v, wpStab P ops Grow Vs (fun w' => Grow w.drew w') Q rest (k + 1) (a.put o.dst v) (E.upd k (V v))) :
    wpStab P ops Grow Vs (fun w' => Grow w.drew w') Q (o :: rest) k a E := by
  unfold wpStab
  rw [if_pos hw]
  unfold does
  rw [hV]
  exact ⟨fun w' hc => h ⟨w', drew_grow hc.1⟩ hc.2, fun v w' _ _ _ => h2 v⟩
theorem wpStab_end' {k : Nat} {a : Act} {E : Env} (h : ∀ w', Grow w w' → (∀ j, E j w') → Q a w') : wpStab P ops Grow Vs (fun w' => Grow w.drew w') Q [] k a E :=
  fun w' hc hE => h w' (drew_grow hc) hE
theorem wpStab_const {o : Oper} {rest : List Oper} {k : Nat} {a : Act} {E : Env} (c : Value) (hw : Region.wanted o (yielded ops a.tmps) = true) (hV : Vs k = some (fun v _ => v = c))
    (h : ∀ x : Later w, (∀ e ∈ o.after, Region.binds .any e = true → E e.on (later w x)) → stabAt Grow P o a (later w x) (fun v _ => v = c))
    (h2 : wpStab P ops Grow Vs (fun w' => Grow w.drew w') Q rest (k + 1) (a.put o.dst c) (E.upd k (fun _ => True))) :
    wpStab P ops Grow Vs (fun w' => Grow w.drew w') Q (o :: rest) k a E := by
  unfold wpStab
  rw [if_pos hw]
  unfold does
  rw [hV]
  refine ⟨fun w' hc => h ⟨w', drew_grow hc.1⟩ hc.2, fun v w' _ _ hv => ?_⟩
  subst hv
  have : (fun (u : Value) (_ : World) => u = v) v = (fun _ => True) := by funext _; simp
  rw [this]
  exact h2
theorem wpStab_end {k : Nat} {a : Act} {E : Env} (h : ∀ w', Grow w w' → Q a w') : wpStab P ops Grow Vs (fun w' => Grow w.drew w') Q [] k a E :=
  fun w' hc _ => h w' (drew_grow hc)
theorem stabAt_call {o : Oper} {a : Act} {w : World} {V : Value → World → Prop} {f : FuncId} {args : Array Value} (h : (execOp a.eval o).run P w = .ok (.enter f args) w)
    (hc : Calls P f args w fun e w' => ∃ v, e = .returned v ∧ Grow w w' ∧ V v w') : stabAt Grow P o a w V := by
  unfold stabAt
  rw [h]
  exact ⟨rfl, hc⟩
end
end Go.Proofs.YtfjaobfaepjfnaaDoor
namespace Go.Proofs.YtfjaobfaepjfnaaDoor
open Go Go.RowKit
def easy (o : Oper) : Bool :=
  match o.op with
  | .move _ | .assign _ | .pick _ _ _ | .load _ _ | .fieldAddr _ _ _ | .indexAddr _ _ _ | .index _ _ _ | .field _ _ _ | .extract _ _ | .binOp _ _ _ _ _ | .unOp _ _ _ | .convert _ _ _ | .slice _ _ _ _ _ | .build _ _ => true
  | .call { callee := .builtin .len, args := _, argTypes := _ } => true
  | _ => false
theorem pureVal_run {P : Program} (s : Sem Value) (w w' : World) (f : FuncId) (args : Array Value) : (do pure (Next.value (← s)) : Sem Next).run P w ≠ .ok (.enter f args) w' := by
  intro h
  have : (do pure (Next.value (← s)) : Sem Next).run P w = (s.run P w).andThen fun a w' => .ok (.value a) w' := by
    simp [Result.andThen]
  rw [this] at h
  cases hs : s.run P w with
  | ok a w1 => rw [hs] at h; simp [Result.andThen] at h
  | halt x w1 => rw [hs] at h; simp [Result.andThen] at h
theorem noEnter {P : Program} {o : Oper} (he : easy o = true) (ρ : Operand → Value) (w w' : World) (f : FuncId) (args : Array Value) : (execOp ρ o).run P w ≠ .ok (.enter f args) w' := by
  obtain ⟨dst, op, type, pos, after, guard⟩ := o
  cases op <;> simp only [easy, Bool.false_eq_true] at he
  case move x => intro h; simp [execOp] at h
  case assign x => intro h; simp [execOp] at h
  case pick c a b =>
    intro h
    have : (execOp ρ ⟨dst, .pick c a b, type, pos, after, guard⟩).run P w = ((asBool (ρ c)).run P w).andThen fun q w' => .ok (.value (if q then ρ a else ρ b)) w' := by
      simp [execOp, Result.andThen]
    rw [this] at h
    cases hs : (asBool (ρ c)).run P w with
    | ok a w1 => rw [hs] at h; simp [Result.andThen] at h
    | halt x w1 => rw [hs] at h; simp [Result.andThen] at h
  case load t a => exact pureVal_run _ _ _ _ _
  case fieldAddr => exact pureVal_run _ _ _ _ _
  case indexAddr => exact pureVal_run _ _ _ _ _
  case index => exact pureVal_run _ _ _ _ _
  case field => exact pureVal_run _ _ _ _ _
  case extract => exact pureVal_run _ _ _ _ _
  case binOp => exact pureVal_run _ _ _ _ _
  case unOp => exact pureVal_run _ _ _ _ _
  case convert => exact pureVal_run _ _ _ _ _
  case slice => exact pureVal_run _ _ _ _ _
  case build => exact pureVal_run _ _ _ _ _
  case call c =>
    obtain ⟨callee, args', tys⟩ := c
    cases callee with
    | value x => simp at he
    | invoke r m => simp at he
    | builtin b =>
      cases b <;> simp at he
      intro h
      simp [execOp, resolve, invoke, builtin] at h
      cases hs : (Builtin.len_ tys type (Array.map ρ args')).run P w with
      | ok a w1 => rw [hs] at h; simp [Result.andThen] at h
      | halt x w1 => rw [hs] at h; simp [Result.andThen] at h
section
variable {P : Program} {ops : Array Oper} {Vs : Nat → Option (Value → World → Prop)} {w : World} {Q : Act → World → Prop}
theorem wpStab_quiet {o : Oper} {rest : List Oper} {k : Nat} {a : Act} {E : Env} (he : easy o = true) (hw : Region.wanted o (yielded ops a.tmps) = true) (hV : Vs k = none)
    (h : ∀ K : Act → Prop, (∀ a, wpStab P ops Grow Vs (fun w' => Grow w.drew w') Q rest (k + 1) a E → K a) → o.quiet P a (fun w' => ∃ x, w' = later w x) K) :
    wpStab P ops Grow Vs (fun w' => Grow w.drew w') Q (o :: rest) k a E := by
  unfold wpStab
  rw [if_pos hw]
  unfold does
  rw [hV]
  obtain ⟨v, h1, h2⟩ := h _ (fun _ h => h)
  refine ⟨v, fun w' hc => ?_, h2⟩
  have h3 := h1 w' ⟨⟨w', drew_grow hc.1⟩, rfl⟩
  unfold Oper.quietAt at h3
  unfold valAt
  have hne := noEnter (P := P) he a.eval w'
  generalize (execOp a.eval o).run P w' = r at *
  cases r with
  | ok n w2 =>
    cases n <;> simp only [Oper.quietUpon] at h3 <;> simp only [valUpon]
    case value u => exact ⟨h3.2, by rw [h3.1]; exact Ext.refl _ _⟩
    case skip => exact ⟨h3.2, by rw [h3.1]; exact Ext.refl _ _⟩
    case enter f args => exact absurd rfl (hne w2 f args)
  | halt x w2 => simp only [Oper.quietUpon] at h3
end
end Go.Proofs.YtfjaobfaepjfnaaDoor
namespace Go.Proofs.YtfjaobfaepjfnaaDoor
open Go.RowKit
mutual
def mis : Shp → Nd → Option (List ByteArray)
  | ⟨kind, names, needs, kids⟩, n => if kind = 0 then none else if kind ≠ n.kind then some [] else misL names needs kids n
def misL : List ByteArray → List Bool → List Shp → Nd → Option (List ByteArray)
  | nm :: ns, nd :: bs, k :: ks, n => if mem n.names nm then (match mis k (kidOf n nm) with | some p => some (nm :: p) | none => misL ns bs ks n) else if nd then some [nm] else misL ns bs ks n
  | _, _, _, _ => none
end
theorem mis_eq (x : Shp) (n : Nd) : mis x n = if x.kind = 0 then none else if x.kind ≠ n.kind then some [] else misL x.names x.needs x.kids n := by cases x; simp [mis]
def MisR (w w' : World) (r : Option (List ByteArray)) (v : Value) : Prop :=
  ∃ a c fp, v = .tuple #[.slice a (r.getD []).length c, .bool r.isSome] ∧ StrsF w' a c (r.getD []) fp ∧ Free w.heap.size w' fp ∧ (r.getD [] = [] → a = none ∧ c = 0)
theorem MisR.grow {w w' w'' : World} {r : Option (List ByteArray)} {v : Value} (h : MisR w w' r v) (hg : Grow w' w'') : MisR w w'' r v := by
  obtain ⟨a, c, fp, hv, h1, h2, h3⟩ := h
  exact ⟨a, c, fp, hv, h1.keep (hg.keeps h2 (fun _ _ h => h)), h2.ext hg (fun _ _ h => h), h3⟩
theorem MisR.none (w w' : World) : MisR w w' .none (.tuple #[.slice .none 0 0, .bool false]) :=
  ⟨.none, 0, [], rfl, ⟨Nat.le_refl _, Nat.zero_le _, by simp, .inl ⟨rfl, rfl⟩⟩, Free.nil _ _, fun _ => ⟨rfl, rfl⟩⟩
theorem MisR.nil (w w' : World) : MisR w w' (some []) (.tuple #[.slice .none 0 0, .bool true]) :=
  ⟨.none, 0, [], rfl, ⟨Nat.le_refl _, Nat.zero_le _, by simp, .inl ⟨rfl, rfl⟩⟩, Free.nil _ _, fun _ => ⟨rfl, rfl⟩⟩
theorem strs_of_row {w : World} {B : Nat} {T : TypeId} {v : Value} {n : Nat} {xs : List ByteArray} (h : w.ownsRow B T 1 v n (xs.map Value.string)) (hx : ∀ x ∈ xs, x.size ≤ big) :
    ∃ a c fp, v = .slice a xs.length c ∧ StrsF w a c xs fp ∧ Free B w fp ∧ (xs = [] → fp = []) := by
  obtain ⟨h1, h2⟩ := h
  have hn : n = xs.length := by simp at h1; omega
  subst hn
  rcases h2 with ⟨rfl, h0⟩ | ⟨g, cap, cur, rfl, hb, hg, hle, hcap, hcs, htake⟩
  · have : xs = [] := List.length_eq_zero_iff.1 h0
    subst this
    exact ⟨none, 0, [], rfl, ⟨Nat.le_refl _, Nat.zero_le _, by simp, .inl ⟨rfl, rfl⟩⟩, Free.nil _ _, fun _ => rfl⟩
  · have hlen : xs.length ≤ big := by unfold maxLen at hcap; unfold big; omega
    by_cases he : xs = []
    · subst he
      exact ⟨_, _, [], rfl, ⟨Nat.zero_le _, Nat.zero_le _, by simp, .inl ⟨rfl, rfl⟩⟩, Free.nil _ _, fun _ => rfl⟩
    · refine ⟨_, _, [g], rfl, ⟨hle, hlen, hx, .inr ⟨g, 0, he, rfl, rfl, fun i hi => ?_⟩⟩, ⟨by simp, fun b hb' => ?_⟩, fun h => absurd h he⟩
      · unfold World.cell?
        simp only [hg, Nat.zero_add]
        have : cur.toList[i]? = some (Value.string xs[i]) := by
          have h3 : (cur.toList.take (xs.length * 1))[i]? = some (Value.string xs[i]) := by rw [htake]; simp [hi]
          rw [List.getElem?_take] at h3
          rw [if_pos (by omega)] at h3
          exact h3
        rw [Array.getElem?_toList] at this
        simpa [World.frozen?] using this
      · simp at hb'
        subst hb'
        refine ⟨hb, (Array.getElem?_eq_some_iff.1 hg).1, fun o => ?_⟩
        unfold World.frozen?
        simp [hg]
theorem MisR.one (W w : World) (x : ByteArray) (T : TypeId) (b : Nat) (hb : b = w.heap.size) (h : W.heap.size ≤ w.heap.size) (hx : x.size ≤ big) :
    MisR W (w.alloc (.cells #[.string x] T)) (some [x]) (.tuple #[.slice (some ⟨b, 0, Option.none⟩) 1 1, .bool true]) := by
  subst hb
  refine ⟨_, _, [w.heap.size], rfl, ⟨Nat.le_refl _, by simp [big], by simpa using hx, .inr ⟨_, 0, by simp, rfl, rfl, fun i hi => ?_⟩⟩, ⟨by simp, fun b hb => ?_⟩, fun h => by simp at h⟩
  · simp at hi
    subst hi
    rw [World.cell?_alloc_new]; rfl
  · simp at hb
    subst hb
    exact ⟨h, by simp, fun o => World.frozen?_alloc_new w _ T o⟩
theorem addr_add (b o j : Nat) : (⟨b, o, Option.none⟩ : Addr).add j = ⟨b, o + j, Option.none⟩ := by unfold Addr.add; split <;> simp_all
theorem MisR.row {w w' : World} {T : TypeId} {v : Value} {n : Nat} {x : ByteArray} {p : List ByteArray} (h : w'.ownsRow w.heap.size T 1 v n ((x :: p).map Value.string)) (hx : ∀ y ∈ x :: p, y.size ≤ big) :
    MisR w w' (some (x :: p)) (.tuple #[v, .bool true]) := by
  obtain ⟨a, c, fp, hv, h1, h2, _⟩ := strs_of_row h hx
  exact ⟨a, c, fp, by rw [hv]; rfl, h1, h2, fun h => by simp at h⟩
theorem MisR.base {w0 w w' : World} {r : Option (List ByteArray)} {v : Value} (h : MisR w w' r v) (hs : w0.heap.size ≤ w.heap.size) : MisR w0 w' r v := by
  obtain ⟨a, c, fp, hv, h1, h2, h3⟩ := h
  exact ⟨a, c, fp, hv, h1, h2.mono hs, h3⟩
theorem misL_len (n : Nd) (d : Nat) : ∀ (ks : List Shp), (∀ k ∈ ks, ∀ m p, mis k m = some p → p.length ≤ d) → ∀ ns bs p, misL ns bs ks n = some p → p.length ≤ d + 1
  | [], _, ns, bs, p, h => by cases ns <;> cases bs <;> simp [misL] at h
  | k :: ks, hk, [], bs, p, h => by simp [misL] at h
  | k :: ks, hk, nm :: ns, [], p, h => by simp [misL] at h
  | k :: ks, hk, nm :: ns, nd :: bs, p, h => by
    rw [misL] at h
    by_cases hm : mem n.names nm = true
    · rw [if_pos hm] at h
      cases hx : mis k (kidOf n nm) with
      | none => rw [hx] at h; exact misL_len n d ks (fun k' hk' => hk k' (by simp [hk'])) ns bs p h
      | some q =>
        rw [hx] at h
        simp at h
        subst h
        have := hk k (by simp) _ _ hx
        simp; omega
    · rw [if_neg hm] at h
      by_cases hn : nd = true
      · rw [if_pos hn] at h; simp at h; subst h; simp
      · rw [if_neg hn] at h
        exact misL_len n d ks (fun k' hk' => hk k' (by simp [hk'])) ns bs p h
theorem mis_len : ∀ (d : Nat) (x : Shp) (n : Nd) (p : List ByteArray), shpB x d = true → mis x n = some p → p.length ≤ d
  | 0, x, n, p, h, _ => by rw [shpB_eq] at h; simp at h
  | d + 1, x, n, p, h, hp => by
    rw [shpB_eq, shpL_all] at h
    simp only [Bool.and_eq_true, List.all_eq_true, Nat.add_sub_cancel] at h
    rw [mis_eq] at hp
    by_cases h0 : x.kind = 0
    · simp [h0] at hp
    · rw [if_neg h0] at hp
      by_cases h1 : x.kind ≠ n.kind
      · rw [if_pos h1] at hp; simp at hp; subst hp; simp
      · rw [if_neg h1] at hp
        exact misL_len n d x.kids (fun k hk m q hq => mis_len d k m q (h.2 k hk) hq) _ _ _ hp
theorem GoodS.len {x : Shp} (h : GoodS x) {n : Nd} {p : List ByteArray} (hp : mis x n = some p) : p.length ≤ 5 := by
  obtain ⟨d, hd, h⟩ := h
  exact Nat.le_trans (mis_len d x n p h hp) hd
end Go.Proofs.YtfjaobfaepjfnaaDoor
namespace Go.Proofs.YtfjaobfaepjfnaaDoor
open Go Go.RowKit
def NCells (w : World) (S : Nat → Prop) : List Nd → List Value → Prop
  | [], cs => cs = []
  | n :: l, cs => ∃ na nc ka kc cs', cs = nodeL n na nc ka kc ++ cs' ∧ NodeC w S n na nc ka kc ∧ NCells w S l cs'
theorem NCells.len {w : World} {S : Nat → Prop} : ∀ {l : List Nd} {cs : List Value}, NCells w S l cs → cs.length = l.length * 5
  | [], cs, h => by cases h; rfl
  | n :: l, cs, h => by
    obtain ⟨na, nc, ka, kc, cs', rfl, _, h⟩ := h
    rw [List.length_append, NCells.len h]; simp [nodeL, Nat.succ_mul]; omega
theorem NCells.append {w : World} {S : Nat → Prop} : ∀ {l m : List Nd} {cs ds : List Value}, NCells w S l cs → NCells w S m ds → NCells w S (l ++ m) (cs ++ ds)
  | [], m, cs, ds, h, k => by cases h; exact k
  | n :: l, m, cs, ds, h, k => by
    obtain ⟨na, nc, ka, kc, cs', rfl, hn, h⟩ := h
    exact ⟨na, nc, ka, kc, cs' ++ ds, by simp, hn, NCells.append h k⟩
theorem NCells.ext {X S : Nat → Prop} {w w' : World} (he : Ext X w w') (hS : ∀ k, S k → ¬ X k) : ∀ {l : List Nd} {cs : List Value}, NCells w S l cs → NCells w' S l cs
  | [], cs, h => h
  | n :: l, cs, h => by
    obtain ⟨na, nc, ka, kc, cs', rfl, hn, h⟩ := h
    exact ⟨na, nc, ka, kc, cs', rfl, hn.ext he hS, NCells.ext he hS h⟩
theorem NCells.mono {S T : Nat → Prop} {w : World} (hS : ∀ k, S k → T k) : ∀ {l : List Nd} {cs : List Value}, NCells w S l cs → NCells w T l cs
  | [], cs, h => h
  | n :: l, cs, h => by
    obtain ⟨na, nc, ka, kc, cs', rfl, hn, h⟩ := h
    exact ⟨na, nc, ka, kc, cs', rfl, hn.mono hS, NCells.mono hS h⟩
theorem NCells.one {w : World} {S : Nat → Prop} {n : Nd} {na : Option Addr} {nc : Nat} {ka : Option Addr} {kc : Nat} (h : NodeC w S n na nc ka kc) : NCells w S [n] (nodeL n na nc ka kc) :=
  ⟨na, nc, ka, kc, [], by simp, h, rfl⟩
theorem NCells.kids {w : World} {S : Nat → Prop} {b : Nat} : ∀ {l : List Nd} {cs : List Value} {o : Nat}, NCells w S l cs → (∀ i v, cs[i]? = some v → w.cell? ⟨b, o + i, none⟩ = some v) → KidsR w S b o l
  | [], _, _, _, _ => by unfold KidsR; trivial
  | n :: l, cs, o, h, hc => by
    obtain ⟨na, nc, ka, kc, cs', rfl, hn, h⟩ := h
    unfold KidsR
    refine ⟨⟨na, nc, ka, kc, hc 0 _ rfl, hc 1 _ rfl, hc 2 _ rfl, hc 3 _ rfl, hc 4 _ rfl, hn⟩, NCells.kids h (fun i v hi => ?_)⟩
    have := hc (5 + i) v (by rw [List.getElem?_append_right (by simp [nodeL])]; simpa [nodeL] using hi)
    rw [show o + (5 + i) = o + 5 + i by omega] at this
    exact this
theorem KidsR.cells {w : World} {S : Nat → Prop} {b : Nat} : ∀ {l : List Nd} {o : Nat}, KidsR w S b o l → ∃ cs, NCells w S l cs ∧ ∀ i v, cs[i]? = some v → w.cell? ⟨b, o + i, none⟩ = some v
  | [], _, _ => ⟨[], rfl, fun i v h => by simp at h⟩
  | n :: l, o, h => by
    unfold KidsR at h
    obtain ⟨⟨na, nc, ka, kc, c0, c1, c2, c3, c4, hn⟩, hr⟩ := h
    obtain ⟨cs, h1, h2⟩ := hr.cells
    refine ⟨nodeL n na nc ka kc ++ cs, ⟨na, nc, ka, kc, cs, rfl, hn, h1⟩, fun i v hi => ?_⟩
    match i, hi with
    | 0, hi => simp [nodeL] at hi; subst hi; exact c0
    | 1, hi => simp [nodeL] at hi; subst hi; exact c1
    | 2, hi => simp [nodeL] at hi; subst hi; exact c2
    | 3, hi => simp [nodeL] at hi; subst hi; exact c3
    | 4, hi => simp [nodeL] at hi; subst hi; exact c4
    | i + 5, hi =>
      have := h2 i v (by simpa [nodeL] using hi)
      rw [show o + (i + 5) = o + 5 + i by omega]
      exact this
end Go.Proofs.YtfjaobfaepjfnaaDoor
namespace Go.Proofs.YtfjaobfaepjfnaaDoor
open Go Go.RowKit
def Src (w : World) (y : Option Addr) (m : Nat) (news : List Value) : Prop := (m = 0 ∧ news = []) ∨ ∃ ad, y = some ad ∧ ∀ j u, news[j]? = some u → w.cell? (ad.add j) = some u
theorem Src.grow {w w' : World} {y : Option Addr} {m : Nat} {news : List Value} (h : Src w y m news) (hg : Grow w w') : Src w' y m news :=
  h.imp id (fun ⟨ad, hy, hc⟩ => ⟨ad, hy, fun j u hj => hg.some (hc j u hj)⟩)
def offRow (B : Nat) (v : Value) (k : Nat) : Prop := B ≤ k ∧ v.ownBlock ≠ some k
theorem grownBy_ext {w w' : World} {v : Value} (h : w.grownBy w' v.ownBlock) : Ext (fun k => v.ownBlock = some k) w w' :=
  ⟨h.os, h.tape, h.output, h.size, fun k hk hx => h.block k hk (fun e => hx e.symm)⟩
theorem NCells.grown {w w' : World} {B : Nat} {v v' : Value} {l : List Nd} {cs : List Value} (hlt : NCells w (fun k => offRow B v k ∧ k < w.heap.size) l cs) (hg : w.grownBy w' v.ownBlock) (hv : v'.ownBlock = v.ownBlock ∨ v'.ownBlock = some w.heap.size) :
    NCells w' (offRow B v') l cs := by
  have h1 := hlt.ext (grownBy_ext hg) (fun k hk hx => hk.1.2 hx)
  refine h1.mono (fun k hk => ⟨hk.1.1, fun e => ?_⟩)
  rcases hv with hv | hv
  · rw [hv] at e; exact hk.1.2 e
  · rw [hv] at e; cases e; exact Nat.lt_irrefl _ hk.2
theorem StrsR.lt {S : Nat → Prop} {w : World} {a : Option Addr} {c : Nat} {xs : List ByteArray} (h : StrsR w S a c xs) : StrsR w (fun k => S k ∧ k < w.heap.size) a c xs := by
  obtain ⟨h1, h2, h3, h4⟩ := h
  refine ⟨h1, h2, h3, ?_⟩
  rcases Nat.eq_zero_or_pos xs.length with hl | hl
  · exact .inl (List.length_eq_zero_iff.1 hl)
  rcases h4 with h4 | ⟨b, o, rfl, hb, hc⟩
  · exact .inl h4
  · exact .inr ⟨b, o, rfl, ⟨hb, lt_of_cell (hc 0 hl)⟩, hc⟩
mutual
theorem NodeC.lt {S : Nat → Prop} {w : World} : ∀ {n : Nd} {na : Option Addr} {nc : Nat} {ka : Option Addr} {kc : Nat}, NodeC w S n na nc ka kc → NodeC w (fun k => S k ∧ k < w.heap.size) n na nc ka kc
  | ⟨_, _, _, _, kids⟩, na, nc, ka, kc, h => by
    unfold NodeC at h ⊢
    obtain ⟨h1, h2, h3, h4, h5⟩ := h
    refine ⟨h1, h2.lt, h3, h4, ?_⟩
    rcases h5 with h5 | ⟨b, o, rfl, hb, hk⟩
    · exact .inl h5
    · cases kids with
      | nil => exact .inl rfl
      | cons k ks =>
        refine .inr ⟨b, o, rfl, ⟨hb, ?_⟩, KidsR.lt hk⟩
        unfold KidsR at hk
        obtain ⟨⟨_, _, _, _, c0, _⟩, _⟩ := hk
        exact lt_of_cell c0
theorem KidsR.lt {S : Nat → Prop} {w : World} {b : Nat} : ∀ {l : List Nd} {o : Nat}, KidsR w S b o l → KidsR w (fun k => S k ∧ k < w.heap.size) b o l
  | [], _, _ => by unfold KidsR; trivial
  | k :: ks, o, h => by
    unfold KidsR at h ⊢
    obtain ⟨⟨na, nc, ka, kc, c0, c1, c2, c3, c4, hn⟩, hr⟩ := h
    exact ⟨⟨na, nc, ka, kc, c0, c1, c2, c3, c4, hn.lt⟩, KidsR.lt hr⟩
end
theorem NCells.lt {S : Nat → Prop} {w : World} : ∀ {l : List Nd} {cs : List Value}, NCells w S l cs → NCells w (fun k => S k ∧ k < w.heap.size) l cs
  | [], cs, h => h
  | n :: l, cs, h => by
    obtain ⟨na, nc, ka, kc, cs', rfl, hn, h⟩ := h
    exact ⟨na, nc, ka, kc, cs', rfl, hn.lt, NCells.lt h⟩
theorem BoxN.grown {w w' : World} {b : Nat} {cs : List Value} {v : Value} (h : BoxN w b cs) (hg : w.grownBy w' v.ownBlock) (hb : ∀ k, v.ownBlock = some k → b < k) : BoxN w' b cs :=
  h.ext (grownBy_ext hg) (fun e => by have := hb _ e; omega)
end Go.Proofs.YtfjaobfaepjfnaaDoor
namespace Go.Proofs.YtfjaobfaepjfnaaDoor
open Go Go.RowKit
theorem NodeC.grow' {S : Nat → Prop} {w w' : World} {n : Nd} {na : Option Addr} {nc : Nat} {ka : Option Addr} {kc : Nat} (h : NodeC w S n na nc ka kc) (hg : Grow w w') : NodeC w' S n na nc ka kc := h.ext hg (fun _ _ h => h)
theorem Grow.toX' {X : Nat → Prop} {w w' : World} (h : Grow w w') : Ext X w w' := h.mono (fun _ h => False.elim h)
theorem Free.app2 {B : Nat} {w : World} {f g : List Nat} (hf : Free B w f) (hg : Free B w g) (hd : ∀ a, a ∈ f → a ∈ g → False) : Free B w (f ++ g) :=
  ⟨List.nodup_append.2 ⟨hf.1, hg.1, fun a ha b hb e => by subst e; exact hd a ha hb⟩, fun b hb => by
    rcases List.mem_append.1 hb with h | h
    · exact hf.2 b h
    · exact hg.2 b h⟩
def nodeRep : Rep Nd where
  n := 5
  R := fun w S x cs => ∃ na nc ka kc, cs = nodeL x na nc ka kc ∧ NodeC w S x na nc ka kc
  F := fun w x cs fp => ∃ na nc ka kc, cs = nodeL x na nc ka kc ∧ NodeF w x na nc ka kc fp
  rlen := by rintro w S x cs ⟨na, nc, ka, kc, rfl, _⟩; rfl
  flen := by rintro w x cs fp ⟨na, nc, ka, kc, rfl, _⟩; rfl
  ext := by rintro X S w w' x cs h hS ⟨na, nc, ka, kc, rfl, hn⟩; exact ⟨na, nc, ka, kc, rfl, hn.ext h hS⟩
  mono := by rintro S T w x cs h ⟨na, nc, ka, kc, rfl, hn⟩; exact ⟨na, nc, ka, kc, rfl, hn.mono h⟩
  lt := by rintro S w x cs ⟨na, nc, ka, kc, rfl, hn⟩; exact ⟨na, nc, ka, kc, rfl, hn.lt⟩
  keep := by rintro w w' x cs fp ⟨na, nc, ka, kc, rfl, hn⟩ h; exact ⟨na, nc, ka, kc, rfl, hn.keep h⟩
  toR := by rintro S w x cs fp ⟨na, nc, ka, kc, rfl, hn⟩ h; exact ⟨na, nc, ka, kc, rfl, hn.toC h⟩
def strsRep : Rep (List ByteArray) where
  n := 1
  R := fun w S x cs => ∃ a c, cs = [.slice a x.length c] ∧ StrsR w S a c x
  F := fun w x cs fp => ∃ a c, cs = [.slice a x.length c] ∧ StrsF w a c x fp
  rlen := by rintro w S x cs ⟨a, c, rfl, _⟩; rfl
  flen := by rintro w x cs fp ⟨a, c, rfl, _⟩; rfl
  ext := by rintro X S w w' x cs h hS ⟨a, c, rfl, hn⟩; exact ⟨a, c, rfl, hn.ext h hS⟩
  mono := by rintro S T w x cs h ⟨a, c, rfl, hn⟩; exact ⟨a, c, rfl, hn.mono h⟩
  lt := by rintro S w x cs ⟨a, c, rfl, hn⟩; exact ⟨a, c, rfl, hn.lt⟩
  keep := by rintro w w' x cs fp ⟨a, c, rfl, hn⟩ h; exact ⟨a, c, rfl, hn.keep h⟩
  toR := by rintro S w x cs fp ⟨a, c, rfl, hn⟩ h; exact ⟨a, c, rfl, hn.toR h⟩
end Go.Proofs.YtfjaobfaepjfnaaDoor
namespace Go.Proofs.YtfjaobfaepjfnaaDoor
open Go Go.RowKit
structure Elm (wr w : World) (b p n : Nat) (cs : List Value) (G : List Nat) : Prop where
  ext : Ext (inl (b :: G)) wr w
  len : cs.length = n
  cells : ∀ i v, cs[i]? = some v → w.cell? ⟨b, p + i, none⟩ = some v
  rest : ∀ q, (q < p ∨ p + n ≤ q) → w.cell? ⟨b, q, none⟩ = wr.cell? ⟨b, q, none⟩
  fr : ∀ q, w.frozen? ⟨b, q, none⟩ = false
  lt : b < w.heap.size
theorem Elm.new {w : World} {b p n : Nat} {cs : List Value} (hc : CellsAt w b p cs) (hl : cs.length = n) (hf : ∀ q, w.frozen? ⟨b, q, none⟩ = false) (hb : b < w.heap.size) : Elm w w b p n cs [] :=
  ⟨Ext.refl _ _, hl, hc, fun _ _ => rfl, hf, hb⟩
theorem Elm.set {wr w : World} {b p n : Nat} {cs : List Value} {G : List Nat} (h : Elm wr w b p n cs G) (i : Nat) (hi : i < cs.length) (v : Value) : Elm wr (w.setCell ⟨b, p + i, none⟩ v) b p n (cs.set i v) G := by
  have h0 := h.cells i cs[i] (List.getElem?_eq_getElem hi)
  refine ⟨h.ext.setIn (p := ⟨b, p + i, none⟩) (by simp [inl]) v, by rw [List.length_set]; exact h.len, fun j u hj => ?_, fun q hq => ?_, fun q => by rw [World.frozen?_setCell]; exact h.fr q, by rw [size_setCell]; exact h.lt⟩
  · rw [cell_set h0]
    rw [List.getElem?_set] at hj
    by_cases e : j = i
    · subst e; rw [if_pos rfl]; simpa [hi] using hj
    · have hne : ¬ (⟨b, p + j, none⟩ : Addr) = ⟨b, p + i, none⟩ := by intro h'; have := congrArg Addr.off h'; simp at this; exact e this
      rw [if_neg hne]
      rw [if_neg (fun h' => e h'.symm)] at hj
      exact h.cells j u hj
  · have := h.len
    rw [set_ne _ _ _ _ _ _ (.inr (by omega))]; exact h.rest q hq
theorem Elm.set0 {wr w : World} {b p n : Nat} {cs : List Value} {G : List Nat} (h : Elm wr w b p n cs G) (hi : 0 < cs.length) (v : Value) : Elm wr (w.setCell ⟨b, p, none⟩ v) b p n (cs.set 0 v) G := h.set 0 hi v
theorem Elm.sub {wr w w' : World} {b p n : Nat} {cs : List Value} {G g : List Nat} (h : Elm wr w b p n cs G) (he : Ext (inl g) w w') (hb : b ∉ g) : Elm wr w' b p n cs (G ++ g) := by
  refine ⟨(h.ext.mono (fun k hk => ?_)).trans (he.mono (fun k hk => ?_)), h.len, fun i v hi => he.some (h.cells i v hi) hb, fun q hq => ?_, fun q => ?_, Nat.lt_of_lt_of_le h.lt he.size⟩
  · simp [inl] at hk ⊢
    rcases hk with hk | hk
    · exact .inl hk
    · exact .inr (.inl hk)
  · simp [inl] at hk ⊢; exact .inr (.inr hk)
  · rw [he.cell (p := ⟨b, q, none⟩) h.lt hb]; exact h.rest q hq
  · rw [he.frozen (p := ⟨b, q, none⟩) h.lt hb]; exact h.fr q
theorem Elm.grow {wr w w' : World} {b p n : Nat} {cs : List Value} {G : List Nat} (h : Elm wr w b p n cs G) (hg : Grow w w') : Elm wr w' b p n cs G := by
  have := h.sub (g := []) (hg.toX' (X := inl [])) (by simp)
  simpa using this
section rows
variable {α : Type} {E : Rep α}
theorem RowF.split {w : World} {b : Nat} : ∀ {l m : List α} {o : Nat} {fp : List Nat}, RowF E w b o (l ++ m) fp → ∃ f g, fp = f ++ g ∧ RowF E w b o l f ∧ RowF E w b (o + l.length * E.n) m g
  | [], m, o, fp, h => ⟨[], fp, rfl, rfl, by simpa using h⟩
  | x :: l, m, o, fp, h => by
    obtain ⟨f1, f2, cs, rfl, hc, hx, hr⟩ := h
    obtain ⟨f, g, rfl, h1, h2⟩ := RowF.split hr
    rw [show o + E.n + l.length * E.n = o + (x :: l).length * E.n by simp [Nat.succ_mul]; omega] at h2
    exact ⟨f1 ++ f, g, by simp, ⟨f1, f, cs, rfl, hc, hx, h1⟩, h2⟩
end rows
end Go.Proofs.YtfjaobfaepjfnaaDoor
namespace Go.Proofs.YtfjaobfaepjfnaaDoor
open Go.RowKit
end Go.Proofs.YtfjaobfaepjfnaaDoor
namespace Go.Proofs.YtfjaobfaepjfnaaDoor
open Go.RowKit
abbrev Ent := Nd × ByteArray
end Go.Proofs.YtfjaobfaepjfnaaDoor
namespace Go.Proofs.YtfjaobfaepjfnaaDoor
open Go.RowKit
end Go.Proofs.YtfjaobfaepjfnaaDoor
namespace Go.Proofs.YtfjaobfaepjfnaaDoor
open Go.RowKit
end Go.Proofs.YtfjaobfaepjfnaaDoor
namespace Go.Proofs.YtfjaobfaepjfnaaDoor
open Go.RowKit
def frB (lo hi : Nd) (e : Ent) : Bool := decide (cmpN lo e.1 ≤ 0) && decide (cmpN e.1 hi ≤ 0)
def OwnS (w w' : World) (xs : List ByteArray) (v : Value) : Prop := ∃ a c fp, v = .slice a xs.length c ∧ StrsF w' a c xs fp ∧ Free w.heap.size w' fp
theorem OwnS.nil (w w' : World) : OwnS w w' [] (.slice none 0 0) := ⟨none, 0, [], rfl, ⟨Nat.le_refl _, Nat.zero_le _, by simp, .inl ⟨rfl, rfl⟩⟩, Free.nil _ _⟩
theorem OwnS.grow {w w' w'' : World} {xs : List ByteArray} {v : Value} (h : OwnS w w' xs v) (hg : Grow w' w'') : OwnS w w'' xs v := by
  obtain ⟨a, c, fp, hv, h1, h2⟩ := h
  exact ⟨a, c, fp, hv, h1.keep (hg.keeps h2 (fun _ _ h => h)), h2.ext hg (fun _ _ h => h)⟩
theorem Free.down {B B' : Nat} {w : World} {fp : List Nat} (h : Free B w fp) (hb : B' ≤ B) : Free B' w fp := ⟨h.1, fun y hy => ⟨Nat.le_trans hb (h.2 y hy).1, (h.2 y hy).2⟩⟩
theorem OwnS.row {w w' : World} {B : Nat} {T : TypeId} {v : Value} {n : Nat} {xs : List ByteArray} (hB : w.heap.size ≤ B) (h : w'.ownsRow B T 1 v n (xs.map Value.string)) (hx : ∀ x ∈ xs, x.size ≤ big) : OwnS w w' xs v := by
  obtain ⟨a, c, fp, hv, h1, h2, _⟩ := strs_of_row h hx
  exact ⟨a, c, fp, hv, h1, h2.down hB⟩
end Go.Proofs.YtfjaobfaepjfnaaDoor
namespace Go.Proofs.YtfjaobfaepjfnaaDoor
open Go.RowKit
def Seg (A Z : Nat) (w : World) (fp : List Nat) : Prop := Free A w fp ∧ ∀ y ∈ fp, y < Z
theorem Seg.of {A : Nat} {w : World} {fp : List Nat} (h : Free A w fp) : Seg A w.heap.size w fp := ⟨h, fun y hy => (h.2 y hy).2.1⟩
theorem Seg.grow {A Z : Nat} {w w' : World} {fp : List Nat} (h : Seg A Z w fp) (hg : Grow w w') : Seg A Z w' fp := ⟨h.1.ext hg (fun _ _ h => h), h.2⟩
theorem Seg.off {A Z A' Z' : Nat} {w w0 : World} {fp fx : List Nat} (h : Seg A Z w fp) (hx : Seg A' Z' w0 fx) (hd : Z ≤ A' ∨ Z' ≤ A) : ∀ y ∈ fp, ¬ inl fx y := fun y hy h2 => by
  have h3 := h.2 y hy
  have h4 := (h.1.2 y hy).1
  have h5 := hx.2 y h2
  have h6 := (hx.1.2 y h2).1
  omega
theorem Seg.ext {A Z A' Z' : Nat} {w w' w0 : World} {fp fx : List Nat} (h : Seg A Z w fp) (hx : Seg A' Z' w0 fx) (hd : Z ≤ A' ∨ Z' ≤ A) (he : Ext (inl fx) w w') : Seg A Z w' fp := ⟨h.1.ext he (h.off hx hd), h.2⟩
theorem Seg.keeps {A Z A' Z' : Nat} {w w' w0 : World} {fp fx : List Nat} (h : Seg A Z w fp) (hx : Seg A' Z' w0 fx) (hd : Z ≤ A' ∨ Z' ≤ A) (he : Ext (inl fx) w w') : ∀ b ∈ fp, ∀ o, w'.cell? ⟨b, o, none⟩ = w.cell? ⟨b, o, none⟩ := he.keeps h.1 (h.off hx hd)
theorem Seg.inner {A Z : Nat} {w0 w w' : World} {fp : List Nat} (h : Seg A Z w fp) (hg : Grow w0 w) (he : Ext (inl fp) w w') (hA : w0.heap.size ≤ A) : Grow w0 w' :=
  hg.inner he (fun i hi => Nat.le_trans hA (h.1.2 i hi).1)
theorem Seg.box {A Z b : Nat} {w0 w w' : World} {fp : List Nat} {cs : List Value} (h : Seg A Z w0 fp) (hB : BoxN w b cs) (he : Ext (inl fp) w w') (hd : b < A ∨ Z ≤ b) : BoxN w' b cs :=
  hB.ext he (fun hi => by have h3 := h.2 b hi; have h4 := (h.1.2 b hi).1; omega)
theorem Seg.below {A Z : Nat} {w0 w w' : World} {fp : List Nat} {a : Option Addr} {c Y : Nat} {xs : List ByteArray} (h : Seg A Z w0 fp) (hs : StrsR w (fun k => k < Y) a c xs) (he : Ext (inl fp) w w') (hd : Y ≤ A) : StrsR w' (fun k => k < Y) a c xs :=
  hs.ext he (fun k hk hi => by have h4 := (h.1.2 k hi).1; omega)
theorem StrsR.under {S : Nat → Prop} {w : World} {a : Option Addr} {c : Nat} {xs : List ByteArray} (h : StrsR w S a c xs) : StrsR w (fun k => k < w.heap.size) a c xs := h.lt.mono (fun _ h => h.2)
end Go.Proofs.YtfjaobfaepjfnaaDoor
namespace Go.Proofs.YtfjaobfaepjfnaaDoor
open Go.RowKit
def packA (cs : List Value) : Value := .agg cs.toArray
def RV {α : Type} (E : Rep α) (pk : List Value → Value) (w : World) (S : Nat → Prop) (x : α) (v : Value) : Prop := ∃ cs, v = pk cs ∧ E.R w S x cs
def FV {α : Type} (E : Rep α) (pk : List Value → Value) (w : World) (x : α) (v : Value) (fp : List Nat) : Prop := ∃ cs, v = pk cs ∧ E.F w x cs fp
section
variable {α : Type} {E : Rep α} {pk : List Value → Value}
theorem RV.ext {X S : Nat → Prop} {w w' : World} {x : α} {v : Value} (h : RV E pk w S x v) (he : Ext X w w') (hS : ∀ k, S k → ¬ X k) : RV E pk w' S x v := by
  obtain ⟨cs, hv, hc⟩ := h; exact ⟨cs, hv, E.ext he hS hc⟩
theorem RV.grow {S : Nat → Prop} {w w' : World} {x : α} {v : Value} (h : RV E pk w S x v) (hg : Grow w w') : RV E pk w' S x v := h.ext hg (fun _ _ h => h)
theorem RV.mono {S T : Nat → Prop} {w : World} {x : α} {v : Value} (h : RV E pk w S x v) (hS : ∀ k, S k → T k) : RV E pk w T x v := by
  obtain ⟨cs, hv, hc⟩ := h; exact ⟨cs, hv, E.mono hS hc⟩
theorem RV.any {S : Nat → Prop} {w : World} {x : α} {v : Value} (h : RV E pk w S x v) : RV E pk w any x v := h.mono (fun _ _ => trivial)
theorem RV.under {S : Nat → Prop} {w : World} {x : α} {v : Value} (h : RV E pk w S x v) : RV E pk w (fun k => k < w.heap.size) x v := by
  obtain ⟨cs, hv, hc⟩ := h; exact ⟨cs, hv, E.mono (fun _ h => h.2) (E.lt hc)⟩
theorem FV.keep {w w' : World} {x : α} {v : Value} {fp : List Nat} (h : FV E pk w x v fp) (hk : ∀ b ∈ fp, ∀ o, w'.cell? ⟨b, o, none⟩ = w.cell? ⟨b, o, none⟩) : FV E pk w' x v fp := by
  obtain ⟨cs, hv, hc⟩ := h; exact ⟨cs, hv, E.keep hc hk⟩
theorem FV.rv {w : World} {x : α} {v : Value} {fp : List Nat} (h : FV E pk w x v fp) : RV E pk w Go.Proofs.YtfjaobfaepjfnaaDoor.any x v := by
  obtain ⟨cs, hv, hc⟩ := h; exact ⟨cs, hv, E.toR hc (fun _ _ => trivial)⟩
theorem FV.grow {w w' : World} {x : α} {v : Value} {fp : List Nat} {A Z : Nat} (h : FV E pk w x v fp) (hs : Seg A Z w fp) (hg : Grow w w') : FV E pk w' x v fp := h.keep (hg.keeps hs.1 (fun _ _ h => h))
theorem Seg.rv {A Z Y : Nat} {w0 w w' : World} {fp : List Nat} {x : α} {v : Value} (h : Seg A Z w0 fp) (hs : RV E pk w (fun k => k < Y) x v) (he : Ext (inl fp) w w') (hd : Y ≤ A) : RV E pk w' (fun k => k < Y) x v :=
  hs.ext he (fun k hk hi => by have h4 := (h.1.2 k hi).1; omega)
end
theorem node_open {w : World} {S : Nat → Prop} {x : Nd} {v : Value} (h : RV nodeRep packA w S x v) : NodeR w S x v := by
  obtain ⟨cs, rfl, na, nc, ka, kc, rfl, hs⟩ := h; exact ⟨na, nc, ka, kc, rfl, hs⟩
theorem uSzN (x : Nd) (v : Value) (left : Int) (w : World) (h0 : 0 ≤ left) (h1 : left ≤ 1048576) (h : RV nodeRep packA w any x v) :
    Calls Tryd.prog 21 #[v, .int .i64 left] w fun e w' => e = .returned (.int .i64 (szR (costN x) left)) ∧ Grow w w' := szNode_ok x v left w h0 h1 (node_open h)
theorem uToN (x : Nd) (v : Value) (w : World) (hc : costN x ≤ 1048576) (h : RV nodeRep packA w any x v) :
    Calls Tryd.prog 23 #[v] w fun e w' => ∃ v' fp, e = .returned v' ∧ Grow w w' ∧ FV nodeRep packA w' x v' fp ∧ Free w.heap.size w' fp :=
  (toNode_ok x v w hc (node_open h)).mono fun e w' ⟨v', fp, he, hg, ⟨na, nc, ka, kc, hv, hF⟩, hfr⟩ => ⟨v', fp, he, hg, ⟨_, hv, na, nc, ka, kc, rfl, hF⟩, hfr⟩
theorem uEqN (x : Nd) (v u : Value) (w : World) (h : RV nodeRep packA w any x v) (h' : RV nodeRep packA w any x u) :
    Calls Tryd.prog 26 #[v, u] w fun e w' => e = .returned (.bool true) ∧ Grow w w' :=
  (eqNode_ok x x v u w (node_open h) (node_open h')).mono fun e w' ⟨he, hg⟩ => ⟨by rw [he, eqN_refl], hg⟩
end Go.Proofs.YtfjaobfaepjfnaaDoor
namespace Go.Proofs.YtfjaobfaepjfnaaDoor
open Go.RowKit
abbrev Fil := List ByteArray × Int × Nd
def filRep : Rep Fil := pairRep strsRep (pairRep intRep (nodeRep))
def filL (x : Fil) (a0 : Option Addr) (c0 : Nat) (na2 : Option Addr) (nc2 : Nat) (ka2 : Option Addr) (kc2 : Nat) : List Value := [.slice a0 x.1.length c0, .int .i64 x.2.1, .int .i64 x.2.2.kind, .int .i64 x.2.2.num, .string x.2.2.text, .slice na2 x.2.2.names.length nc2, .slice ka2 x.2.2.kids.length kc2]
def costFil (x : Fil) : Nat := costS x.1 + costN x.2.2
theorem filRep_open {w : World} {S : Nat → Prop} {x : Fil} {cs : List Value} (h : filRep.R w S x cs) : ∃ (a0 : Option Addr) (c0 : Nat) (na2 : Option Addr) (nc2 : Nat) (ka2 : Option Addr) (kc2 : Nat), cs = filL x a0 c0 na2 nc2 ka2 kc2 ∧ StrsR w S a0 c0 x.1 ∧ NodeC w S x.2.2 na2 nc2 ka2 kc2 := by
  obtain ⟨_, _, rfl, ⟨a0, c0, rfl, h0⟩, ⟨_, _, rfl, rfl, ⟨na2, nc2, ka2, kc2, rfl, h2⟩⟩⟩ := h
  exact ⟨a0, c0, na2, nc2, ka2, kc2, rfl, h0, h2⟩
theorem szFilter_ok (x : Fil) (cs : List Value) (left : Int) (w : World) (hb0 : 0 ≤ left) (hb1 : left ≤ 1048576) (hx : filRep.R w any x cs) :
    Calls Tryd.prog 43 #[.agg cs.toArray, .int .i64 left] w fun e w' => e = .returned (.int .i64 (szR (costFil x) left)) ∧ Grow w w' := by
  obtain ⟨a0, c0, na2, nc2, ka2, kc2, rfl, h0, h2⟩ := filRep_open hx
  have H0 := Lib.hid h0
  have H2 := Lib.hid h2
  clear h0 h2
  have Hce : Hid (costFil x = costS x.1 + costN x.2.2) := Lib.hid rfl
  unfold filL
  by_cases a0 : left < ((costS x.1 : Nat) : Int)
  · have Hf := Lib.hid (szR_neg (c := costFil x) (left := left) (by have := Hce.out; omega))
    have Hs0 := Lib.hid (szR_neg a0)
    go_enter Tryd.func43, Tryd.ntmps43
    go_wp2_with fail
    refine (szStringS_ok _ _ x.1 _ _ (H0.out.grow (by repeat (first | with_reducible exact Ext.refl _ _ | with_reducible refine Ext.trans ?_ (by assumption) | with_reducible refine Ext.drew ?_ | with_reducible refine Ext.drewN ?_ _ | with_reducible refine Ext.alloc ?_ _ | with_reducible refine Ext.setNew ?_ (by simp; done) _ | with_reducible refine Ext.setNew ?_ (by simp; omega) _))) (by omega) (by omega)).mono ?_
    rintro e w2 ⟨rfl, hg2⟩
    simp only [Hs0.out]
    have hcc2 := bcell hg2
    go_wp2_with fail
    go_ret
    exact ⟨by simp [Hf.out], (by repeat (first | with_reducible exact Ext.refl _ _ | with_reducible refine Ext.trans ?_ (by assumption) | with_reducible refine Ext.drew ?_ | with_reducible refine Ext.drewN ?_ _ | with_reducible refine Ext.alloc ?_ _ | with_reducible refine Ext.setNew ?_ (by simp; done) _ | with_reducible refine Ext.setNew ?_ (by simp; omega) _))⟩
  have Hs0 := Lib.hid (szR_pos (c := costS x.1) (left := left) (by omega))
  by_cases a2 : left - ((costS x.1 : Nat) : Int) < ((costN x.2.2 : Nat) : Int)
  · have Hf := Lib.hid (szR_neg (c := costFil x) (left := left) (by have := Hce.out; omega))
    have Hs2 := Lib.hid (szR_neg a2)
    go_enter Tryd.func43, Tryd.ntmps43
    go_wp2_with fail
    refine (szStringS_ok _ _ x.1 _ _ (H0.out.grow (by repeat (first | with_reducible exact Ext.refl _ _ | with_reducible refine Ext.trans ?_ (by assumption) | with_reducible refine Ext.drew ?_ | with_reducible refine Ext.drewN ?_ _ | with_reducible refine Ext.alloc ?_ _ | with_reducible refine Ext.setNew ?_ (by simp; done) _ | with_reducible refine Ext.setNew ?_ (by simp; omega) _))) (by omega) (by omega)).mono ?_
    rintro e w2 ⟨rfl, hg2⟩
    simp only [Hs0.out]
    have hcc2 := bcell hg2
    go_wp2_with fail
    refine (szNode_ok x.2.2 _ _ _ (by omega) (by omega) ⟨_, _, _, _, rfl, H2.out.grow' (by repeat (first | with_reducible exact Ext.refl _ _ | with_reducible refine Ext.trans ?_ (by assumption) | with_reducible refine Ext.drew ?_ | with_reducible refine Ext.drewN ?_ _ | with_reducible refine Ext.alloc ?_ _ | with_reducible refine Ext.setNew ?_ (by simp; done) _ | with_reducible refine Ext.setNew ?_ (by simp; omega) _))⟩).mono ?_
    rintro e w3 ⟨rfl, hg3⟩
    simp only [Hs2.out]
    have hcc3 := bcell (hg2.trans hg3)
    go_wp2_with fail
    go_ret
    exact ⟨by simp [Hf.out], (by repeat (first | with_reducible exact Ext.refl _ _ | with_reducible refine Ext.trans ?_ (by assumption) | with_reducible refine Ext.drew ?_ | with_reducible refine Ext.drewN ?_ _ | with_reducible refine Ext.alloc ?_ _ | with_reducible refine Ext.setNew ?_ (by simp; done) _ | with_reducible refine Ext.setNew ?_ (by simp; omega) _))⟩
  have Hs2 := Lib.hid (szR_pos (c := costN x.2.2) (left := left - ((costS x.1 : Nat) : Int)) (by omega))
  have Hf := Lib.hid (szR_pos (c := costFil x) (left := left) (by have := Hce.out; omega))
  go_enter Tryd.func43, Tryd.ntmps43
  go_wp2_with fail
  refine (szStringS_ok _ _ x.1 _ _ (H0.out.grow (by repeat (first | with_reducible exact Ext.refl _ _ | with_reducible refine Ext.trans ?_ (by assumption) | with_reducible refine Ext.drew ?_ | with_reducible refine Ext.drewN ?_ _ | with_reducible refine Ext.alloc ?_ _ | with_reducible refine Ext.setNew ?_ (by simp; done) _ | with_reducible refine Ext.setNew ?_ (by simp; omega) _))) (by omega) (by omega)).mono ?_
  rintro e w2 ⟨rfl, hg2⟩
  simp only [Hs0.out]
  have hcc2 := bcell hg2
  go_wp2_with fail
  refine (szNode_ok x.2.2 _ _ _ (by omega) (by omega) ⟨_, _, _, _, rfl, H2.out.grow' (by repeat (first | with_reducible exact Ext.refl _ _ | with_reducible refine Ext.trans ?_ (by assumption) | with_reducible refine Ext.drew ?_ | with_reducible refine Ext.drewN ?_ _ | with_reducible refine Ext.alloc ?_ _ | with_reducible refine Ext.setNew ?_ (by simp; done) _ | with_reducible refine Ext.setNew ?_ (by simp; omega) _))⟩).mono ?_
  rintro e w3 ⟨rfl, hg3⟩
  simp only [Hs2.out]
  have hcc3 := bcell (hg2.trans hg3)
  go_wp2_with fail
  go_ret
  exact ⟨by have h1 := Hf.out; have h2 := Hce.out; rw [h1]; simp; omega, (by repeat (first | with_reducible exact Ext.refl _ _ | with_reducible refine Ext.trans ?_ (by assumption) | with_reducible refine Ext.drew ?_ | with_reducible refine Ext.drewN ?_ _ | with_reducible refine Ext.alloc ?_ _ | with_reducible refine Ext.setNew ?_ (by simp; done) _ | with_reducible refine Ext.setNew ?_ (by simp; omega) _))⟩
theorem eqFilter_same (x : Fil) (cs ds : List Value) (w : World) (hx : filRep.R w any x cs) (hy : filRep.R w any x ds) :
    Calls Tryd.prog 47 #[.agg cs.toArray, .agg ds.toArray] w fun e w' => e = .returned (.bool true) ∧ Grow w w' := by
  obtain ⟨a0, c0, na2, nc2, ka2, kc2, rfl, h0, h2⟩ := filRep_open hx
  obtain ⟨a0', c0', na2', nc2', ka2', kc2', rfl, h0', h2'⟩ := filRep_open hy
  have H0 := Lib.hid h0
  have H0' := Lib.hid h0'
  have H2 := Lib.hid h2
  have H2' := Lib.hid h2'
  have E0 : Hid (eqS x.1 x.1 = true) := Lib.hid (by simp [eqS])
  have e1 : (x.2.1 != x.2.1) = false := by simp
  have E2 : Hid (eqN x.2.2 x.2.2 = true) := Lib.hid (eqN_refl _)
  clear hx hy h0 h0' h2 h2'
  unfold filL
  go_enter Tryd.func47, Tryd.ntmps47
  go_wp2_with fail
  refine (eqStringS_ok _ _ _ _ x.1 x.1 _ (H0.out.grow (by repeat (first | with_reducible exact Ext.refl _ _ | with_reducible refine Ext.trans ?_ (by assumption) | with_reducible refine Ext.drew ?_ | with_reducible refine Ext.drewN ?_ _ | with_reducible refine Ext.alloc ?_ _ | with_reducible refine Ext.setNew ?_ (by simp; done) _ | with_reducible refine Ext.setNew ?_ (by simp; omega) _))) (H0'.out.grow (by repeat (first | with_reducible exact Ext.refl _ _ | with_reducible refine Ext.trans ?_ (by assumption) | with_reducible refine Ext.drew ?_ | with_reducible refine Ext.drewN ?_ _ | with_reducible refine Ext.alloc ?_ _ | with_reducible refine Ext.setNew ?_ (by simp; done) _ | with_reducible refine Ext.setNew ?_ (by simp; omega) _)))).mono ?_
  rintro e w2 ⟨rfl, hg2⟩
  simp only [E0.out]
  have hcc2 := bcell hg2
  go_wp2_with fail
  refine (eqNode_ok x.2.2 x.2.2 _ _ _ ⟨_, _, _, _, rfl, H2.out.grow' (by repeat (first | with_reducible exact Ext.refl _ _ | with_reducible refine Ext.trans ?_ (by assumption) | with_reducible refine Ext.drew ?_ | with_reducible refine Ext.drewN ?_ _ | with_reducible refine Ext.alloc ?_ _ | with_reducible refine Ext.setNew ?_ (by simp; done) _ | with_reducible refine Ext.setNew ?_ (by simp; omega) _))⟩ ⟨_, _, _, _, rfl, H2'.out.grow' (by repeat (first | with_reducible exact Ext.refl _ _ | with_reducible refine Ext.trans ?_ (by assumption) | with_reducible refine Ext.drew ?_ | with_reducible refine Ext.drewN ?_ _ | with_reducible refine Ext.alloc ?_ _ | with_reducible refine Ext.setNew ?_ (by simp; done) _ | with_reducible refine Ext.setNew ?_ (by simp; omega) _))⟩).mono ?_
  rintro e w4 ⟨rfl, hg4⟩
  simp only [E2.out]
  have hcc4 := bcell (hg2.trans hg4)
  go_wp2_with fail
  go_ret
  exact ⟨by simp, (by repeat (first | with_reducible exact Ext.refl _ _ | with_reducible refine Ext.trans ?_ (by assumption) | with_reducible refine Ext.drew ?_ | with_reducible refine Ext.drewN ?_ _ | with_reducible refine Ext.alloc ?_ _ | with_reducible refine Ext.setNew ?_ (by simp; done) _ | with_reducible refine Ext.setNew ?_ (by simp; omega) _))⟩
end Go.Proofs.YtfjaobfaepjfnaaDoor
namespace Go.Proofs.YtfjaobfaepjfnaaDoor
open Go.RowKit
theorem toFilter_ok (x : Fil) (cs : List Value) (w : World) (hcost : costFil x ≤ 1048576) (hx : filRep.R w any x cs) :
    Calls Tryd.prog 45 #[.agg cs.toArray] w fun e w' => ∃ cs' fp, e = .returned (.agg (cs' : List Value).toArray) ∧ Grow w w' ∧ filRep.F w' x cs' fp ∧ Free w.heap.size w' fp := by
  have hce : costFil x = costS x.1 + costN x.2.2 := rfl
  rw [hce] at hcost
  obtain ⟨a0, c0, na2, nc2, ka2, kc2, rfl, h0, h2⟩ := filRep_open hx
  have H0 := Lib.hid h0
  have H2 := Lib.hid h2
  clear hx hce h0 h2
  have B0 := ((BoxN.new w (filL x a0 c0 na2 nc2 ka2 kc2) 64).grow ((Ext.refl nil _).alloc (.cells #[.slice none 0 0, .int .i64 0, .int .i64 0, .int .i64 0, .string ⟨#[]⟩, .slice none 0 0, .slice none 0 0] 68))).grow ((Ext.refl nil _).alloc (.cells #[.slice none 0 0, .int .i64 0, .int .i64 0, .int .i64 0, .string ⟨#[]⟩, .slice none 0 0, .slice none 0 0] 68))
  have B1 := (BoxN.new1 w (.cells (filL x a0 c0 na2 nc2 ka2 kc2).toArray 64) [.slice none 0 0, .int .i64 0, .int .i64 0, .int .i64 0, .string ⟨#[]⟩, .slice none 0 0, .slice none 0 0] 68).grow ((Ext.refl nil _).alloc (.cells #[.slice none 0 0, .int .i64 0, .int .i64 0, .int .i64 0, .string ⟨#[]⟩, .slice none 0 0, .slice none 0 0] 68))
  have B2 := BoxN.new2 w (.cells (filL x a0 c0 na2 nc2 ka2 kc2).toArray 64) (.cells #[.slice none 0 0, .int .i64 0, .int .i64 0, .int .i64 0, .string ⟨#[]⟩, .slice none 0 0, .slice none 0 0] 68) [.slice none 0 0, .int .i64 0, .int .i64 0, .int .i64 0, .string ⟨#[]⟩, .slice none 0 0, .slice none 0 0] 68
  have hgp : Grow w (((w.alloc (.cells (filL x a0 c0 na2 nc2 ka2 kc2).toArray 64)).alloc (.cells #[.slice none 0 0, .int .i64 0, .int .i64 0, .int .i64 0, .string ⟨#[]⟩, .slice none 0 0, .slice none 0 0] 68)).alloc (.cells #[.slice none 0 0, .int .i64 0, .int .i64 0, .int .i64 0, .string ⟨#[]⟩, .slice none 0 0, .slice none 0 0] 68)) := (by repeat (first | with_reducible exact Ext.refl _ _ | with_reducible refine Ext.trans ?_ (by assumption) | with_reducible refine Ext.drew ?_ | with_reducible refine Ext.drewN ?_ _ | with_reducible refine Ext.alloc ?_ _ | with_reducible refine Ext.setNew ?_ (by simp; done) _ | with_reducible refine Ext.setNew ?_ (by simp; omega) _))
  have HB0 := Lib.hid B0
  have HB1 := Lib.hid B1
  have HB2 := Lib.hid B2
  have Hgp := Lib.hid hgp
  clear B0 B1 B2 hgp
  unfold filL at *
  go_enter Tryd.func45, Tryd.ntmps45
  go_wp2_with fail
  refine (toStringS_ok _ _ x.1 _ (H0.out.grow (Hgp.out)) (Nat.le_trans (show x.1.length ≤ costS x.1 from Nat.le_add_right _ _) (by omega))).mono ?_
  rintro e w1 ⟨a0', c0', f0, rfl, hg, hF, hf⟩
  have e0 := Ext.trans (Ext.refl (fun k => k = w.heap.size + 1 ∨ k = w.heap.size + 1 + 1) _) (hg.toX' (X := (fun k => k = w.heap.size + 1 ∨ k = w.heap.size + 1 + 1)))
  have B0 := HB0.out.grow hg
  have B1 := HB1.out.grow hg
  have B2 := HB2.out.grow hg
  have hgp := Hgp.out.inner e0 (by intro i hi; omega)
  simp only [World.size_alloc] at hf
  have Hf0 := Lib.hid hf
  have HF0 := Lib.hid hF
  have HE0 := Lib.hid e0
  clear hg hF hf e0 HB0 HB1 HB2 Hgp
  have HB0 := Lib.hid B0
  have HB1 := Lib.hid B1
  have HB2 := Lib.hid B2
  have Hgp := Lib.hid hgp
  clear B0 B1 B2 hgp
  have p0 := HB0.out.cell 0 _ rfl
  have p1 := HB0.out.cell 1 _ rfl
  have p2 := HB0.out.cell 2 _ rfl
  have p3 := HB0.out.cell 3 _ rfl
  have p4 := HB0.out.cell 4 _ rfl
  have p5 := HB0.out.cell 5 _ rfl
  have p6 := HB0.out.cell 6 _ rfl
  have q0 := HB2.out.cell 0 _ rfl
  have q1 := HB2.out.cell 1 _ rfl
  have q2 := HB2.out.cell 2 _ rfl
  have q3 := HB2.out.cell 3 _ rfl
  have q4 := HB2.out.cell 4 _ rfl
  have q5 := HB2.out.cell 5 _ rfl
  have q6 := HB2.out.cell 6 _ rfl
  have qf := HB2.out.fr
  have z1 : w.heap.size + 1 + 1 < w1.heap.size := HB2.out.lt
  go_wp2_with fail
  clear p0 q0 p1 q1 p2 q2 p3 q3 p4 q4 p5 q5 p6 q6 qf
  refine (toNode_ok x.2.2 (nodeV x.2.2 na2 nc2 ka2 kc2) _ (by omega) ⟨_, _, _, _, rfl, H2.out.grow' ((Hgp.out.setNew (by simp; omega) _).setNew (by simp; omega) _)⟩).mono ?_
  rintro e w2 ⟨v2, f2, rfl, hg, hF, hf⟩
  obtain ⟨na2', nc2', ka2', kc2', rfl, hF⟩ := hF
  have e1 := Ext.trans (((Ext.refl (fun k => k = w.heap.size + 1 ∨ k = w.heap.size + 1 + 1) w1).setIn (p := ⟨w.heap.size + 1 + 1, 0, none⟩) (.inr rfl) (.slice a0' x.1.length c0')).setIn (p := ⟨w.heap.size + 1 + 1, 1, none⟩) (.inr rfl) (.int .i64 x.2.1)) (hg.toX' (X := (fun k => k = w.heap.size + 1 ∨ k = w.heap.size + 1 + 1)))
  have B0 := ((HB0.out.other (p := ⟨w.heap.size + 1 + 1, 0, none⟩) (by simp; omega) (.slice a0' x.1.length c0')).other (p := ⟨w.heap.size + 1 + 1, 1, none⟩) (by simp; omega) (.int .i64 x.2.1)).grow hg
  have B1 := ((HB1.out.other (p := ⟨w.heap.size + 1 + 1, 0, none⟩) (by simp) (.slice a0' x.1.length c0')).other (p := ⟨w.heap.size + 1 + 1, 1, none⟩) (by simp) (.int .i64 x.2.1)).grow hg
  have B2 := ((HB2.out.set 0 (by simp) (.slice a0' x.1.length c0')).set 1 (by simp) (.int .i64 x.2.1)).grow hg
  have hgp := Hgp.out.inner e1 (by intro i hi; omega)
  simp only [size_setCell] at hf
  have Hf2 := Lib.hid hf
  have HF2 := Lib.hid hF
  have HE1 := Lib.hid e1
  clear hg hF hf e1 HB0 HB1 HB2 Hgp
  have HB0 := Lib.hid B0
  have HB1 := Lib.hid B1
  have HB2 := Lib.hid B2
  have Hgp := Lib.hid hgp
  clear B0 B1 B2 hgp
  unfold nodeV
  have p0 := HB0.out.cell 0 _ rfl
  have p1 := HB0.out.cell 1 _ rfl
  have p2 := HB0.out.cell 2 _ rfl
  have p3 := HB0.out.cell 3 _ rfl
  have p4 := HB0.out.cell 4 _ rfl
  have p5 := HB0.out.cell 5 _ rfl
  have p6 := HB0.out.cell 6 _ rfl
  have q0 := HB2.out.cell 0 _ rfl
  have q1 := HB2.out.cell 1 _ rfl
  have q2 := HB2.out.cell 2 _ rfl
  have q3 := HB2.out.cell 3 _ rfl
  have q4 := HB2.out.cell 4 _ rfl
  have q5 := HB2.out.cell 5 _ rfl
  have q6 := HB2.out.cell 6 _ rfl
  have qf := HB2.out.fr
  have r0 := HB1.out.cell 0 _ rfl
  have r1 := HB1.out.cell 1 _ rfl
  have r2 := HB1.out.cell 2 _ rfl
  have r3 := HB1.out.cell 3 _ rfl
  have r4 := HB1.out.cell 4 _ rfl
  have r5 := HB1.out.cell 5 _ rfl
  have r6 := HB1.out.cell 6 _ rfl
  have rf := HB1.out.fr
  have z2 : w.heap.size + 1 + 1 < w2.heap.size := HB2.out.lt
  go_wp2_with fail
  clear p0 q0 p1 q1 p2 q2 p3 q3 p4 q4 p5 q5 p6 q6 qf rf r0 r1 r2 r3 r4 r5 r6
  have BF := ((((((((((((HB1.out.other (p := ⟨w.heap.size + 1 + 1, 2, none⟩) (by simp) (.int .i64 x.2.2.kind)).other (p := ⟨w.heap.size + 1 + 1, 3, none⟩) (by simp) (.int .i64 x.2.2.num)).other (p := ⟨w.heap.size + 1 + 1, 4, none⟩) (by simp) (.string x.2.2.text)).other (p := ⟨w.heap.size + 1 + 1, 5, none⟩) (by simp) (.slice na2' x.2.2.names.length nc2')).other (p := ⟨w.heap.size + 1 + 1, 6, none⟩) (by simp) (.slice ka2' x.2.2.kids.length kc2')).set 0 (by simp) (.slice a0' x.1.length c0')).set 1 (by simp) (.int .i64 x.2.1)).set 2 (by simp) (.int .i64 x.2.2.kind)).set 3 (by simp) (.int .i64 x.2.2.num)).set 4 (by simp) (.string x.2.2.text)).set 5 (by simp) (.slice na2' x.2.2.names.length nc2')).set 6 (by simp) (.slice ka2' x.2.2.kids.length kc2'))
  have x0 : ∀ b ∈ f0, ¬ (b = w.heap.size + 1 ∨ b = w.heap.size + 1 + 1) := fun b hb => by have := (Hf0.out.2 b hb).1; omega
  have x2 : ∀ b ∈ f2, ¬ (b = w.heap.size + 1 ∨ b = w.heap.size + 1 + 1) := fun b hb => by have := (Hf2.out.2 b hb).1; omega
  have fin : ∀ W, Ext (fun k => k = w.heap.size + 1 ∨ k = w.heap.size + 1 + 1) w2 W → ∃ cs' fp, Ending.returned (.agg ([.slice a0' x.1.length c0', .int .i64 x.2.1, .int .i64 x.2.2.kind, .int .i64 x.2.2.num, .string x.2.2.text, .slice na2' x.2.2.names.length nc2', .slice ka2' x.2.2.kids.length kc2'] : List Value).toArray) = Ending.returned (.agg (cs' : List Value).toArray) ∧ Grow w W ∧ filRep.F W x cs' fp ∧ Free w.heap.size W fp := by
    intro W hW
    have g2 : Ext (fun k => k = w.heap.size + 1 ∨ k = w.heap.size + 1 + 1) w2 W := hW
    have F2 := Hf2.out.ext g2 x2
    have k2 := HF2.out.keep (g2.keeps Hf2.out x2)
    have g0 : Ext (fun k => k = w.heap.size + 1 ∨ k = w.heap.size + 1 + 1) w1 W := HE1.out.trans g2
    have F0 := Hf0.out.ext g0 x0
    have k0 := HF0.out.keep (g0.keeps Hf0.out x0)
    refine ⟨_, (f0 ++ ([] ++ f2)), rfl, Hgp.out.inner hW (by intro i hi; omega), ⟨[.slice a0' x.1.length c0'], [.int .i64 x.2.1, .int .i64 x.2.2.kind, .int .i64 x.2.2.num, .string x.2.2.text, .slice na2' x.2.2.names.length nc2', .slice ka2' x.2.2.kids.length kc2'], f0, ([] ++ f2), rfl, rfl, ⟨a0', c0', rfl, k0⟩, ⟨[.int .i64 x.2.1], [.int .i64 x.2.2.kind, .int .i64 x.2.2.num, .string x.2.2.text, .slice na2' x.2.2.names.length nc2', .slice ka2' x.2.2.kids.length kc2'], [], f2, rfl, rfl, ⟨rfl, rfl⟩, ⟨na2', nc2', ka2', kc2', rfl, k2⟩⟩⟩, ?_⟩
    simp only [List.nil_append]
    exact Free.app2 (F0.mono (by omega)) (F2.mono (by omega)) (fun a ha hb => by have h1 := (Hf0.out.2 a ha).2.1; have h2 := (Hf2.out.2 a hb).1; omega)
  have r0 := BF.cell 0 _ rfl
  have r1 := BF.cell 1 _ rfl
  have r2 := BF.cell 2 _ rfl
  have r3 := BF.cell 3 _ rfl
  have r4 := BF.cell 4 _ rfl
  have r5 := BF.cell 5 _ rfl
  have r6 := BF.cell 6 _ rfl
  refine bodyPost_ret (v := .agg #[.slice a0' x.1.length c0', .int .i64 x.2.1, .int .i64 x.2.2.kind, .int .i64 x.2.2.num, .string x.2.2.text, .slice na2' x.2.2.names.length nc2', .slice ka2' x.2.2.kids.length kc2']) ?_ rfl ?_
  · simp [results, Tryd.results45, go_sem, r0, r1, r2, r3, r4, r5, r6]
  · refine fin _ ?_
    exact (by repeat (first | with_reducible exact Ext.refl _ _ | with_reducible refine Ext.setIn ?_ (by simp) _ | with_reducible refine Ext.trans ?_ (Ext.mono (by assumption) (fun _ h => False.elim h))))
end Go.Proofs.YtfjaobfaepjfnaaDoor
namespace Go.Proofs.YtfjaobfaepjfnaaDoor
open Go.RowKit
def filV (x : Fil) (pa : Option Addr) (pc : Nat) (na : Option Addr) (nc : Nat) (ka : Option Addr) (kc : Nat) : Value := .agg #[.slice pa x.1.length pc, .int .i64 x.2.1, .int .i64 x.2.2.kind, .int .i64 x.2.2.num, .string x.2.2.text, .slice na x.2.2.names.length nc, .slice ka x.2.2.kids.length kc]
theorem fil_open {w : World} {S : Nat → Prop} {x : Fil} {v : Value} (h : RV filRep packA w S x v) : ∃ pa pc na nc ka kc, v = filV x pa pc na nc ka kc ∧ StrsR w S pa pc x.1 ∧ NodeC w S x.2.2 na nc ka kc := by
  obtain ⟨cs, rfl, h⟩ := h
  obtain ⟨pa, pc, na, nc, ka, kc, rfl, h1, h2⟩ := filRep_open h
  exact ⟨pa, pc, na, nc, ka, kc, rfl, h1, h2⟩
theorem openV_fil {w : World} {S : Nat → Prop} {x : Fil} {v : Value} (h : RV filRep packA w S x v) : ∃ pa pc na nc ka kc, v = filV x pa pc na nc ka kc := by
  obtain ⟨pa, pc, na, nc, ka, kc, h, _⟩ := fil_open h; exact ⟨pa, pc, na, nc, ka, kc, h⟩
theorem uSzFil (x : Fil) (v : Value) (left : Int) (w : World) (h0 : 0 ≤ left) (h1 : left ≤ 1048576) (h : RV filRep packA w any x v) :
    Calls Tryd.prog 43 #[v, .int .i64 left] w fun e w' => e = .returned (.int .i64 (szR (costFil x) left)) ∧ Grow w w' := by
  obtain ⟨cs, rfl, h⟩ := h
  exact szFilter_ok x cs left w h0 h1 h
theorem uToFil (x : Fil) (v : Value) (w : World) (hc : costFil x ≤ 1048576) (h : RV filRep packA w any x v) :
    Calls Tryd.prog 45 #[v] w fun e w' => ∃ v' fp, e = .returned v' ∧ Grow w w' ∧ FV filRep packA w' x v' fp ∧ Free w.heap.size w' fp := by
  obtain ⟨cs, rfl, h⟩ := h
  refine (toFilter_ok x cs w hc h).mono ?_
  rintro e w' ⟨cs', fp, rfl, hg, hF, hfr⟩
  exact ⟨_, fp, rfl, hg, ⟨cs', rfl, hF⟩, hfr⟩
theorem uEqFil (x : Fil) (v u : Value) (w : World) (h : RV filRep packA w any x v) (h' : RV filRep packA w any x u) :
    Calls Tryd.prog 47 #[v, u] w fun e w' => e = .returned (.bool true) ∧ Grow w w' := by
  obtain ⟨cs, rfl, h⟩ := h
  obtain ⟨ds, rfl, h'⟩ := h'
  exact eqFilter_same x cs ds w h h'
end Go.Proofs.YtfjaobfaepjfnaaDoor
namespace Go.Proofs.YtfjaobfaepjfnaaDoor.Eng
open Go Go.RowKit
def frB : VC → Bool → List Nat
  | .fr g, false => [g]
  | _, _ => []
mutual
def atB : AV → List Nat
  | .agg cs => atL cs
  | .tup cs => atL cs
  | .fn _ cs => atL cs
  | .view t _ es => frB t es.isEmpty ++ atE es
  | .eptr t cs => frB t false ++ atL cs
  | _ => []
def atL : List AV → List Nat
  | [] => []
  | c :: cs => atB c ++ atL cs
def atE : List (List AV) → List Nat
  | [] => []
  | e :: es => atL e ++ atE es
end
theorem at_any : atB .any = [] := by unfold atB; rfl
theorem at_int {k : IntKind} {n : Int} : atB (.int k n) = [] := by unfold atB; rfl
theorem at_bool {b : Bool} : atB (.bool b) = [] := by unfold atB; rfl
theorem at_str {b : ByteArray} : atB (.str b) = [] := by unfold atB; rfl
theorem at_own {id n : Nat} : atB (.own id n) = [] := by unfold atB; rfl
theorem at_ptr {bx : Bool} {sz n id i j : Nat} : atB (.ptr bx sz n id i j) = [] := by unfold atB; rfl
theorem at_rdr : atB .rdr = [] := by unfold atB; rfl
theorem at_agg {cs : List AV} : atB (.agg cs) = atL cs := by unfold atB; rfl
theorem at_tup {cs : List AV} : atB (.tup cs) = atL cs := by unfold atB; rfl
theorem at_fn {f : FuncId} {cs : List AV} : atB (.fn f cs) = atL cs := by unfold atB; rfl
theorem at_view {t : VC} {sz : Nat} {es : List (List AV)} : atB (.view t sz es) = frB t es.isEmpty ++ atE es := by conv => lhs; unfold atB
theorem atL_nil : atL [] = [] := by unfold atL; rfl
theorem atL_cons {c : AV} {cs : List AV} : atL (c :: cs) = atB c ++ atL cs := by conv => lhs; unfold atL
theorem atE_nil : atE [] = [] := by unfold atE; rfl
theorem atE_cons {e : List AV} {es : List (List AV)} : atE (e :: es) = atL e ++ atE es := by conv => lhs; unfold atE
section
variable {w : World} {ρ : Cx}
mutual
theorem Rep.at : ∀ {c : AV} {v : Value}, Rep w ρ c v → ∀ b ∈ atB c, ρ.S b ∧ ∀ o, w.frozen? ⟨b, o, none⟩ = false
  | .any, _, _, b, hb => by rw [at_any] at hb; cases hb
  | .int _ _, _, _, b, hb => by rw [at_int] at hb; cases hb
  | .bool _, _, _, b, hb => by rw [at_bool] at hb; cases hb
  | .str _, _, _, b, hb => by rw [at_str] at hb; cases hb
  | .own _ _, _, _, b, hb => by rw [at_own] at hb; cases hb
  | .ptr _ _ _ _ _ _, _, _, b, hb => by rw [at_ptr] at hb; cases hb
  | .rdr, _, _, b, hb => by rw [at_rdr] at hb; cases hb
  | .agg cs, _, h, b, hb => by
    rw [at_agg] at hb
    obtain ⟨vs, _, _, h3⟩ := rep_agg.1 h
    exact RepL.at h3 b hb
  | .tup cs, _, h, b, hb => by
    rw [at_tup] at hb
    obtain ⟨vs, _, h3⟩ := rep_tup.1 h
    exact RepL.at h3 b hb
  | .fn f cs, _, h, b, hb => by
    rw [at_fn] at hb
    obtain ⟨vs, _, h3⟩ := rep_fn.1 h
    exact RepL.at h3 b hb
  | .view t sz es, _, h, b, hb => by
    rw [at_view, List.mem_append] at hb
    obtain ⟨a, c, _, _, _, _, _, h6⟩ := rep_view.1 h
    rcases h6 with rfl | ⟨g, o, _, hg, he⟩
    · rcases hb with hb | hb
      · cases t <;> simp [frB] at hb
      · rw [atE_nil] at hb; cases hb
    · rcases hb with hb | hb
      · cases t <;> cases hem : es.isEmpty <;> rw [hem] at hb <;> simp [frB] at hb
        subst hb
        simp only [Cx.H] at hg
        obtain ⟨h1, rfl, h3⟩ := hg
        exact ⟨h1, h3⟩
      · exact RepE.at he b hb
  | .eptr t cs, _, h, b, hb => by
    unfold atB at hb
    rw [List.mem_append] at hb
    obtain ⟨g, o, _, hg, he⟩ := rep_eptr.1 h
    rcases hb with hb | hb
    · cases t <;> simp [frB] at hb
      subst hb
      simp only [Cx.H] at hg
      obtain ⟨h1, rfl, h3⟩ := hg
      exact ⟨h1, h3⟩
    · exact RepC.at he b hb
theorem RepL.at : ∀ {cs : List AV} {vs : List Value}, RepL w ρ cs vs → ∀ b ∈ atL cs, ρ.S b ∧ ∀ o, w.frozen? ⟨b, o, none⟩ = false
  | [], _, _, b, hb => by rw [atL_nil] at hb; cases hb
  | c :: cs, _, h, b, hb => by
    rw [atL_cons, List.mem_append] at hb
    unfold RepL at h
    obtain ⟨v, vs', _, h2, h3⟩ := h
    rcases hb with hb | hb
    · exact Rep.at h2 b hb
    · exact RepL.at h3 b hb
theorem RepC.at {g : Nat} : ∀ {cs : List AV} {o : Nat}, RepC w ρ g o cs → ∀ b ∈ atL cs, ρ.S b ∧ ∀ o, w.frozen? ⟨b, o, none⟩ = false
  | [], _, _, b, hb => by rw [atL_nil] at hb; cases hb
  | c :: cs, _, h, b, hb => by
    rw [atL_cons, List.mem_append] at hb
    unfold RepC at h
    obtain ⟨⟨v, _, _, h2⟩, h3⟩ := h
    rcases hb with hb | hb
    · exact Rep.at h2 b hb
    · exact RepC.at h3 b hb
theorem RepE.at {g : Nat} : ∀ {es : List (List AV)} {o : Nat}, RepE w ρ g o es → ∀ b ∈ atE es, ρ.S b ∧ ∀ o, w.frozen? ⟨b, o, none⟩ = false
  | [], _, _, b, hb => by rw [atE_nil] at hb; cases hb
  | e :: es, _, h, b, hb => by
    rw [atE_cons, List.mem_append] at hb
    unfold RepE at h
    rcases hb with hb | hb
    · exact RepC.at h.1 b hb
    · exact RepE.at h.2 b hb
end
end
def ACF (P : Program) (f : FuncId) (args : List AV) (c : Nat) (Post : AV → Prop) : Prop :=
  Enters P f ∧ ∀ (w : World) (L S : Nat → Prop) (rb : Option Nat) (k : Nat) (vs : List Value), (∀ b, L b → b < w.heap.size ∧ rb ≠ some b) → (∀ b, S b → b < w.heap.size) → (∀ b, rb = some b → ¬ S b ∧ RdOk w S b (k + c)) → RepL w (pureC L S rb) args vs →
    Calls P f vs.toArray w fun e w' => ∃ v r S', e = .returned v ∧ Ext (fun b => rb = some b) w w' ∧ (∀ b, S b → S' b) ∧ (∀ b, S' b → S b ∨ (w.heap.size ≤ b ∧ b < w'.heap.size)) ∧
      (∀ b, rb = some b → RdOk w' S' b k) ∧ Rep w' (pureC nil S' none) r v ∧ Post r ∧ ∀ b ∈ atB r, w.heap.size ≤ b
section
variable {P : Program} {f : FuncId} {args : List AV} {c : Nat} {Q R : AV → Prop}
theorem ACF.toV {A : Nat → Prop} (h : ACF P f args c Q) : ACV P A f args c (fun r => Q r ∧ ∀ b ∈ atB r, ¬ A b) :=
  ⟨h.1, fun w L S rb k vs hA h0 h1 h2 h3 => (h.2 w L S rb k vs h0 h1 h2 h3).mono fun e w' ⟨v, r, S', k1, k2, k3, k4, k5, k6, k7, k8⟩ => ⟨v, r, S', k1, k2, k3, k4, k5, k6, k7, fun b hb h => by have := hA b h; have := k8 b hb; omega⟩⟩
theorem ACF.mono (h : ACF P f args c Q) (hq : ∀ r, Q r → R r) : ACF P f args c R :=
  ⟨h.1, fun w L S rb k vs h0 h1 h2 h3 => (h.2 w L S rb k vs h0 h1 h2 h3).mono fun e w' ⟨v, r, S', k1, k2, k3, k4, k5, k6, k7, k8⟩ => ⟨v, r, S', k1, k2, k3, k4, k5, k6, hq r k7, k8⟩⟩
end
section
variable {P : Program} {T : Tab} {k0 : Nat} {md : List Nat} {Av : Nat → Prop} {ops : Array Oper} {K : ASt → Prop} {o : Oper} {l : List Oper} {s : ASt}
end
def endF (T : Tab) (fn : Func) (B : Nat) (Post : AV → Prop) : Exit → ASt → Prop
  | .normal, s | .ret, s => ∃ r, ares T s fn.results.toList = some r ∧ Pur r ∧ (∀ b ∈ atB r, B ≤ b) ∧ Post r
  | _, _ => False
structure W0.New (w0 : W0) : Prop where
  A : ∀ b, b < w0.wd.heap.size → w0.A b
  X : ∀ b, ¬ w0.X b
theorem ACF.of {P : Program} {T : Tab} (hT : Tab.Ok P T) (hm : P.follows .mixedOrders = true) {f : FuncId} {fn : Func} {code : Code} (hf : P.funcs[f]? = some fn) (hb : fn.body = some code) (hn : (fn.name == "runtime.NumGoroutine") = false)
    {args : List AV} {c : Nat} {Post : AV → Prop}
    (h : ∀ E : Env, E.P = P → E.T = T → E.w0.New → AW E code (endF T fn E.w0.wd.heap.size Post) (initSt args fn.ntmps (E.rd0.map fun _ => c))) : ACF P f args c Post := by
  refine ⟨enters_of hf hn (by rw [hb]; rfl), fun w L S rb k vs hL hS hr hargs => ?_⟩
  refine calls_of_wp hf hb ?_
  refine wp_mono (h ⟨P, T, hT, hm, W0.of w, S, rb, k⟩ rfl rfl ⟨fun _ h => h, fun _ h => h⟩ w _ (initC L S rb) (init_SR hL hS hr hargs)) ?_
  rintro e a' w' ⟨s', ρ', h1, h2⟩
  have fin : ∀ r, ares T s' fn.results.toList = some r → Pur r → (∀ b ∈ atB r, w.heap.size ≤ b) → Post r → a'.defers = [] ∧ ∃ v, (results fn a'.tmps).run P w' = .ok v w' ∧ ∃ v' r S', Ending.returned v = .returned v' ∧ Ext (fun b => rb = some b) w w' ∧ (∀ b, S b → S' b) ∧ (∀ b, S' b → S b ∨ (w.heap.size ≤ b ∧ b < w'.heap.size)) ∧
      (∀ b, rb = some b → RdOk w' S' b k) ∧ Rep w' (pureC nil S' none) r v' ∧ Post r ∧ ∀ b ∈ atB r, w.heap.size ≤ b := fun r hr hp hat hq => by
    obtain ⟨v, k1, k2⟩ := ares_ok hT h1 hr
    exact ⟨SR.df h1, v, k1, v, r, ρ'.S, rfl, SR.fin_ext h1, SR.s0 h1, SR.fin_S h1, SR.fin_rd h1, hp _ _ _ k2, hq, hat⟩
  cases e with
  | normal => obtain ⟨r, q1, q2, q3, q4⟩ := h2; exact fin r q1 q2 q3 q4
  | ret => obtain ⟨r, q1, q2, q3, q4⟩ := h2; exact fin r q1 q2 q3 q4
  | _ => exact h2.elim
section
variable {P : Program} {T : Tab} {hT : Tab.Ok P T} {hm : P.follows .mixedOrders = true} {w0 : W0} {S0 : Nat → Prop} {rd0 : Option Nat} {k0 : Nat} {Q : Exit → ASt → Prop} {s : ASt} {code : Code}
end
section
variable {P : Program} {w0 : W0} {S0 : Nat → Prop} {rd0 : Option Nat} {k0 : Nat} {w : World} {a : Act} {s : ASt} {ρ : Cx}
end
section
variable {P : Program} {T : Tab} {hT : Tab.Ok P T} {hm : P.follows .mixedOrders = true} {w0 : W0} {S0 : Nat → Prop} {rd0 : Option Nat} {k0 : Nat} {Q : Exit → ASt → Prop} {s : ASt} {code : Code}
end
def atRows (l : List (Nat × Row)) (b : Nat) : Prop := ∃ p ∈ l, b ∈ atE p.2.es
def ACM (P : Program) (f : FuncId) (args : List AV) (c : Nat) (Post : AV → List (Nat × Row) → Prop) : Prop :=
  ACGW P f args [] c (fun w r l => Post r l ∧ ∀ b, b ∈ atB r ∨ atRows l b → w.heap.size ≤ b)
theorem ACM.toV {P : Program} {A : Nat → Prop} {f : FuncId} {args : List AV} {c : Nat} {Q : AV → List (Nat × Row) → Prop} (h : ACM P f args c Q) : ACGV P A f args [] c (fun r l => Q r l ∧ ∀ b, b ∈ atB r ∨ atRows l b → ¬ A b) :=
  ⟨h.1, (fun p hp => by cases hp), fun w ρ k vs hA g0 g1 g2 g3 g4 g5 => (h.2.2 w ρ k vs g0 g1 g2 g3 g4 g5).mono fun e w' ⟨v, r, l, ρ', k1, k2, k3, k4, k5, k6, k7, k8, k9, k10, k11, k12⟩ => ⟨v, r, l, ρ', k1, k2, k3, k4, k5, k6, k7, k8, k9, k10, k11, fun b hb ha => by have := hA b ha; have := k12 b hb; omega⟩⟩
theorem ACM.of {P : Program} {T : Tab} (hT : Tab.Ok P T) (hm : P.follows .mixedOrders = true) {f : FuncId} {fn : Func} {code : Code} (hf : P.funcs[f]? = some fn) (hb : fn.body = some code) (hn : (fn.name == "runtime.NumGoroutine") = false)
    {args : List AV} {c : Nat} {Post : AV → List (Nat × Row) → Prop}
    (h : ∀ E : Env, E.P = P → E.T = T → E.w0.New → AW E code (endG T fn (fun r l => Post r l ∧ ∀ b, b ∈ atB r ∨ atRows l b → E.w0.wd.heap.size ≤ b)) (initStG args fn.ntmps [] (E.rd0.map fun _ => c))) : ACM P f args c Post :=
  ACGW.of hT hm hf hb hn (fun p hp => by cases hp) (fun E h1 h2 h3 h4 => h E h1 h2 ⟨h3, h4 rfl⟩)
section
variable {P : Program} {T : Tab} {k0 : Nat} {md : List Nat} {Av : Nat → Prop} {ops : Array Oper} {K : ASt → Prop} {o : Oper} {l : List Oper} {s : ASt}
end
end Go.Proofs.YtfjaobfaepjfnaaDoor.Eng
namespace Go.Proofs.YtfjaobfaepjfnaaDoor.Eng
open Go Go.RowKit
structure Lb where
  kind : Int
  num : Int
  text : ByteArray
  names : List ByteArray
  nb : Nat
  kids : List Lb
  kb : Nat
theorem Lb.ind' (P : Lb → Prop) (h : ∀ n : Lb, (∀ k ∈ n.kids, P k) → P n) : ∀ n, P n := by
  intro n
  refine Lb.rec (motive_1 := P) (motive_2 := fun l => ∀ k ∈ l, P k) ?_ ?_ ?_ n
  · intro kind num text names nb kids kb ih
    exact h _ ih
  · intro k hk; cases hk
  · intro k ks h1 h2 x hx
    rcases List.mem_cons.1 hx with rfl | hx
    · exact h1
    · exact h2 _ hx
mutual
def Lb.nd : Lb → Nd
  | ⟨kind, num, text, names, _, kids, _⟩ => ⟨kind, num, text, names, Lb.nds kids⟩
def Lb.nds : List Lb → List Nd
  | [] => []
  | k :: ks => Lb.nd k :: Lb.nds ks
end
mutual
def labL : Lb → List AV
  | ⟨kind, num, text, names, nb, kids, kb⟩ => [.int .i64 kind, .int .i64 num, .str text, .view (.fr nb) 1 (strsE names), .view (.fr kb) 5 (labsL kids)]
def labsL : List Lb → List (List AV)
  | [] => []
  | k :: ks => labL k :: labsL ks
end
def Lb.fp (n : Lb) : List Nat := atL (labL n)
section
variable {w : World} {ρ : Cx}
end
end Go.Proofs.YtfjaobfaepjfnaaDoor.Eng
-- EV: fresh
namespace Go.Proofs.YtfjaobfaepjfnaaDoor.Eng
open Go Go.RowKit
attribute [local simp] big size_mk ASt.pay Option.map_map Function.comp_def awant aop acall ado aev ofVal ofVal0 ASt.put ASt.add ASt.turn ASt.kill abox aalloc astore aload aloadD astoreD idOf ASt.at cellsTo afieldAddr afield aindexAddr aindex alen abin aint acmp astr aun apick aextract anil aslice abound abuild afill abuildSlice asCells aps avCells over upd aappend asrc amax amin aconv mkSt slots rowsOf_cons rowsOf_nil usedOf_cons usedOf_nil ZK.av List.replicate ASt.back ASt.addL ASt.killL nodeA nodeT nodeTL_eq nodeL_eq strsE_get strsE_len intsE_get intsE_len strsE_at intsE_at tab2 tab3 tab4 tab5 tab6 tab7 tab8 tab9 tab10 tab11 tab12 tab13 tab14 tab15 tab16 tab17 tab18 tab19 tab21 tab22 tab23 tab24 tab25 tab26 tab28 tab29 tab30 tab31 tab42 tab43 tab44 tab46 tab63 tab64 tab67 tab68 tab75 tab98 tab100 tab101 tab105 tab106 tab107 tab122 tab123 tab125 tab128 tab138 tab144 tab151 tab152 tab157 tab158 tab160 tab161 tab162
end Go.Proofs.YtfjaobfaepjfnaaDoor.Eng
-- EV: fresh
namespace Go.Proofs.YtfjaobfaepjfnaaDoor
open Go.RowKit
theorem openV_node {w : World} {S : Nat → Prop} {x : Nd} {v : Value} (h : RV nodeRep packA w S x v) : ∃ na nc ka kc, v = nodeV x na nc ka kc := by
  obtain ⟨na, nc, ka, kc, hv, _⟩ := node_open h
  exact ⟨na, nc, ka, kc, hv⟩
namespace Eng
theorem ACF.weak {P : Program} {f : FuncId} {args : List AV} {c : Nat} {Q : AV → Prop} (h : ACF P f args c (fun r => ∃ r', Wk r r' ∧ (∀ b ∈ atB r', b ∈ atB r) ∧ Q r')) : ACF P f args c Q :=
  ⟨h.1, fun w L S rb k vs h0 h1 h2 h3 => (h.2 w L S rb k vs h0 h1 h2 h3).mono fun e w' ⟨v, r, S', k1, k2, k3, k4, k5, k6, ⟨r', q1, q2, q3⟩, k8⟩ => ⟨v, r', S', k1, k2, k3, k4, k5, q1 _ _ _ k6, q3, fun b hb => k8 b (q2 b hb)⟩⟩
theorem arg_node {w : World} {n : Nd} {v : Value} (h : RV nodeRep packA w Go.Proofs.YtfjaobfaepjfnaaDoor.any n v) : Rep w (pureC nil (fun k => k < w.heap.size) none) (nodeA n) v := rep_of_node (node_open h.under)
theorem args1 {w : World} {ρ : Cx} {a : AV} {v : Value} (h : Rep w ρ a v) : RepL w ρ [a] [v] := by unfold RepL; exact ⟨_, _, rfl, h, by unfold RepL; rfl⟩
theorem args2 {w : World} {ρ : Cx} {a b : AV} {v u : Value} (h : Rep w ρ a v) (k : Rep w ρ b u) : RepL w ρ [a, b] [v, u] := by unfold RepL; exact ⟨_, _, rfl, h, args1 k⟩
end Eng
end Go.Proofs.YtfjaobfaepjfnaaDoor
namespace Go.Proofs.YtfjaobfaepjfnaaDoor.Eng
open Go Go.RowKit
attribute [local simp] big size_mk ASt.pay Option.map_map Function.comp_def awant aop acall ado aev ofVal ofVal0 ASt.put ASt.add ASt.turn ASt.kill abox aalloc astore aload aloadD astoreD idOf ASt.at cellsTo afieldAddr afield aindexAddr aindex alen abin aint acmp astr aun apick aextract anil aslice abound abuild afill abuildSlice asCells aps avCells over upd aappend asrc amax amin aconv mkSt slots rowsOf_cons rowsOf_nil usedOf_cons usedOf_nil ZK.av List.replicate ASt.back ASt.addL ASt.killL nodeA nodeT nodeTL_eq nodeL_eq strsE_get strsE_len intsE_get intsE_len strsE_at intsE_at tab2 tab3 tab4 tab5 tab6 tab7 tab8 tab9 tab10 tab11 tab12 tab13 tab14 tab15 tab16 tab17 tab18 tab19 tab21 tab22 tab23 tab24 tab25 tab26 tab28 tab29 tab30 tab31 tab42 tab43 tab44 tab46 tab63 tab64 tab67 tab68 tab75 tab98 tab100 tab101 tab105 tab106 tab107 tab122 tab123 tab125 tab128 tab138 tab144 tab151 tab152 tab157 tab158 tab160 tab161 tab162
def filE (f : Fil) : List AV := .view .loose 1 (strsE f.1) :: .int .i64 f.2.1 :: nodeL f.2.2
theorem filE_eq (f : Fil) : filE f = [.view .loose 1 (strsE f.1), .int .i64 f.2.1, .int .i64 f.2.2.kind, .int .i64 f.2.2.num, .str f.2.2.text, .view .loose 1 (strsE f.2.2.names), .view .loose 5 (f.2.2.kids.map nodeL)] := by unfold filE; rw [nodeL_eq]
def filA (f : Fil) : AV := .agg (filE f)
theorem filE_pur (f : Fil) : ∀ c ∈ filE f, Pur c := by
  intro c hc
  simp only [filE, List.mem_cons] at hc
  rcases hc with rfl | rfl | hc
  · exact strs_pur _ (by decide)
  · exact pur_int
  · exact nodeL_pur _ c hc
theorem filA_clo (f : Fil) : Clo (filA f) := (pur_agg (filE_pur f)).clo
def filB (f : Fil) : Bool := pathB f.1 && (decide (0 ≤ f.2.1) && (decide (f.2.1 ≤ 3) && validB f.2.2))
def tstB (t : Int) (z : Int) : Bool := if t = 1 then z == 0 else if t = 2 then decide (z < 0) else if t = 3 then decide (0 < z) else true
def mtB (n : Nd) (f : Fil) : Bool := match getS n f.1 with | none => false | some m => tstB f.2.1 (cmpN m f.2.2)
theorem mtB_none {n : Nd} {f : Fil} (h : getS n f.1 = none) : mtB n f = false := by unfold mtB; rw [h]
theorem mtB_some {n m : Nd} {f : Fil} (h : getS n f.1 = some m) : mtB n f = tstB f.2.1 (cmpN m f.2.2) := by unfold mtB; rw [h]
def matB (n : Nd) (f : Fil) : Bool := validB n && (filB f && mtB n f)
theorem arg_fil {w : World} {f : Fil} {v : Value} (h : RV filRep packA w Go.Proofs.YtfjaobfaepjfnaaDoor.any f v) : Rep w (pureC nil (fun k => k < w.heap.size) none) (filA f) v := by
  obtain ⟨pa, pc, na, nc, ka, kc, rfl, h1, h2⟩ := fil_open h.under
  obtain ⟨r1, r2, r3⟩ := nodeC_to_rep _ _ _ _ _ h2
  unfold filA filV
  rw [filE_eq]
  refine rep_agg.2 ⟨[_, _, _, _, _, _, _], rfl, ?_, ?_⟩
  · intro u hu
    simp only [List.mem_cons, List.not_mem_nil, or_false] at hu
    rcases hu with rfl | rfl | rfl | rfl | rfl | rfl | rfl <;> rfl
  · unfold RepL; refine ⟨_, _, rfl, strs_to_rep h1, ?_⟩
    unfold RepL; refine ⟨_, _, rfl, rep_int.2 rfl, ?_⟩
    unfold RepL; refine ⟨_, _, rfl, rep_int.2 rfl, ?_⟩
    unfold RepL; refine ⟨_, _, rfl, rep_int.2 rfl, ?_⟩
    unfold RepL; refine ⟨_, _, rfl, r1, ?_⟩
    unfold RepL; refine ⟨_, _, rfl, r2, ?_⟩
    unfold RepL; refine ⟨_, _, rfl, r3, ?_⟩
    unfold RepL; rfl
theorem ac_bool2 {P : Program} {f : FuncId} {args : List AV} {b : Bool} (h : AC P f args 0 (fun r => r = .bool b)) (w : World) (vs : List Value) (hargs : RepL w (pureC nil (fun k => k < w.heap.size) none) args vs) :
    Calls P f vs.toArray w fun e w' => e = .returned (.bool b) ∧ Grow w w' := by
  refine (h.2 w nil (fun k => k < w.heap.size) none 0 vs (fun _ h => h.elim) (fun _ h => h) (fun _ h => by cases h) hargs).mono ?_
  rintro e w' ⟨v, r, S', rfl, hx, hS1, hS2, _, hr, rfl⟩
  rw [rep_bool] at hr
  subst hr
  exact ⟨rfl, Grow.ofNone hx⟩
set_option maxRecDepth 100000
set_option maxHeartbeats 8000000
theorem inRange_AC (a b c : Int) : AC Tryd.prog 111 [.int .i64 a, .int .i64 b, .int .i64 c] 0 (fun r => r = .bool (inR a b c)) := by
  refine AC.ofGrow (enters_of Tryd.func111 (by kernel_rfl) (by kernel_rfl)) (fun w L S rb vs h => ?_)
  unfold RepL at h
  obtain ⟨v0, vs0, rfl, h0, h⟩ := h
  unfold RepL at h
  obtain ⟨v1, vs1, rfl, h1, h⟩ := h
  unfold RepL at h
  obtain ⟨v2, vs2, rfl, h2, h⟩ := h
  unfold RepL at h
  subst h
  rw [rep_int] at h0 h1 h2
  subst h0 h1 h2
  refine (inRange_ok a b c w).mono ?_
  rintro e w' ⟨rfl, rfl⟩
  exact ⟨_, _, rfl, Ext.refl _ _, rep_bool.2 rfl, rfl⟩
theorem isFilter_AC (f : Fil) : AC Tryd.prog 86 [filA f] 0 (fun r => r = .bool (filB f)) := by
  have p1 := isPath_AC f.1 .loose
  have p2 := ValidNode_AC f.2.2 .loose
  have hcn := node_clo f.2.2
  unfold filB filA
  rw [filE_eq]
  unfold nodeA at hcn
  rw [nodeL_eq] at hcn
  generalize pathB f.1 = b1 at *
  generalize validB f.2.2 = b2 at *
  refine AC.of tab_ok mixed_ok Tryd.func86 (by rfl) (by kernel_rfl) ?_; rintro ⟨P, T, hT, hm, w0, S0, rd0, k0⟩ hP hTT; dsimp only at hP hTT; subst hP hTT; unfold initSt; rw [Tryd.ntmps86]
  by_cases h1 : 0 ≤ f.2.1 <;> by_cases h2 : f.2.1 ≤ 3 <;> cases b1
  all_goals
    (repeat (first | with_reducible refine AW.seq ?_ | ((first | refine arun_kn 4 rfl (fun C hC => ?_) | refine arunD_kn 4 rfl (fun C hC => ?_)); (repeat ((conv => whnf); simp [h1, h2])); refine hC _ ?_; clear hC C; simp only [List.drop, Nat.reduceAdd]) | ((first | refine arun_kn 1 rfl (fun C hC => ?_) | refine arunD_kn 1 rfl (fun C hC => ?_)); (repeat ((conv => whnf); simp [h1, h2])); refine hC _ ?_; clear hC C; simp only [List.drop, Nat.reduceAdd]) | (refine arun_skip ?_ ?_; (focus (simp [awant, h1, h2]; done))) | (refine arun_c0 (p1) ?_; rintro _ rfl) | (refine arun_c0 (p2) ?_; rintro _ rfl) | (refine AW.regionK [] (fun K hK => ?_)) | (refine AW.regionDK [] (pcs [] []) (by kernel_rfl) (by kernel_rfl) (fun K hK => ?_)) | (refine AW.condT ?_ ?_; (focus (simp [aev, h1, h2]; done))) | (refine AW.condF ?_ ?_; (focus (simp [aev, h1, h2]; done))) | with_reducible refine AW.block ?_ | ((first | ((first | refine arun_nil ?_ | refine arunD_nil ?_); refine hK _ ?_; clear hK K) | refine AW.skip ?_ | refine AW.exit ?_ | refine AW.ret ?_); simp only [thenA_exit, inBlockA_exit, if_true, if_false, Nat.reduceEqDiff, thenA_normal, inBlockA_normal, reduceIte, thenA_ret, inBlockA_ret, endQ_ret, endR_ret, endG_ret, endQ_normal, endR_normal, endG_normal])))
    exact ⟨_, by simp [ares, aresL, upd, rowsOf_cons, h1, h2], pur_bool, rfl⟩
theorem validFilter_AC (f : Fil) : AC Tryd.prog 84 [filA f] 0 (fun r => r = .bool (filB f)) := by
  have p1 := validPath_AC f.1 .loose
  have p2 := validNode_AC f.2.2 .loose
  have p3 := inRange_AC f.2.1 0 3
  have hcn := node_clo f.2.2
  unfold filB filA
  rw [filE_eq]
  unfold nodeA at hcn
  rw [nodeL_eq] at hcn
  generalize pathB f.1 = b1 at *
  generalize validB f.2.2 = b2 at *
  have e : (decide (0 ≤ f.2.1) && (decide (f.2.1 ≤ 3) && b2)) = (inR f.2.1 0 3 && b2) := by unfold inR; rw [Bool.and_assoc]
  rw [e]
  generalize inR f.2.1 0 3 = b3 at *
  refine AC.of tab_ok mixed_ok Tryd.func84 (by rfl) (by kernel_rfl) ?_; rintro ⟨P, T, hT, hm, w0, S0, rd0, k0⟩ hP hTT; dsimp only at hP hTT; subst hP hTT; unfold initSt; rw [Tryd.ntmps84]
  cases b1 <;> cases b3
  all_goals
    (repeat (first | with_reducible refine AW.seq ?_ | ((first | refine arun_kn 4 rfl (fun C hC => ?_) | refine arunD_kn 4 rfl (fun C hC => ?_)); (repeat ((conv => whnf); simp)); refine hC _ ?_; clear hC C; simp only [List.drop, Nat.reduceAdd]) | ((first | refine arun_kn 1 rfl (fun C hC => ?_) | refine arunD_kn 1 rfl (fun C hC => ?_)); (repeat ((conv => whnf); simp)); refine hC _ ?_; clear hC C; simp only [List.drop, Nat.reduceAdd]) | (refine arun_skip ?_ ?_; (focus (simp [awant]; done))) | (refine arun_c0 (p1) ?_; rintro _ rfl) | (refine arun_c0 (p2) ?_; rintro _ rfl) | (refine arun_c0 (p3) ?_; rintro _ rfl) | (refine AW.regionK [] (fun K hK => ?_)) | (refine AW.regionDK [] (pcs [] []) (by kernel_rfl) (by kernel_rfl) (fun K hK => ?_)) | (refine AW.condT ?_ ?_; (focus (simp [aev]; done))) | (refine AW.condF ?_ ?_; (focus (simp [aev]; done))) | with_reducible refine AW.block ?_ | ((first | ((first | refine arun_nil ?_ | refine arunD_nil ?_); refine hK _ ?_; clear hK K) | refine AW.skip ?_ | refine AW.exit ?_ | refine AW.ret ?_); simp only [thenA_exit, inBlockA_exit, if_true, if_false, Nat.reduceEqDiff, thenA_normal, inBlockA_normal, reduceIte, thenA_ret, inBlockA_ret, endQ_ret, endR_ret, endG_ret, endQ_normal, endR_normal, endG_normal])))
    exact ⟨_, by simp [ares, aresL, upd, rowsOf_cons], pur_bool, rfl⟩
theorem matches_AC (n : Nd) (f : Fil) (h1 : Shp n) (h2 : pathB f.1 = true) (h3 : Shp f.2.2) : AC Tryd.prog 85 [nodeA n, filA f] 0 (fun r => r = .bool (mtB n f)) := by
  have hpl : f.1.length ≤ 1000 := by unfold pathB at h2; simp at h2; omega
  have p1 := at_AC .loose n f.1 h1 hpl
  have hcn := node_clo n
  have hcv := node_clo f.2.2
  have hcp : Clo (.view .loose 1 (strsE f.1)) := strs_clo _
  unfold filA
  rw [filE_eq]
  unfold nodeA at p1 hcn hcv ⊢
  rw [nodeL_eq n] at p1 hcn ⊢
  rw [nodeL_eq f.2.2] at hcv
  cases hg : getS n f.1 with
  | none =>
    rw [mtB_none hg]
    rw [hg] at p1
    unfold optA at p1
    have hz : nodeA ((none : Option Nd).getD Nd.zero) = .agg (nodeL Nd.zero) := rfl
    rw [hz, zeroA, Option.isSome_none] at p1
    refine AC.of tab_ok mixed_ok Tryd.func85 (by rfl) (by kernel_rfl) ?_; rintro ⟨P, T, hT, hm, w0, S0, rd0, k0⟩ hP hTT; dsimp only at hP hTT; subst hP hTT; unfold initSt; rw [Tryd.ntmps85]
    (repeat (first | with_reducible refine AW.seq ?_ | ((first | refine arun_kn 4 rfl (fun C hC => ?_) | refine arunD_kn 4 rfl (fun C hC => ?_)); (repeat ((conv => whnf); simp)); refine hC _ ?_; clear hC C; simp only [List.drop, Nat.reduceAdd]) | ((first | refine arun_kn 1 rfl (fun C hC => ?_) | refine arunD_kn 1 rfl (fun C hC => ?_)); (repeat ((conv => whnf); simp)); refine hC _ ?_; clear hC C; simp only [List.drop, Nat.reduceAdd]) | (refine arun_skip ?_ ?_; (focus (simp [awant]; done))) | (refine arun_c0 (p1) ?_; rintro _ rfl) | (refine AW.regionK [] (fun K hK => ?_)) | (refine AW.regionDK [] (pcs [] []) (by kernel_rfl) (by kernel_rfl) (fun K hK => ?_)) | (refine AW.condT ?_ ?_; (focus (simp [aev]; done))) | (refine AW.condF ?_ ?_; (focus (simp [aev]; done))) | with_reducible refine AW.block ?_ | ((first | ((first | refine arun_nil ?_ | refine arunD_nil ?_); refine hK _ ?_; clear hK K) | refine AW.skip ?_ | refine AW.exit ?_ | refine AW.ret ?_); simp only [thenA_exit, inBlockA_exit, if_true, if_false, Nat.reduceEqDiff, thenA_normal, inBlockA_normal, reduceIte, thenA_ret, inBlockA_ret, endQ_ret, endR_ret, endG_ret, endQ_normal, endR_normal, endG_normal])))
    exact ⟨.bool false, by simp [ares, aresL, upd, rowsOf_cons], pur_bool, rfl⟩
  | some m =>
    have hm := getS_shp f.1 n m h1 hg
    rw [mtB_some hg]
    rw [hg] at p1
    unfold optA at p1
    have hz : nodeA ((some m : Option Nd).getD Nd.zero) = .agg (nodeL m) := rfl
    rw [hz, nodeL_eq, Option.isSome_some] at p1
    have p2 := specSame_AC m f.2.2 hm h3
    have p3 := specCompare_AC m f.2.2 hm h3
    have hcm := node_clo m
    unfold nodeA at p2 p3 hcm
    rw [nodeL_eq m, nodeL_eq f.2.2] at p2 p3
    rw [nodeL_eq m] at hcm
    generalize cmpN m f.2.2 = z at *
    refine AC.of tab_ok mixed_ok Tryd.func85 (by rfl) (by kernel_rfl) ?_; rintro ⟨P, T, hT, hm, w0, S0, rd0, k0⟩ hP hTT; dsimp only at hP hTT; subst hP hTT; unfold initSt; rw [Tryd.ntmps85]
    by_cases t1 : f.2.1 = 1
    · have b1 : (f.2.1 == 1) = true := by simpa using t1
      (repeat (first | with_reducible refine AW.seq ?_ | ((first | refine arun_kn 4 rfl (fun C hC => ?_) | refine arunD_kn 4 rfl (fun C hC => ?_)); (repeat ((conv => whnf); simp [b1])); refine hC _ ?_; clear hC C; simp only [List.drop, Nat.reduceAdd]) | ((first | refine arun_kn 1 rfl (fun C hC => ?_) | refine arunD_kn 1 rfl (fun C hC => ?_)); (repeat ((conv => whnf); simp [b1])); refine hC _ ?_; clear hC C; simp only [List.drop, Nat.reduceAdd]) | (refine arun_skip ?_ ?_; (focus (simp [awant, b1]; done))) | (refine arun_c0 (p1) ?_; rintro _ rfl) | (refine arun_c0 (p2) ?_; rintro _ rfl) | (refine arun_c0 (p3) ?_; rintro _ rfl) | (refine AW.regionK [] (fun K hK => ?_)) | (refine AW.regionDK [] (pcs [] []) (by kernel_rfl) (by kernel_rfl) (fun K hK => ?_)) | (refine AW.condT ?_ ?_; (focus (simp [aev, b1]; done))) | (refine AW.condF ?_ ?_; (focus (simp [aev, b1]; done))) | with_reducible refine AW.block ?_ | ((first | ((first | refine arun_nil ?_ | refine arunD_nil ?_); refine hK _ ?_; clear hK K) | refine AW.skip ?_ | refine AW.exit ?_ | refine AW.ret ?_); simp only [thenA_exit, inBlockA_exit, if_true, if_false, Nat.reduceEqDiff, thenA_normal, inBlockA_normal, reduceIte, thenA_ret, inBlockA_ret, endQ_ret, endR_ret, endG_ret, endQ_normal, endR_normal, endG_normal])))
      exact ⟨.bool (z == 0), by simp [ares, aresL, upd, rowsOf_cons], pur_bool, by simp [tstB, t1]⟩
    have e1 : (f.2.1 == 1) = false := by simpa using t1
    by_cases t2 : f.2.1 = 2
    · have b2 : (f.2.1 == 2) = true := by simpa using t2
      (repeat (first | with_reducible refine AW.seq ?_ | ((first | refine arun_kn 4 rfl (fun C hC => ?_) | refine arunD_kn 4 rfl (fun C hC => ?_)); (repeat ((conv => whnf); simp [e1, b2])); refine hC _ ?_; clear hC C; simp only [List.drop, Nat.reduceAdd]) | ((first | refine arun_kn 1 rfl (fun C hC => ?_) | refine arunD_kn 1 rfl (fun C hC => ?_)); (repeat ((conv => whnf); simp [e1, b2])); refine hC _ ?_; clear hC C; simp only [List.drop, Nat.reduceAdd]) | (refine arun_skip ?_ ?_; (focus (simp [awant, e1, b2]; done))) | (refine arun_c0 (p1) ?_; rintro _ rfl) | (refine arun_c0 (p2) ?_; rintro _ rfl) | (refine arun_c0 (p3) ?_; rintro _ rfl) | (refine AW.regionK [] (fun K hK => ?_)) | (refine AW.regionDK [] (pcs [] []) (by kernel_rfl) (by kernel_rfl) (fun K hK => ?_)) | (refine AW.condT ?_ ?_; (focus (simp [aev, e1, b2]; done))) | (refine AW.condF ?_ ?_; (focus (simp [aev, e1, b2]; done))) | with_reducible refine AW.block ?_ | ((first | ((first | refine arun_nil ?_ | refine arunD_nil ?_); refine hK _ ?_; clear hK K) | refine AW.skip ?_ | refine AW.exit ?_ | refine AW.ret ?_); simp only [thenA_exit, inBlockA_exit, if_true, if_false, Nat.reduceEqDiff, thenA_normal, inBlockA_normal, reduceIte, thenA_ret, inBlockA_ret, endQ_ret, endR_ret, endG_ret, endQ_normal, endR_normal, endG_normal])))
      exact ⟨.bool (decide (z < 0)), by simp [ares, aresL, upd, rowsOf_cons], pur_bool, by simp [tstB, t2]⟩
    have e2 : (f.2.1 == 2) = false := by simpa using t2
    by_cases t3 : f.2.1 = 3
    · have b3 : (f.2.1 == 3) = true := by simpa using t3
      (repeat (first | with_reducible refine AW.seq ?_ | ((first | refine arun_kn 4 rfl (fun C hC => ?_) | refine arunD_kn 4 rfl (fun C hC => ?_)); (repeat ((conv => whnf); simp [e1, e2, b3])); refine hC _ ?_; clear hC C; simp only [List.drop, Nat.reduceAdd]) | ((first | refine arun_kn 1 rfl (fun C hC => ?_) | refine arunD_kn 1 rfl (fun C hC => ?_)); (repeat ((conv => whnf); simp [e1, e2, b3])); refine hC _ ?_; clear hC C; simp only [List.drop, Nat.reduceAdd]) | (refine arun_skip ?_ ?_; (focus (simp [awant, e1, e2, b3]; done))) | (refine arun_c0 (p1) ?_; rintro _ rfl) | (refine arun_c0 (p2) ?_; rintro _ rfl) | (refine arun_c0 (p3) ?_; rintro _ rfl) | (refine AW.regionK [] (fun K hK => ?_)) | (refine AW.regionDK [] (pcs [] []) (by kernel_rfl) (by kernel_rfl) (fun K hK => ?_)) | (refine AW.condT ?_ ?_; (focus (simp [aev, e1, e2, b3]; done))) | (refine AW.condF ?_ ?_; (focus (simp [aev, e1, e2, b3]; done))) | with_reducible refine AW.block ?_ | ((first | ((first | refine arun_nil ?_ | refine arunD_nil ?_); refine hK _ ?_; clear hK K) | refine AW.skip ?_ | refine AW.exit ?_ | refine AW.ret ?_); simp only [thenA_exit, inBlockA_exit, if_true, if_false, Nat.reduceEqDiff, thenA_normal, inBlockA_normal, reduceIte, thenA_ret, inBlockA_ret, endQ_ret, endR_ret, endG_ret, endQ_normal, endR_normal, endG_normal])))
      exact ⟨.bool (decide (0 < z)), by simp [ares, aresL, upd, rowsOf_cons], pur_bool, by simp [tstB, t3]⟩
    have e3 : (f.2.1 == 3) = false := by simpa using t3
    (repeat (first | with_reducible refine AW.seq ?_ | ((first | refine arun_kn 4 rfl (fun C hC => ?_) | refine arunD_kn 4 rfl (fun C hC => ?_)); (repeat ((conv => whnf); simp [e1, e2, e3])); refine hC _ ?_; clear hC C; simp only [List.drop, Nat.reduceAdd]) | ((first | refine arun_kn 1 rfl (fun C hC => ?_) | refine arunD_kn 1 rfl (fun C hC => ?_)); (repeat ((conv => whnf); simp [e1, e2, e3])); refine hC _ ?_; clear hC C; simp only [List.drop, Nat.reduceAdd]) | (refine arun_skip ?_ ?_; (focus (simp [awant, e1, e2, e3]; done))) | (refine arun_c0 (p1) ?_; rintro _ rfl) | (refine arun_c0 (p2) ?_; rintro _ rfl) | (refine arun_c0 (p3) ?_; rintro _ rfl) | (refine AW.regionK [] (fun K hK => ?_)) | (refine AW.regionDK [] (pcs [] []) (by kernel_rfl) (by kernel_rfl) (fun K hK => ?_)) | (refine AW.condT ?_ ?_; (focus (simp [aev, e1, e2, e3]; done))) | (refine AW.condF ?_ ?_; (focus (simp [aev, e1, e2, e3]; done))) | with_reducible refine AW.block ?_ | ((first | ((first | refine arun_nil ?_ | refine arunD_nil ?_); refine hK _ ?_; clear hK K) | refine AW.skip ?_ | refine AW.exit ?_ | refine AW.ret ?_); simp only [thenA_exit, inBlockA_exit, if_true, if_false, Nat.reduceEqDiff, thenA_normal, inBlockA_normal, reduceIte, thenA_ret, inBlockA_ret, endQ_ret, endR_ret, endG_ret, endQ_normal, endR_normal, endG_normal])))
    exact ⟨.bool true, by simp [ares, aresL, upd, rowsOf_cons], pur_bool, by simp [tstB, t1, t2, t3]⟩
theorem filB_parts {f : Fil} (h : filB f = true) : pathB f.1 = true ∧ validB f.2.2 = true := by
  unfold filB at h
  simp only [Bool.and_eq_true] at h
  exact ⟨h.1, h.2.2.2⟩
theorem specMatchFilter_AC (n : Nd) (f : Fil) : AC Tryd.prog 44 [nodeA n, filA f] 0 (fun r => r = .bool (matB n f)) := by
  have p1 := validNode_AC n .loose
  have p2 := validFilter_AC f
  have hcn := node_clo n
  have hcf := filA_clo f
  unfold matB
  unfold filA at p2 hcf ⊢
  rw [filE_eq] at p2 hcf ⊢
  unfold nodeA at hcn ⊢
  rw [nodeL_eq n] at hcn ⊢
  cases h1 : validB n <;> rw [h1] at p1
  · refine AC.of tab_ok mixed_ok Tryd.func44 (by rfl) (by kernel_rfl) ?_; rintro ⟨P, T, hT, hm, w0, S0, rd0, k0⟩ hP hTT; dsimp only at hP hTT; subst hP hTT; unfold initSt; rw [Tryd.ntmps44]
    (repeat (first | with_reducible refine AW.seq ?_ | ((first | refine arun_kn 4 rfl (fun C hC => ?_) | refine arunD_kn 4 rfl (fun C hC => ?_)); (repeat ((conv => whnf); simp)); refine hC _ ?_; clear hC C; simp only [List.drop, Nat.reduceAdd]) | ((first | refine arun_kn 1 rfl (fun C hC => ?_) | refine arunD_kn 1 rfl (fun C hC => ?_)); (repeat ((conv => whnf); simp)); refine hC _ ?_; clear hC C; simp only [List.drop, Nat.reduceAdd]) | (refine arun_skip ?_ ?_; (focus (simp [awant]; done))) | (refine arun_c0 (p1) ?_; rintro _ rfl) | (refine arun_c0 (p2) ?_; rintro _ rfl) | (refine AW.regionK [] (fun K hK => ?_)) | (refine AW.regionDK [] (pcs [] []) (by kernel_rfl) (by kernel_rfl) (fun K hK => ?_)) | (refine AW.condT ?_ ?_; (focus (simp [aev]; done))) | (refine AW.condF ?_ ?_; (focus (simp [aev]; done))) | with_reducible refine AW.block ?_ | ((first | ((first | refine arun_nil ?_ | refine arunD_nil ?_); refine hK _ ?_; clear hK K) | refine AW.skip ?_ | refine AW.exit ?_ | refine AW.ret ?_); simp only [thenA_exit, inBlockA_exit, if_true, if_false, Nat.reduceEqDiff, thenA_normal, inBlockA_normal, reduceIte, thenA_ret, inBlockA_ret, endQ_ret, endR_ret, endG_ret, endQ_normal, endR_normal, endG_normal])))
    exact ⟨.bool false, by simp [ares, aresL, upd, rowsOf_cons], pur_bool, rfl⟩
  cases h2 : filB f <;> rw [h2] at p2
  · refine AC.of tab_ok mixed_ok Tryd.func44 (by rfl) (by kernel_rfl) ?_; rintro ⟨P, T, hT, hm, w0, S0, rd0, k0⟩ hP hTT; dsimp only at hP hTT; subst hP hTT; unfold initSt; rw [Tryd.ntmps44]
    (repeat (first | with_reducible refine AW.seq ?_ | ((first | refine arun_kn 4 rfl (fun C hC => ?_) | refine arunD_kn 4 rfl (fun C hC => ?_)); (repeat ((conv => whnf); simp)); refine hC _ ?_; clear hC C; simp only [List.drop, Nat.reduceAdd]) | ((first | refine arun_kn 1 rfl (fun C hC => ?_) | refine arunD_kn 1 rfl (fun C hC => ?_)); (repeat ((conv => whnf); simp)); refine hC _ ?_; clear hC C; simp only [List.drop, Nat.reduceAdd]) | (refine arun_skip ?_ ?_; (focus (simp [awant]; done))) | (refine arun_c0 (p1) ?_; rintro _ rfl) | (refine arun_c0 (p2) ?_; rintro _ rfl) | (refine AW.regionK [] (fun K hK => ?_)) | (refine AW.regionDK [] (pcs [] []) (by kernel_rfl) (by kernel_rfl) (fun K hK => ?_)) | (refine AW.condT ?_ ?_; (focus (simp [aev]; done))) | (refine AW.condF ?_ ?_; (focus (simp [aev]; done))) | with_reducible refine AW.block ?_ | ((first | ((first | refine arun_nil ?_ | refine arunD_nil ?_); refine hK _ ?_; clear hK K) | refine AW.skip ?_ | refine AW.exit ?_ | refine AW.ret ?_); simp only [thenA_exit, inBlockA_exit, if_true, if_false, Nat.reduceEqDiff, thenA_normal, inBlockA_normal, reduceIte, thenA_ret, inBlockA_ret, endQ_ret, endR_ret, endG_ret, endQ_normal, endR_normal, endG_normal])))
    exact ⟨.bool false, by simp [ares, aresL, upd, rowsOf_cons], pur_bool, rfl⟩
  have p3 := matches_AC n f (Shp.of h1) (filB_parts h2).1 (Shp.of (filB_parts h2).2)
  unfold filA nodeA at p3
  rw [filE_eq, nodeL_eq n] at p3
  generalize mtB n f = b at *
  refine AC.of tab_ok mixed_ok Tryd.func44 (by rfl) (by kernel_rfl) ?_; rintro ⟨P, T, hT, hm, w0, S0, rd0, k0⟩ hP hTT; dsimp only at hP hTT; subst hP hTT; unfold initSt; rw [Tryd.ntmps44]
  (repeat (first | with_reducible refine AW.seq ?_ | ((first | refine arun_kn 4 rfl (fun C hC => ?_) | refine arunD_kn 4 rfl (fun C hC => ?_)); (repeat ((conv => whnf); simp)); refine hC _ ?_; clear hC C; simp only [List.drop, Nat.reduceAdd]) | ((first | refine arun_kn 1 rfl (fun C hC => ?_) | refine arunD_kn 1 rfl (fun C hC => ?_)); (repeat ((conv => whnf); simp)); refine hC _ ?_; clear hC C; simp only [List.drop, Nat.reduceAdd]) | (refine arun_skip ?_ ?_; (focus (simp [awant]; done))) | (refine arun_c0 (p1) ?_; rintro _ rfl) | (refine arun_c0 (p2) ?_; rintro _ rfl) | (refine arun_c0 (p3) ?_; rintro _ rfl) | (refine AW.regionK [] (fun K hK => ?_)) | (refine AW.regionDK [] (pcs [] []) (by kernel_rfl) (by kernel_rfl) (fun K hK => ?_)) | (refine AW.condT ?_ ?_; (focus (simp [aev]; done))) | (refine AW.condF ?_ ?_; (focus (simp [aev]; done))) | with_reducible refine AW.block ?_ | ((first | ((first | refine arun_nil ?_ | refine arunD_nil ?_); refine hK _ ?_; clear hK K) | refine AW.skip ?_ | refine AW.exit ?_ | refine AW.ret ?_); simp only [thenA_exit, inBlockA_exit, if_true, if_false, Nat.reduceEqDiff, thenA_normal, inBlockA_normal, reduceIte, thenA_ret, inBlockA_ret, endQ_ret, endR_ret, endG_ret, endQ_normal, endR_normal, endG_normal])))
  exact ⟨.bool b, by simp [ares, aresL, upd, rowsOf_cons], pur_bool, by simp⟩
theorem MatchFilter_AC (n : Nd) (f : Fil) : AC Tryd.prog 46 [nodeA n, filA f] 0 (fun r => r = .bool (matB n f)) := by
  have p1 := ValidNode_AC n .loose
  have p2 := isFilter_AC f
  have hcn := node_clo n
  have hcf := filA_clo f
  have hcv := node_clo f.2.2
  have hcp : Clo (.view .loose 1 (strsE f.1)) := strs_clo _
  unfold matB
  unfold filA at p2 hcf ⊢
  rw [filE_eq] at p2 hcf ⊢
  unfold nodeA at hcn hcv ⊢
  rw [nodeL_eq n] at hcn ⊢
  rw [nodeL_eq f.2.2] at hcv
  cases h1 : validB n <;> rw [h1] at p1
  · refine AC.of tab_ok mixed_ok Tryd.func46 (by rfl) (by kernel_rfl) ?_; rintro ⟨P, T, hT, hm, w0, S0, rd0, k0⟩ hP hTT; dsimp only at hP hTT; subst hP hTT; unfold initSt; rw [Tryd.ntmps46]
    (repeat (first | with_reducible refine AW.seq ?_ | ((first | refine arun_kn 4 rfl (fun C hC => ?_) | refine arunD_kn 4 rfl (fun C hC => ?_)); (repeat ((conv => whnf); simp)); refine hC _ ?_; clear hC C; simp only [List.drop, Nat.reduceAdd]) | ((first | refine arun_kn 1 rfl (fun C hC => ?_) | refine arunD_kn 1 rfl (fun C hC => ?_)); (repeat ((conv => whnf); simp)); refine hC _ ?_; clear hC C; simp only [List.drop, Nat.reduceAdd]) | (refine arun_skip ?_ ?_; (focus (simp [awant]; done))) | (refine arun_c0 (p1) ?_; rintro _ rfl) | (refine arun_c0 (p2) ?_; rintro _ rfl) | (refine AW.regionK [] (fun K hK => ?_)) | (refine AW.regionDK [] (pcs [] []) (by kernel_rfl) (by kernel_rfl) (fun K hK => ?_)) | (refine AW.condT ?_ ?_; (focus (simp [aev]; done))) | (refine AW.condF ?_ ?_; (focus (simp [aev]; done))) | with_reducible refine AW.block ?_ | ((first | ((first | refine arun_nil ?_ | refine arunD_nil ?_); refine hK _ ?_; clear hK K) | refine AW.skip ?_ | refine AW.exit ?_ | refine AW.ret ?_); simp only [thenA_exit, inBlockA_exit, if_true, if_false, Nat.reduceEqDiff, thenA_normal, inBlockA_normal, reduceIte, thenA_ret, inBlockA_ret, endQ_ret, endR_ret, endG_ret, endQ_normal, endR_normal, endG_normal])))
    exact ⟨.bool false, by simp [ares, aresL, upd, rowsOf_cons], pur_bool, rfl⟩
  cases h2 : filB f <;> rw [h2] at p2
  · refine AC.of tab_ok mixed_ok Tryd.func46 (by rfl) (by kernel_rfl) ?_; rintro ⟨P, T, hT, hm, w0, S0, rd0, k0⟩ hP hTT; dsimp only at hP hTT; subst hP hTT; unfold initSt; rw [Tryd.ntmps46]
    (repeat (first | with_reducible refine AW.seq ?_ | ((first | refine arun_kn 4 rfl (fun C hC => ?_) | refine arunD_kn 4 rfl (fun C hC => ?_)); (repeat ((conv => whnf); simp)); refine hC _ ?_; clear hC C; simp only [List.drop, Nat.reduceAdd]) | ((first | refine arun_kn 1 rfl (fun C hC => ?_) | refine arunD_kn 1 rfl (fun C hC => ?_)); (repeat ((conv => whnf); simp)); refine hC _ ?_; clear hC C; simp only [List.drop, Nat.reduceAdd]) | (refine arun_skip ?_ ?_; (focus (simp [awant]; done))) | (refine arun_c0 (p1) ?_; rintro _ rfl) | (refine arun_c0 (p2) ?_; rintro _ rfl) | (refine AW.regionK [] (fun K hK => ?_)) | (refine AW.regionDK [] (pcs [] []) (by kernel_rfl) (by kernel_rfl) (fun K hK => ?_)) | (refine AW.condT ?_ ?_; (focus (simp [aev]; done))) | (refine AW.condF ?_ ?_; (focus (simp [aev]; done))) | with_reducible refine AW.block ?_ | ((first | ((first | refine arun_nil ?_ | refine arunD_nil ?_); refine hK _ ?_; clear hK K) | refine AW.skip ?_ | refine AW.exit ?_ | refine AW.ret ?_); simp only [thenA_exit, inBlockA_exit, if_true, if_false, Nat.reduceEqDiff, thenA_normal, inBlockA_normal, reduceIte, thenA_ret, inBlockA_ret, endQ_ret, endR_ret, endG_ret, endQ_normal, endR_normal, endG_normal])))
    exact ⟨.bool false, by simp [ares, aresL, upd, rowsOf_cons], pur_bool, rfl⟩
  have s1 := Shp.of h1
  have s2 := Shp.of (filB_parts h2).2
  have hpb := (filB_parts h2).1
  have hpl : f.1.length ≤ 1000 := by unfold pathB at hpb; simp at hpb; omega
  have p3 := findNode_AC .loose n f.1 s1 hpl
  unfold nodeA at p3
  rw [nodeL_eq n] at p3
  cases hg : getS n f.1 with
  | none =>
    rw [mtB_none hg]
    rw [hg] at p3
    unfold optA at p3
    have hz : nodeA ((none : Option Nd).getD Nd.zero) = .agg (nodeL Nd.zero) := rfl
    rw [hz, zeroA, Option.isSome_none] at p3
    refine AC.of tab_ok mixed_ok Tryd.func46 (by rfl) (by kernel_rfl) ?_; rintro ⟨P, T, hT, hm, w0, S0, rd0, k0⟩ hP hTT; dsimp only at hP hTT; subst hP hTT; unfold initSt; rw [Tryd.ntmps46]
    (repeat (first | with_reducible refine AW.seq ?_ | ((first | refine arun_kn 4 rfl (fun C hC => ?_) | refine arunD_kn 4 rfl (fun C hC => ?_)); (repeat ((conv => whnf); simp)); refine hC _ ?_; clear hC C; simp only [List.drop, Nat.reduceAdd]) | ((first | refine arun_kn 1 rfl (fun C hC => ?_) | refine arunD_kn 1 rfl (fun C hC => ?_)); (repeat ((conv => whnf); simp)); refine hC _ ?_; clear hC C; simp only [List.drop, Nat.reduceAdd]) | (refine arun_skip ?_ ?_; (focus (simp [awant]; done))) | (refine arun_c0 (p1) ?_; rintro _ rfl) | (refine arun_c0 (p2) ?_; rintro _ rfl) | (refine arun_c0 (p3) ?_; rintro _ rfl) | (refine AW.regionK [] (fun K hK => ?_)) | (refine AW.regionDK [] (pcs [] []) (by kernel_rfl) (by kernel_rfl) (fun K hK => ?_)) | (refine AW.condT ?_ ?_; (focus (simp [aev]; done))) | (refine AW.condF ?_ ?_; (focus (simp [aev]; done))) | with_reducible refine AW.block ?_ | ((first | ((first | refine arun_nil ?_ | refine arunD_nil ?_); refine hK _ ?_; clear hK K) | refine AW.skip ?_ | refine AW.exit ?_ | refine AW.ret ?_); simp only [thenA_exit, inBlockA_exit, if_true, if_false, Nat.reduceEqDiff, thenA_normal, inBlockA_normal, reduceIte, thenA_ret, inBlockA_ret, endQ_ret, endR_ret, endG_ret, endQ_normal, endR_normal, endG_normal])))
    exact ⟨.bool false, by simp [ares, aresL, upd, rowsOf_cons], pur_bool, rfl⟩
  | some m =>
    have hm := getS_shp f.1 n m s1 hg
    rw [mtB_some hg]
    rw [hg] at p3
    unfold optA at p3
    have hz : nodeA ((some m : Option Nd).getD Nd.zero) = .agg (nodeL m) := rfl
    rw [hz, nodeL_eq, Option.isSome_some] at p3
    have p4 := compareValid_AC m f.2.2 hm s2
    have hcm := node_clo m
    unfold nodeA at p4 hcm
    rw [nodeL_eq m, nodeL_eq f.2.2] at p4
    rw [nodeL_eq m] at hcm
    generalize cmpN m f.2.2 = z at *
    refine AC.of tab_ok mixed_ok Tryd.func46 (by rfl) (by kernel_rfl) ?_; rintro ⟨P, T, hT, hm, w0, S0, rd0, k0⟩ hP hTT; dsimp only at hP hTT; subst hP hTT; unfold initSt; rw [Tryd.ntmps46]
    by_cases t1 : f.2.1 = 1
    · have b1 : (f.2.1 == 1) = true := by simpa using t1
      (repeat (first | with_reducible refine AW.seq ?_ | ((first | refine arun_kn 4 rfl (fun C hC => ?_) | refine arunD_kn 4 rfl (fun C hC => ?_)); (repeat ((conv => whnf); simp [b1])); refine hC _ ?_; clear hC C; simp only [List.drop, Nat.reduceAdd]) | ((first | refine arun_kn 1 rfl (fun C hC => ?_) | refine arunD_kn 1 rfl (fun C hC => ?_)); (repeat ((conv => whnf); simp [b1])); refine hC _ ?_; clear hC C; simp only [List.drop, Nat.reduceAdd]) | (refine arun_skip ?_ ?_; (focus (simp [awant, b1]; done))) | (refine arun_c0 (p1) ?_; rintro _ rfl) | (refine arun_c0 (p2) ?_; rintro _ rfl) | (refine arun_c0 (p3) ?_; rintro _ rfl) | (refine arun_c0 (p4) ?_; rintro _ rfl) | (refine AW.regionK [] (fun K hK => ?_)) | (refine AW.regionDK [] (pcs [] []) (by kernel_rfl) (by kernel_rfl) (fun K hK => ?_)) | (refine AW.condT ?_ ?_; (focus (simp [aev, b1]; done))) | (refine AW.condF ?_ ?_; (focus (simp [aev, b1]; done))) | with_reducible refine AW.block ?_ | ((first | ((first | refine arun_nil ?_ | refine arunD_nil ?_); refine hK _ ?_; clear hK K) | refine AW.skip ?_ | refine AW.exit ?_ | refine AW.ret ?_); simp only [thenA_exit, inBlockA_exit, if_true, if_false, Nat.reduceEqDiff, thenA_normal, inBlockA_normal, reduceIte, thenA_ret, inBlockA_ret, endQ_ret, endR_ret, endG_ret, endQ_normal, endR_normal, endG_normal])))
      exact ⟨.bool (z == 0), by simp [ares, aresL, upd, rowsOf_cons], pur_bool, by simp [tstB, t1]⟩
    have e1 : (f.2.1 == 1) = false := by simpa using t1
    by_cases t2 : f.2.1 = 2
    · have b2 : (f.2.1 == 2) = true := by simpa using t2
      (repeat (first | with_reducible refine AW.seq ?_ | ((first | refine arun_kn 4 rfl (fun C hC => ?_) | refine arunD_kn 4 rfl (fun C hC => ?_)); (repeat ((conv => whnf); simp [e1, b2])); refine hC _ ?_; clear hC C; simp only [List.drop, Nat.reduceAdd]) | ((first | refine arun_kn 1 rfl (fun C hC => ?_) | refine arunD_kn 1 rfl (fun C hC => ?_)); (repeat ((conv => whnf); simp [e1, b2])); refine hC _ ?_; clear hC C; simp only [List.drop, Nat.reduceAdd]) | (refine arun_skip ?_ ?_; (focus (simp [awant, e1, b2]; done))) | (refine arun_c0 (p1) ?_; rintro _ rfl) | (refine arun_c0 (p2) ?_; rintro _ rfl) | (refine arun_c0 (p3) ?_; rintro _ rfl) | (refine arun_c0 (p4) ?_; rintro _ rfl) | (refine AW.regionK [] (fun K hK => ?_)) | (refine AW.regionDK [] (pcs [] []) (by kernel_rfl) (by kernel_rfl) (fun K hK => ?_)) | (refine AW.condT ?_ ?_; (focus (simp [aev, e1, b2]; done))) | (refine AW.condF ?_ ?_; (focus (simp [aev, e1, b2]; done))) | with_reducible refine AW.block ?_ | ((first | ((first | refine arun_nil ?_ | refine arunD_nil ?_); refine hK _ ?_; clear hK K) | refine AW.skip ?_ | refine AW.exit ?_ | refine AW.ret ?_); simp only [thenA_exit, inBlockA_exit, if_true, if_false, Nat.reduceEqDiff, thenA_normal, inBlockA_normal, reduceIte, thenA_ret, inBlockA_ret, endQ_ret, endR_ret, endG_ret, endQ_normal, endR_normal, endG_normal])))
      exact ⟨.bool (decide (z < 0)), by simp [ares, aresL, upd, rowsOf_cons], pur_bool, by simp [tstB, t2]⟩
    have e2 : (f.2.1 == 2) = false := by simpa using t2
    by_cases t3 : f.2.1 = 3
    · have b3 : (f.2.1 == 3) = true := by simpa using t3
      (repeat (first | with_reducible refine AW.seq ?_ | ((first | refine arun_kn 4 rfl (fun C hC => ?_) | refine arunD_kn 4 rfl (fun C hC => ?_)); (repeat ((conv => whnf); simp [e1, e2, b3])); refine hC _ ?_; clear hC C; simp only [List.drop, Nat.reduceAdd]) | ((first | refine arun_kn 1 rfl (fun C hC => ?_) | refine arunD_kn 1 rfl (fun C hC => ?_)); (repeat ((conv => whnf); simp [e1, e2, b3])); refine hC _ ?_; clear hC C; simp only [List.drop, Nat.reduceAdd]) | (refine arun_skip ?_ ?_; (focus (simp [awant, e1, e2, b3]; done))) | (refine arun_c0 (p1) ?_; rintro _ rfl) | (refine arun_c0 (p2) ?_; rintro _ rfl) | (refine arun_c0 (p3) ?_; rintro _ rfl) | (refine arun_c0 (p4) ?_; rintro _ rfl) | (refine AW.regionK [] (fun K hK => ?_)) | (refine AW.regionDK [] (pcs [] []) (by kernel_rfl) (by kernel_rfl) (fun K hK => ?_)) | (refine AW.condT ?_ ?_; (focus (simp [aev, e1, e2, b3]; done))) | (refine AW.condF ?_ ?_; (focus (simp [aev, e1, e2, b3]; done))) | with_reducible refine AW.block ?_ | ((first | ((first | refine arun_nil ?_ | refine arunD_nil ?_); refine hK _ ?_; clear hK K) | refine AW.skip ?_ | refine AW.exit ?_ | refine AW.ret ?_); simp only [thenA_exit, inBlockA_exit, if_true, if_false, Nat.reduceEqDiff, thenA_normal, inBlockA_normal, reduceIte, thenA_ret, inBlockA_ret, endQ_ret, endR_ret, endG_ret, endQ_normal, endR_normal, endG_normal])))
      exact ⟨.bool (decide (0 < z)), by simp [ares, aresL, upd, rowsOf_cons], pur_bool, by simp [tstB, t3]⟩
    have e3 : (f.2.1 == 3) = false := by simpa using t3
    (repeat (first | with_reducible refine AW.seq ?_ | ((first | refine arun_kn 4 rfl (fun C hC => ?_) | refine arunD_kn 4 rfl (fun C hC => ?_)); (repeat ((conv => whnf); simp [e1, e2, e3])); refine hC _ ?_; clear hC C; simp only [List.drop, Nat.reduceAdd]) | ((first | refine arun_kn 1 rfl (fun C hC => ?_) | refine arunD_kn 1 rfl (fun C hC => ?_)); (repeat ((conv => whnf); simp [e1, e2, e3])); refine hC _ ?_; clear hC C; simp only [List.drop, Nat.reduceAdd]) | (refine arun_skip ?_ ?_; (focus (simp [awant, e1, e2, e3]; done))) | (refine arun_c0 (p1) ?_; rintro _ rfl) | (refine arun_c0 (p2) ?_; rintro _ rfl) | (refine arun_c0 (p3) ?_; rintro _ rfl) | (refine arun_c0 (p4) ?_; rintro _ rfl) | (refine AW.regionK [] (fun K hK => ?_)) | (refine AW.regionDK [] (pcs [] []) (by kernel_rfl) (by kernel_rfl) (fun K hK => ?_)) | (refine AW.condT ?_ ?_; (focus (simp [aev, e1, e2, e3]; done))) | (refine AW.condF ?_ ?_; (focus (simp [aev, e1, e2, e3]; done))) | with_reducible refine AW.block ?_ | ((first | ((first | refine arun_nil ?_ | refine arunD_nil ?_); refine hK _ ?_; clear hK K) | refine AW.skip ?_ | refine AW.exit ?_ | refine AW.ret ?_); simp only [thenA_exit, inBlockA_exit, if_true, if_false, Nat.reduceEqDiff, thenA_normal, inBlockA_normal, reduceIte, thenA_ret, inBlockA_ret, endQ_ret, endR_ret, endG_ret, endQ_normal, endR_normal, endG_normal])))
    exact ⟨.bool true, by simp [ares, aresL, upd, rowsOf_cons], pur_bool, by simp [tstB, t1, t2, t3]⟩
end Go.Proofs.YtfjaobfaepjfnaaDoor.Eng
namespace Go.Proofs.YtfjaobfaepjfnaaDoor
open Go.RowKit
theorem implMatchFilter_ok (n : Nd) (f : Fil) (v u : Value) (w : World) (h : RV nodeRep packA w any n v) (k : RV filRep packA w any f u) :
    Calls Tryd.prog 46 #[v, u] w fun e w' => e = .returned (.bool (Eng.matB n f)) ∧ Grow w w' :=
  Eng.ac_bool2 (Eng.MatchFilter_AC n f) w [v, u] (Eng.args2 (Eng.arg_node h) (Eng.arg_fil k))
theorem specMatchFilter_ok (n : Nd) (f : Fil) (v u : Value) (w : World) (h : RV nodeRep packA w any n v) (k : RV filRep packA w any f u) :
    Calls Tryd.prog 44 #[v, u] w fun e w' => e = .returned (.bool (Eng.matB n f)) ∧ Grow w w' :=
  Eng.ac_bool2 (Eng.specMatchFilter_AC n f) w [v, u] (Eng.args2 (Eng.arg_node h) (Eng.arg_fil k))
end Go.Proofs.YtfjaobfaepjfnaaDoor
namespace Go.Proofs.YtfjaobfaepjfnaaDoor
open Go.RowKit
def lawMatR (n : Nd) (f : Fil) (w : World) (v : Value) : Prop := v = .bool (Eng.matB n f)
theorem lawMatR_grow {n : Nd} {f : Fil} {w w' : World} {v : Value} (h : lawMatR n f w v) (hg : Grow w w') : lawMatR n f w' v := h
theorem lawMat_big (n : Nd) (f : Fil) (v0 : Value) (v1 : Value) (w : World) (h0 : RV nodeRep packA w any n v0) (h1 : RV filRep packA w any f v1) (hbig : ¬ costN n + costFil f ≤ 1048576) :
    Calls Tryd.prog 8 #[v0, v1] w fun e w' => e = .returned (.bool true) ∧ Grow w w' := by
  have HV0 := Lib.hid h0
  have HV1 := Lib.hid h1
  obtain ⟨na0, nc0, ka0, kc0, rfl⟩ := openV_node h0
  obtain ⟨pa1, pc1, na1, nc1, ka1, kc1, rfl⟩ := openV_fil h1
  clear h0 h1
  unfold filV nodeV at *
  by_cases c0 : (costN n : Int) ≤ 1048576
  rotate_left
  ·
    have Hs0 := Lib.hid (szR_neg (c := costN n) (left := 1048576) (by omega))
    clear c0 hbig
    have HB0 := Lib.hid ((BoxN.new w [.int .i64 n.kind, .int .i64 n.num, .string n.text, .slice na0 n.names.length nc0, .slice ka0 n.kids.length kc0] 44).grow ((Ext.refl nil _).alloc (.cells ([.slice pa1 f.1.length pc1, .int .i64 f.2.1, .int .i64 f.2.2.kind, .int .i64 f.2.2.num, .string f.2.2.text, .slice na1 f.2.2.names.length nc1, .slice ka1 f.2.2.kids.length kc1] : List Value).toArray 64)))
    have HB1 := Lib.hid (BoxN.new1 w (.cells ([.int .i64 n.kind, .int .i64 n.num, .string n.text, .slice na0 n.names.length nc0, .slice ka0 n.kids.length kc0] : List Value).toArray 44) [.slice pa1 f.1.length pc1, .int .i64 f.2.1, .int .i64 f.2.2.kind, .int .i64 f.2.2.num, .string f.2.2.text, .slice na1 f.2.2.names.length nc1, .slice ka1 f.2.2.kids.length kc1] 64)
    go_enter Tryd.func8, Tryd.ntmps8
    go_wp2_with fail
    refine (uSzN n _ _ _ (by omega) (by omega) (HV0.out.grow (by repeat (first | with_reducible exact Ext.refl _ _ | with_reducible refine Ext.trans ?_ (by assumption) | with_reducible refine Ext.drew ?_ | with_reducible refine Ext.drewN ?_ _ | with_reducible refine Ext.alloc ?_ _ | with_reducible refine Ext.setNew ?_ (by simp; done) _ | with_reducible refine Ext.setNew ?_ (by simp; omega) _)))).mono ?_
    rintro e w1 ⟨rfl, hg1⟩
    simp only [Hs0.out]
    have z1 := hg1.size
    try simp only [World.size_alloc] at z1
    go_wp2_with fail
    go_ret
    exact ⟨by simp, (by repeat (first | with_reducible exact Ext.refl _ _ | with_reducible refine Ext.trans ?_ (by assumption) | with_reducible refine Ext.drew ?_ | with_reducible refine Ext.drewN ?_ _ | with_reducible refine Ext.alloc ?_ _ | with_reducible refine Ext.setNew ?_ (by simp; done) _ | with_reducible refine Ext.setNew ?_ (by simp; omega) _))⟩
  have Hs0 := Lib.hid (szR_pos (c := costN n) (left := 1048576) (by omega))
  by_cases c1 : (costFil f : Int) ≤ 1048576 - costN n
  rotate_left
  ·
    have Hs1 := Lib.hid (szR_neg (c := costFil f) (left := 1048576 - costN n) (by omega))
    clear c1 hbig
    have HB0 := Lib.hid ((BoxN.new w [.int .i64 n.kind, .int .i64 n.num, .string n.text, .slice na0 n.names.length nc0, .slice ka0 n.kids.length kc0] 44).grow ((Ext.refl nil _).alloc (.cells ([.slice pa1 f.1.length pc1, .int .i64 f.2.1, .int .i64 f.2.2.kind, .int .i64 f.2.2.num, .string f.2.2.text, .slice na1 f.2.2.names.length nc1, .slice ka1 f.2.2.kids.length kc1] : List Value).toArray 64)))
    have HB1 := Lib.hid (BoxN.new1 w (.cells ([.int .i64 n.kind, .int .i64 n.num, .string n.text, .slice na0 n.names.length nc0, .slice ka0 n.kids.length kc0] : List Value).toArray 44) [.slice pa1 f.1.length pc1, .int .i64 f.2.1, .int .i64 f.2.2.kind, .int .i64 f.2.2.num, .string f.2.2.text, .slice na1 f.2.2.names.length nc1, .slice ka1 f.2.2.kids.length kc1] 64)
    go_enter Tryd.func8, Tryd.ntmps8
    go_wp2_with fail
    refine (uSzN n _ _ _ (by omega) (by omega) (HV0.out.grow (by repeat (first | with_reducible exact Ext.refl _ _ | with_reducible refine Ext.trans ?_ (by assumption) | with_reducible refine Ext.drew ?_ | with_reducible refine Ext.drewN ?_ _ | with_reducible refine Ext.alloc ?_ _ | with_reducible refine Ext.setNew ?_ (by simp; done) _ | with_reducible refine Ext.setNew ?_ (by simp; omega) _)))).mono ?_
    rintro e w1 ⟨rfl, hg1⟩
    simp only [Hs0.out]
    have z1 := hg1.size
    try simp only [World.size_alloc] at z1
    have pB := HB1.out.grow (w' := w1) (by repeat (first | with_reducible exact Ext.refl _ _ | with_reducible refine Ext.trans ?_ (by assumption) | with_reducible refine Ext.drew ?_ | with_reducible refine Ext.drewN ?_ _ | with_reducible refine Ext.alloc ?_ _ | with_reducible refine Ext.setNew ?_ (by simp; done) _ | with_reducible refine Ext.setNew ?_ (by simp; omega) _))
    have p0 := pB.cell 0 _ rfl; have p1 := pB.cell 1 _ rfl; have p2 := pB.cell 2 _ rfl; have p3 := pB.cell 3 _ rfl; have p4 := pB.cell 4 _ rfl; have p5 := pB.cell 5 _ rfl; have p6 := pB.cell 6 _ rfl
    go_wp2_with fail
    refine (uSzFil f _ _ _ (by omega) (by omega) (HV1.out.grow (by repeat (first | with_reducible exact Ext.refl _ _ | with_reducible refine Ext.trans ?_ (by assumption) | with_reducible refine Ext.drew ?_ | with_reducible refine Ext.drewN ?_ _ | with_reducible refine Ext.alloc ?_ _ | with_reducible refine Ext.setNew ?_ (by simp; done) _ | with_reducible refine Ext.setNew ?_ (by simp; omega) _)))).mono ?_
    rintro e w2 ⟨rfl, hg2⟩
    simp only [Hs1.out]
    have z2 := hg2.size
    try simp only [World.size_alloc] at z2
    clear p0 p1 p2 p3 p4 p5 p6 pB
    go_wp2_with fail
    go_ret
    exact ⟨by simp, (by repeat (first | with_reducible exact Ext.refl _ _ | with_reducible refine Ext.trans ?_ (by assumption) | with_reducible refine Ext.drew ?_ | with_reducible refine Ext.drewN ?_ _ | with_reducible refine Ext.alloc ?_ _ | with_reducible refine Ext.setNew ?_ (by simp; done) _ | with_reducible refine Ext.setNew ?_ (by simp; omega) _))⟩
  have Hs1 := Lib.hid (szR_pos (c := costFil f) (left := 1048576 - costN n) (by omega))
  omega
theorem lawMat_main (n : Nd) (f : Fil) (v0 : Value) (v1 : Value) (w : World) (h0 : RV nodeRep packA w any n v0) (h1 : RV filRep packA w any f v1) (hcost : costN n + costFil f ≤ 1048576) :
    Calls Tryd.prog 8 #[v0, v1] w fun e w' => e = .returned (.bool true) ∧ Grow w w' := by
  have HV0 := Lib.hid h0
  have HV1 := Lib.hid h1
  obtain ⟨na0, nc0, ka0, kc0, rfl⟩ := openV_node h0
  obtain ⟨pa1, pc1, na1, nc1, ka1, kc1, rfl⟩ := openV_fil h1
  clear h0 h1
  unfold filV nodeV at *
  have Hs0 := Lib.hid (szR_pos (c := costN n) (left := 1048576) (by omega))
  have Hs1 := Lib.hid (szR_pos (c := costFil f) (left := 1048576 - costN n) (by omega))
  have C0 : Hid (costN n ≤ 1048576) := Lib.hid (by omega)
  have C1 : Hid (costFil f ≤ 1048576) := Lib.hid (by omega)
  have HB0 := Lib.hid ((BoxN.new w [.int .i64 n.kind, .int .i64 n.num, .string n.text, .slice na0 n.names.length nc0, .slice ka0 n.kids.length kc0] 44).grow ((Ext.refl nil _).alloc (.cells ([.slice pa1 f.1.length pc1, .int .i64 f.2.1, .int .i64 f.2.2.kind, .int .i64 f.2.2.num, .string f.2.2.text, .slice na1 f.2.2.names.length nc1, .slice ka1 f.2.2.kids.length kc1] : List Value).toArray 64)))
  have HB1 := Lib.hid (BoxN.new1 w (.cells ([.int .i64 n.kind, .int .i64 n.num, .string n.text, .slice na0 n.names.length nc0, .slice ka0 n.kids.length kc0] : List Value).toArray 44) [.slice pa1 f.1.length pc1, .int .i64 f.2.1, .int .i64 f.2.2.kind, .int .i64 f.2.2.num, .string f.2.2.text, .slice na1 f.2.2.names.length nc1, .slice ka1 f.2.2.kids.length kc1] 64)
  go_enter Tryd.func8, Tryd.ntmps8
  go_wp2_with fail
  refine (uSzN n _ _ _ (by omega) (by omega) (HV0.out.grow (by repeat (first | with_reducible exact Ext.refl _ _ | with_reducible refine Ext.trans ?_ (by assumption) | with_reducible refine Ext.drew ?_ | with_reducible refine Ext.drewN ?_ _ | with_reducible refine Ext.alloc ?_ _ | with_reducible refine Ext.setNew ?_ (by simp; done) _ | with_reducible refine Ext.setNew ?_ (by simp; omega) _)))).mono ?_
  rintro e w1 ⟨rfl, hg1⟩
  simp only [Hs0.out]
  have z1 := hg1.size
  try simp only [World.size_alloc] at z1
  have pB := HB1.out.grow (w' := w1) (by repeat (first | with_reducible exact Ext.refl _ _ | with_reducible refine Ext.trans ?_ (by assumption) | with_reducible refine Ext.drew ?_ | with_reducible refine Ext.drewN ?_ _ | with_reducible refine Ext.alloc ?_ _ | with_reducible refine Ext.setNew ?_ (by simp; done) _ | with_reducible refine Ext.setNew ?_ (by simp; omega) _))
  have p0 := pB.cell 0 _ rfl; have p1 := pB.cell 1 _ rfl; have p2 := pB.cell 2 _ rfl; have p3 := pB.cell 3 _ rfl; have p4 := pB.cell 4 _ rfl; have p5 := pB.cell 5 _ rfl; have p6 := pB.cell 6 _ rfl
  go_wp2_with fail
  refine (uSzFil f _ _ _ (by omega) (by omega) (HV1.out.grow (by repeat (first | with_reducible exact Ext.refl _ _ | with_reducible refine Ext.trans ?_ (by assumption) | with_reducible refine Ext.drew ?_ | with_reducible refine Ext.drewN ?_ _ | with_reducible refine Ext.alloc ?_ _ | with_reducible refine Ext.setNew ?_ (by simp; done) _ | with_reducible refine Ext.setNew ?_ (by simp; omega) _)))).mono ?_
  rintro e w2 ⟨rfl, hg2⟩
  simp only [Hs1.out]
  have z2 := hg2.size
  try simp only [World.size_alloc] at z2
  clear p0 p1 p2 p3 p4 p5 p6 pB
  go_wp2_with fail
  have pB := HB0.out.grow (w' := w2) (by repeat (first | with_reducible exact Ext.refl _ _ | with_reducible refine Ext.trans ?_ (by assumption) | with_reducible refine Ext.drew ?_ | with_reducible refine Ext.drewN ?_ _ | with_reducible refine Ext.alloc ?_ _ | with_reducible refine Ext.setNew ?_ (by simp; done) _ | with_reducible refine Ext.setNew ?_ (by simp; omega) _))
  have p0 := pB.cell 0 _ rfl; have p1 := pB.cell 1 _ rfl; have p2 := pB.cell 2 _ rfl; have p3 := pB.cell 3 _ rfl; have p4 := pB.cell 4 _ rfl
  have qB := HB1.out.grow (w' := w2) (by repeat (first | with_reducible exact Ext.refl _ _ | with_reducible refine Ext.trans ?_ (by assumption) | with_reducible refine Ext.drew ?_ | with_reducible refine Ext.drewN ?_ _ | with_reducible refine Ext.alloc ?_ _ | with_reducible refine Ext.setNew ?_ (by simp; done) _ | with_reducible refine Ext.setNew ?_ (by simp; omega) _))
  have q0 := qB.cell 0 _ rfl; have q1 := qB.cell 1 _ rfl; have q2 := qB.cell 2 _ rfl; have q3 := qB.cell 3 _ rfl; have q4 := qB.cell 4 _ rfl; have q5 := qB.cell 5 _ rfl; have q6 := qB.cell 6 _ rfl
  refine wp_region_stab Grow (fun i => if i = 1 then some (fun v w' => RV nodeRep packA w' any n v) else if i = 3 then some (fun v w' => RV filRep packA w' any f v) else if i = 4 then some (fun v w' => lawMatR n f w' v) else none) (by kernel_rfl) (by kernel_rfl) ⟨Ext.refl nil, fun _ _ h1 h2 => h2.trans h1, ?_⟩ ?_
  · intro i V hV v w1 w2 hr hv
    by_cases q1 : i = 1
    · simp [q1] at hV; subst hV; exact RV.grow hv hr
    by_cases q3 : i = 3
    · simp [q3] at hV; subst hV; exact RV.grow hv hr
    by_cases q4 : i = 4
    · simp [q4] at hV; subst hV; exact lawMatR_grow hv hr
    simp [q1, q3, q4] at hV
  (repeat (refine wpStab_quiet (by kernel_rfl) (by kernel_rfl) (by simp; done) ?_; intro K hK; go_big_quiet_op; go_big_quiet_on))
  refine wpStab_made (fun v w' => RV nodeRep packA w' any n v) ?_ ?_ ?_ ?_
  · go_simp
  · simp
  · intro y _
    refine stabAt_call (f := 23) (args := #[.agg #[.int .i64 n.kind, .int .i64 n.num, .string n.text, .slice na0 n.names.length nc0, .slice ka0 n.kids.length kc0]]) ?_ ?_
    · go_simp
    · refine (uToN n _ _ C0.out (HV0.out.grow (((by repeat (first | with_reducible exact Ext.refl _ _ | with_reducible refine Ext.trans ?_ (by assumption) | with_reducible refine Ext.drew ?_ | with_reducible refine Ext.drewN ?_ _ | with_reducible refine Ext.alloc ?_ _ | with_reducible refine Ext.setNew ?_ (by simp; done) _ | with_reducible refine Ext.setNew ?_ (by simp; omega) _)) : Grow w w2).trans (later_grow _ _)))).mono ?_
      rintro e w' ⟨v', fp, rfl, hg, hF, _⟩
      exact ⟨_, rfl, hg, hF.rv⟩
  intro uu0
  go_frame
  (repeat (refine wpStab_quiet (by kernel_rfl) (by kernel_rfl) (by simp; done) ?_; intro K hK; go_big_quiet_op; go_big_quiet_on))
  refine wpStab_made (fun v w' => RV filRep packA w' any f v) ?_ ?_ ?_ ?_
  · go_simp
  · simp
  · intro y _
    refine stabAt_call (f := 45) (args := #[.agg #[.slice pa1 f.1.length pc1, .int .i64 f.2.1, .int .i64 f.2.2.kind, .int .i64 f.2.2.num, .string f.2.2.text, .slice na1 f.2.2.names.length nc1, .slice ka1 f.2.2.kids.length kc1]]) ?_ ?_
    · go_simp
    · refine (uToFil f _ _ C1.out (HV1.out.grow (((by repeat (first | with_reducible exact Ext.refl _ _ | with_reducible refine Ext.trans ?_ (by assumption) | with_reducible refine Ext.drew ?_ | with_reducible refine Ext.drewN ?_ _ | with_reducible refine Ext.alloc ?_ _ | with_reducible refine Ext.setNew ?_ (by simp; done) _ | with_reducible refine Ext.setNew ?_ (by simp; omega) _)) : Grow w w2).trans (later_grow _ _)))).mono ?_
      rintro e w' ⟨v', fp, rfl, hg, hF, _⟩
      exact ⟨_, rfl, hg, hF.rv⟩
  intro uu1
  go_frame
  refine wpStab_made (fun v w' => lawMatR n f w' v) ?_ ?_ ?_ ?_
  · go_simp
  · simp
  · intro y hE
    have K0 : RV nodeRep packA (later w2 y) any n uu0 := ((hE ⟨1, .data⟩ (by simp) (by decide)).1).2 rfl
    have K1 : RV filRep packA (later w2 y) any f uu1 := (hE ⟨3, .data⟩ (by simp) (by decide)).2 rfl
    refine stabAt_call (f := 44) (args := #[uu0, uu1]) ?_ ?_
    · go_simp
    · refine (specMatchFilter_ok n f _ _ _  K0 K1).mono ?_
      rintro e w' ⟨rfl, hg⟩
      exact ⟨_, rfl, hg, rfl⟩
  intro vvs
  go_frame
  first | (repeat (refine wpStab_quiet (by kernel_rfl) (by kernel_rfl) (by simp; done) ?_; intro K hK; go_big_quiet_op; go_big_quiet_on)) | skip
  refine wpStab_end' ?_
  intro w3 hg3 hE
  obtain rfl : lawMatR n f w3 vvs := (hE 4).2 rfl
  clear hE p0 p1 p2 p3 p4 pB q0 q1 q2 q3 q4 q5 q6 qB
  have z3 := hg3.size
  have hpB := HB0.out.grow (w' := w3) (by repeat (first | with_reducible exact Ext.refl _ _ | with_reducible refine Ext.trans ?_ (by assumption) | with_reducible refine Ext.drew ?_ | with_reducible refine Ext.drewN ?_ _ | with_reducible refine Ext.alloc ?_ _ | with_reducible refine Ext.setNew ?_ (by simp; done) _ | with_reducible refine Ext.setNew ?_ (by simp; omega) _))
  have p0 := hpB.cell 0 _ rfl; have p1 := hpB.cell 1 _ rfl; have p2 := hpB.cell 2 _ rfl; have p3 := hpB.cell 3 _ rfl; have p4 := hpB.cell 4 _ rfl; have pz := hpB.lt
  go_wp2_with fail
  refine (uToN n _ _ C0.out (HV0.out.grow (by repeat (first | with_reducible exact Ext.refl _ _ | with_reducible refine Ext.trans ?_ (by assumption) | with_reducible refine Ext.drew ?_ | with_reducible refine Ext.drewN ?_ _ | with_reducible refine Ext.alloc ?_ _ | with_reducible refine Ext.setNew ?_ (by simp; done) _ | with_reducible refine Ext.setNew ?_ (by simp; omega) _)))).mono ?_
  rintro e w4 ⟨y0, f0, rfl, hg4, hF, hfr⟩
  have z4 := hg4.size
  try simp only [World.size_alloc] at z4
  try simp only [World.size_alloc] at hfr
  have F0 := Lib.hid hF
  have S0 := Lib.hid (Seg.of hfr)
  obtain ⟨nax0, ncx0, kax0, kcx0, rfl⟩ := openV_node hF.rv
  unfold nodeV at *
  clear hF hfr p0 p1 p2 p3 p4 hpB pz
  have HBx0 := Lib.hid (BoxN.new w4 [.int .i64 n.kind, .int .i64 n.num, .string n.text, .slice nax0 n.names.length ncx0, .slice kax0 n.kids.length kcx0] 26)
  have hpB := HB1.out.grow (w' := w4) (by repeat (first | with_reducible exact Ext.refl _ _ | with_reducible refine Ext.trans ?_ (by assumption) | with_reducible refine Ext.drew ?_ | with_reducible refine Ext.drewN ?_ _ | with_reducible refine Ext.alloc ?_ _ | with_reducible refine Ext.setNew ?_ (by simp; done) _ | with_reducible refine Ext.setNew ?_ (by simp; omega) _))
  have p0 := hpB.cell 0 _ rfl; have p1 := hpB.cell 1 _ rfl; have p2 := hpB.cell 2 _ rfl; have p3 := hpB.cell 3 _ rfl; have p4 := hpB.cell 4 _ rfl; have p5 := hpB.cell 5 _ rfl; have p6 := hpB.cell 6 _ rfl; have pz := hpB.lt
  go_wp2_with fail
  refine (uToFil f _ _ C1.out (HV1.out.grow (by repeat (first | with_reducible exact Ext.refl _ _ | with_reducible refine Ext.trans ?_ (by assumption) | with_reducible refine Ext.drew ?_ | with_reducible refine Ext.drewN ?_ _ | with_reducible refine Ext.alloc ?_ _ | with_reducible refine Ext.setNew ?_ (by simp; done) _ | with_reducible refine Ext.setNew ?_ (by simp; omega) _)))).mono ?_
  rintro e w5 ⟨y1, f1, rfl, hg5, hF, hfr⟩
  have z5 := hg5.size
  try simp only [World.size_alloc] at z5
  try simp only [World.size_alloc] at hfr
  have F1 := Lib.hid hF
  have S1 := Lib.hid (Seg.of hfr)
  obtain ⟨pax1, pcx1, nax1, ncx1, kax1, kcx1, rfl⟩ := openV_fil hF.rv
  unfold filV at *
  clear hF hfr p0 p1 p2 p3 p4 p5 p6 hpB pz
  have HBx1 := Lib.hid (BoxN.new w5 [.slice pax1 f.1.length pcx1, .int .i64 f.2.1, .int .i64 f.2.2.kind, .int .i64 f.2.2.num, .string f.2.2.text, .slice nax1 f.2.2.names.length ncx1, .slice kax1 f.2.2.kids.length kcx1] 68)
  have pB0 := HBx0.out.grow (w' := w5) (by repeat (first | with_reducible exact Ext.refl _ _ | with_reducible refine Ext.trans ?_ (by assumption) | with_reducible refine Ext.drew ?_ | with_reducible refine Ext.drewN ?_ _ | with_reducible refine Ext.alloc ?_ _ | with_reducible refine Ext.setNew ?_ (by simp; done) _ | with_reducible refine Ext.setNew ?_ (by simp; omega) _))
  have p0 := pB0.cell 0 _ rfl; have p1 := pB0.cell 1 _ rfl; have p2 := pB0.cell 2 _ rfl; have p3 := pB0.cell 3 _ rfl; have p4 := pB0.cell 4 _ rfl; have pz := pB0.lt
  go_wp2_with fail
  refine (implMatchFilter_ok n f _ _ _  (F0.out.rv.grow (by repeat (first | with_reducible exact Ext.refl _ _ | with_reducible refine Ext.trans ?_ (by assumption) | with_reducible refine Ext.drew ?_ | with_reducible refine Ext.drewN ?_ _ | with_reducible refine Ext.alloc ?_ _ | with_reducible refine Ext.setNew ?_ (by simp; done) _ | with_reducible refine Ext.setNew ?_ (by simp; omega) _))) (F1.out.rv.grow (by repeat (first | with_reducible exact Ext.refl _ _ | with_reducible refine Ext.trans ?_ (by assumption) | with_reducible refine Ext.drew ?_ | with_reducible refine Ext.drewN ?_ _ | with_reducible refine Ext.alloc ?_ _ | with_reducible refine Ext.setNew ?_ (by simp; done) _ | with_reducible refine Ext.setNew ?_ (by simp; omega) _)))).mono ?_
  rintro e w6 ⟨rfl, hg6⟩
  have z6 := hg6.size
  try simp only [World.size_alloc] at z6
  clear p0 p1 p2 p3 p4 pB0 pz
  go_wp2_with fail
  have pB := HBx0.out.grow (w' := w6) (by repeat (first | with_reducible exact Ext.refl _ _ | with_reducible refine Ext.trans ?_ (by assumption) | with_reducible refine Ext.drew ?_ | with_reducible refine Ext.drewN ?_ _ | with_reducible refine Ext.alloc ?_ _ | with_reducible refine Ext.setNew ?_ (by simp; done) _ | with_reducible refine Ext.setNew ?_ (by simp; omega) _))
  have p0 := pB.cell 0 _ rfl; have p1 := pB.cell 1 _ rfl; have p2 := pB.cell 2 _ rfl; have p3 := pB.cell 3 _ rfl; have p4 := pB.cell 4 _ rfl
  have qB := HB0.out.grow (w' := w6) (by repeat (first | with_reducible exact Ext.refl _ _ | with_reducible refine Ext.trans ?_ (by assumption) | with_reducible refine Ext.drew ?_ | with_reducible refine Ext.drewN ?_ _ | with_reducible refine Ext.alloc ?_ _ | with_reducible refine Ext.setNew ?_ (by simp; done) _ | with_reducible refine Ext.setNew ?_ (by simp; omega) _))
  have q0 := qB.cell 0 _ rfl; have q1 := qB.cell 1 _ rfl; have q2 := qB.cell 2 _ rfl; have q3 := qB.cell 3 _ rfl; have q4 := qB.cell 4 _ rfl
  refine wp_region_stab Grow (fun i => if i = 2 then some (fun v w' => RV nodeRep packA w' any n v) else if i = 3 then some (fun v _ => v = .bool true) else none) (by kernel_rfl) (by kernel_rfl) ⟨Ext.refl nil, fun _ _ h1 h2 => h2.trans h1, ?_⟩ ?_
  · intro i V hV v w1 w2 hr hv
    by_cases h1 : i = 2
    · simp only [h1, if_true, Option.some.injEq] at hV; subst hV; exact RV.grow hv hr
    · by_cases h3 : i = 3
      · simp [h3] at hV; subst hV; exact hv
      · simp [h1, h3] at hV
  (refine wpStab_quiet (by kernel_rfl) (by kernel_rfl) (by simp) ?_; intro K hK; go_big_quiet_op; go_big_quiet_on)
  (refine wpStab_quiet (by kernel_rfl) (by kernel_rfl) (by simp) ?_; intro K hK; go_big_quiet_op; go_big_quiet_on)
  refine wpStab_made (fun v w' => RV nodeRep packA w' any n v) ?_ ?_ ?_ ?_
  · go_simp
  · simp
  · intro y _
    refine stabAt_call (f := 23) (args := #[.agg #[.int .i64 n.kind, .int .i64 n.num, .string n.text, .slice na0 n.names.length nc0, .slice ka0 n.kids.length kc0]]) ?_ ?_
    · go_simp
    · refine (uToN n _ _ C0.out (HV0.out.grow (((by repeat (first | with_reducible exact Ext.refl _ _ | with_reducible refine Ext.trans ?_ (by assumption) | with_reducible refine Ext.drew ?_ | with_reducible refine Ext.drewN ?_ _ | with_reducible refine Ext.alloc ?_ _ | with_reducible refine Ext.setNew ?_ (by simp; done) _ | with_reducible refine Ext.setNew ?_ (by simp; omega) _)) : Grow w w6).trans (later_grow _ _)))).mono ?_
      rintro e w' ⟨v', fp, rfl, hg, hF, _⟩
      exact ⟨_, rfl, hg, hF.rv⟩
  intro vt
  go_frame
  refine wpStab_const (.bool true) ?_ ?_ ?_ ?_
  · go_simp
  · simp
  · intro y hE
    have Hr6 : RV nodeRep packA (later w6 y) any n vt := (hE ⟨2, .data⟩ (by simp) (by decide)).2 rfl
    clear hE
    refine stabAt_call (f := 26) (args := #[.agg #[.int .i64 n.kind, .int .i64 n.num, .string n.text, .slice nax0 n.names.length ncx0, .slice kax0 n.kids.length kcx0], vt]) ?_ ?_
    · go_simp
    · refine (uEqN n _ _ _ (F0.out.rv.grow (((by repeat (first | with_reducible exact Ext.refl _ _ | with_reducible refine Ext.trans ?_ (by assumption) | with_reducible refine Ext.drew ?_ | with_reducible refine Ext.drewN ?_ _ | with_reducible refine Ext.alloc ?_ _ | with_reducible refine Ext.setNew ?_ (by simp; done) _ | with_reducible refine Ext.setNew ?_ (by simp; omega) _)) : Grow _ w6).trans (later_grow _ _))) Hr6).mono ?_
      rintro e w' ⟨rfl, hg⟩
      exact ⟨_, rfl, hg, rfl⟩
  go_frame
  (refine wpStab_quiet (by kernel_rfl) (by kernel_rfl) (by simp) ?_; intro K hK; go_big_quiet_op; go_big_quiet_on)
  refine wpStab_end ?_
  intro w7 hg7
  clear p0 p1 p2 p3 p4 pB q0 q1 q2 q3 q4 qB
  have z7 := hg7.size
  go_wp2_with fail
  have pB := HBx1.out.grow (w' := w7) (by repeat (first | with_reducible exact Ext.refl _ _ | with_reducible refine Ext.trans ?_ (by assumption) | with_reducible refine Ext.drew ?_ | with_reducible refine Ext.drewN ?_ _ | with_reducible refine Ext.alloc ?_ _ | with_reducible refine Ext.setNew ?_ (by simp; done) _ | with_reducible refine Ext.setNew ?_ (by simp; omega) _))
  have p0 := pB.cell 0 _ rfl; have p1 := pB.cell 1 _ rfl; have p2 := pB.cell 2 _ rfl; have p3 := pB.cell 3 _ rfl; have p4 := pB.cell 4 _ rfl; have p5 := pB.cell 5 _ rfl; have p6 := pB.cell 6 _ rfl
  have qB := HB1.out.grow (w' := w7) (by repeat (first | with_reducible exact Ext.refl _ _ | with_reducible refine Ext.trans ?_ (by assumption) | with_reducible refine Ext.drew ?_ | with_reducible refine Ext.drewN ?_ _ | with_reducible refine Ext.alloc ?_ _ | with_reducible refine Ext.setNew ?_ (by simp; done) _ | with_reducible refine Ext.setNew ?_ (by simp; omega) _))
  have q0 := qB.cell 0 _ rfl; have q1 := qB.cell 1 _ rfl; have q2 := qB.cell 2 _ rfl; have q3 := qB.cell 3 _ rfl; have q4 := qB.cell 4 _ rfl; have q5 := qB.cell 5 _ rfl; have q6 := qB.cell 6 _ rfl
  refine wp_region_stab Grow (fun i => if i = 2 then some (fun v w' => RV filRep packA w' any f v) else if i = 3 then some (fun v _ => v = .bool true) else none) (by kernel_rfl) (by kernel_rfl) ⟨Ext.refl nil, fun _ _ h1 h2 => h2.trans h1, ?_⟩ ?_
  · intro i V hV v w1 w2 hr hv
    by_cases h1 : i = 2
    · simp only [h1, if_true, Option.some.injEq] at hV; subst hV; exact RV.grow hv hr
    · by_cases h3 : i = 3
      · simp [h3] at hV; subst hV; exact hv
      · simp [h1, h3] at hV
  (refine wpStab_quiet (by kernel_rfl) (by kernel_rfl) (by simp) ?_; intro K hK; go_big_quiet_op; go_big_quiet_on)
  (refine wpStab_quiet (by kernel_rfl) (by kernel_rfl) (by simp) ?_; intro K hK; go_big_quiet_op; go_big_quiet_on)
  refine wpStab_made (fun v w' => RV filRep packA w' any f v) ?_ ?_ ?_ ?_
  · go_simp
  · simp
  · intro y _
    refine stabAt_call (f := 45) (args := #[.agg #[.slice pa1 f.1.length pc1, .int .i64 f.2.1, .int .i64 f.2.2.kind, .int .i64 f.2.2.num, .string f.2.2.text, .slice na1 f.2.2.names.length nc1, .slice ka1 f.2.2.kids.length kc1]]) ?_ ?_
    · go_simp
    · refine (uToFil f _ _ C1.out (HV1.out.grow (((by repeat (first | with_reducible exact Ext.refl _ _ | with_reducible refine Ext.trans ?_ (by assumption) | with_reducible refine Ext.drew ?_ | with_reducible refine Ext.drewN ?_ _ | with_reducible refine Ext.alloc ?_ _ | with_reducible refine Ext.setNew ?_ (by simp; done) _ | with_reducible refine Ext.setNew ?_ (by simp; omega) _)) : Grow w w7).trans (later_grow _ _)))).mono ?_
      rintro e w' ⟨v', fp, rfl, hg, hF, _⟩
      exact ⟨_, rfl, hg, hF.rv⟩
  intro vt
  go_frame
  refine wpStab_const (.bool true) ?_ ?_ ?_ ?_
  · go_simp
  · simp
  · intro y hE
    have Hr6 : RV filRep packA (later w7 y) any f vt := (hE ⟨2, .data⟩ (by simp) (by decide)).2 rfl
    clear hE
    refine stabAt_call (f := 47) (args := #[.agg #[.slice pax1 f.1.length pcx1, .int .i64 f.2.1, .int .i64 f.2.2.kind, .int .i64 f.2.2.num, .string f.2.2.text, .slice nax1 f.2.2.names.length ncx1, .slice kax1 f.2.2.kids.length kcx1], vt]) ?_ ?_
    · go_simp
    · refine (uEqFil f _ _ _ (F1.out.rv.grow (((by repeat (first | with_reducible exact Ext.refl _ _ | with_reducible refine Ext.trans ?_ (by assumption) | with_reducible refine Ext.drew ?_ | with_reducible refine Ext.drewN ?_ _ | with_reducible refine Ext.alloc ?_ _ | with_reducible refine Ext.setNew ?_ (by simp; done) _ | with_reducible refine Ext.setNew ?_ (by simp; omega) _)) : Grow _ w7).trans (later_grow _ _))) Hr6).mono ?_
      rintro e w' ⟨rfl, hg⟩
      exact ⟨_, rfl, hg, rfl⟩
  go_frame
  (refine wpStab_quiet (by kernel_rfl) (by kernel_rfl) (by simp) ?_; intro K hK; go_big_quiet_op; go_big_quiet_on)
  refine wpStab_end ?_
  intro w8 hg8
  clear p0 p1 p2 p3 p4 p5 p6 pB q0 q1 q2 q3 q4 q5 q6 qB
  have z8 := hg8.size
  go_wp2_with fail
  go_ret
  exact ⟨by simp, (by repeat (first | with_reducible exact Ext.refl _ _ | with_reducible refine Ext.trans ?_ (by assumption) | with_reducible refine Ext.drew ?_ | with_reducible refine Ext.drewN ?_ _ | with_reducible refine Ext.alloc ?_ _ | with_reducible refine Ext.setNew ?_ (by simp; done) _ | with_reducible refine Ext.setNew ?_ (by simp; omega) _))⟩
theorem lawMat_ok (n : Nd) (f : Fil) (v0 : Value) (v1 : Value) (w : World) (h0 : RV nodeRep packA w any n v0) (h1 : RV filRep packA w any f v1) :
    Calls Tryd.prog 8 #[v0, v1] w fun e w' => e = .returned (.bool true) ∧ Grow w w' := by
  by_cases hc : costN n + costFil f ≤ 1048576
  · exact lawMat_main n f v0 v1 w h0 h1 hc
  · exact lawMat_big n f v0 v1 w h0 h1 hc
end Go.Proofs.YtfjaobfaepjfnaaDoor
namespace Go.Proofs.YtfjaobfaepjfnaaDoor
open Go.RowKit
end Go.Proofs.YtfjaobfaepjfnaaDoor
namespace Go.Proofs.YtfjaobfaepjfnaaDoor
open Go.RowKit
end Go.Proofs.YtfjaobfaepjfnaaDoor
namespace Go.Proofs.YtfjaobfaepjfnaaDoor
open Go.RowKit
structure Opn where
  kind : Int
  path : List ByteArray
  frm : List ByteArray
  val : Nd
def opV (o : Opn) (pa : Option Addr) (pc : Nat) (fa : Option Addr) (fc : Nat) (na : Option Addr) (nc : Nat) (ka : Option Addr) (kc : Nat) : Value :=
  .agg #[.int .i64 o.kind, .slice pa o.path.length pc, .slice fa o.frm.length fc, .int .i64 o.val.kind, .int .i64 o.val.num, .string o.val.text, .slice na o.val.names.length nc, .slice ka o.val.kids.length kc]
def OpC (w : World) (S : Nat → Prop) (o : Opn) (pa : Option Addr) (pc : Nat) (fa : Option Addr) (fc : Nat) (na : Option Addr) (nc : Nat) (ka : Option Addr) (kc : Nat) : Prop :=
  StrsR w S pa pc o.path ∧ StrsR w S fa fc o.frm ∧ NodeC w S o.val na nc ka kc
def OpR (w : World) (S : Nat → Prop) (o : Opn) (v : Value) : Prop := ∃ pa pc fa fc na nc ka kc, v = opV o pa pc fa fc na nc ka kc ∧ OpC w S o pa pc fa fc na nc ka kc
def OpsR (w : World) (S : Nat → Prop) (a : Option Addr) (c : Nat) (l : List Opn) : Prop :=
  l.length ≤ c ∧ l.length ≤ big ∧ (l = [] ∨ ∃ b o, a = some ⟨b, o, none⟩ ∧ S b ∧ ∀ i (h : i < l.length), ∃ pa pc fa fc na nc ka kc,
    w.cell? ⟨b, o + i * 8, none⟩ = some (.int .i64 l[i].kind) ∧ w.cell? ⟨b, o + i * 8 + 1, none⟩ = some (.slice pa l[i].path.length pc) ∧ w.cell? ⟨b, o + i * 8 + 2, none⟩ = some (.slice fa l[i].frm.length fc) ∧
    w.cell? ⟨b, o + i * 8 + 3, none⟩ = some (.int .i64 l[i].val.kind) ∧ w.cell? ⟨b, o + i * 8 + 4, none⟩ = some (.int .i64 l[i].val.num) ∧ w.cell? ⟨b, o + i * 8 + 5, none⟩ = some (.string l[i].val.text) ∧
    w.cell? ⟨b, o + i * 8 + 6, none⟩ = some (.slice na l[i].val.names.length nc) ∧ w.cell? ⟨b, o + i * 8 + 7, none⟩ = some (.slice ka l[i].val.kids.length kc) ∧ OpC w S l[i] pa pc fa fc na nc ka kc)
theorem OpC.ext {X S : Nat → Prop} {w w' : World} (h : Ext X w w') (hS : ∀ k, S k → ¬ X k) {o : Opn} {pa : Option Addr} {pc : Nat} {fa : Option Addr} {fc : Nat} {na : Option Addr} {nc : Nat} {ka : Option Addr} {kc : Nat}
    (hs : OpC w S o pa pc fa fc na nc ka kc) : OpC w' S o pa pc fa fc na nc ka kc := ⟨hs.1.ext h hS, hs.2.1.ext h hS, hs.2.2.ext h hS⟩
theorem OpC.grow {S : Nat → Prop} {w w' : World} {o : Opn} {pa : Option Addr} {pc : Nat} {fa : Option Addr} {fc : Nat} {na : Option Addr} {nc : Nat} {ka : Option Addr} {kc : Nat}
    (hs : OpC w S o pa pc fa fc na nc ka kc) (h : Grow w w') : OpC w' S o pa pc fa fc na nc ka kc := hs.ext h (fun _ _ h => h)
theorem OpR.ext {X S : Nat → Prop} {w w' : World} (h : Ext X w w') (hS : ∀ k, S k → ¬ X k) {o : Opn} {v : Value} (hs : OpR w S o v) : OpR w' S o v := by
  obtain ⟨pa, pc, fa, fc, na, nc, ka, kc, hv, hc⟩ := hs
  exact ⟨pa, pc, fa, fc, na, nc, ka, kc, hv, hc.ext h hS⟩
theorem OpR.grow {S : Nat → Prop} {w w' : World} {o : Opn} {v : Value} (hs : OpR w S o v) (h : Grow w w') : OpR w' S o v := hs.ext h (fun _ _ h => h)
theorem OpsR.ext {X S : Nat → Prop} {w w' : World} (h : Ext X w w') (hS : ∀ k, S k → ¬ X k) {a : Option Addr} {c : Nat} {l : List Opn} (hs : OpsR w S a c l) : OpsR w' S a c l := by
  obtain ⟨h1, h2, h4⟩ := hs
  refine ⟨h1, h2, h4.imp id ?_⟩
  rintro ⟨b, o, rfl, hb, hc⟩
  refine ⟨b, o, rfl, hb, fun i hi => ?_⟩
  obtain ⟨pa, pc, fa, fc, na, nc, ka, kc, g0, g1, g2, g3, g4, g5, g6, g7, g⟩ := hc i hi
  exact ⟨pa, pc, fa, fc, na, nc, ka, kc, h.some g0 (hS b hb), h.some g1 (hS b hb), h.some g2 (hS b hb), h.some g3 (hS b hb), h.some g4 (hS b hb), h.some g5 (hS b hb), h.some g6 (hS b hb), h.some g7 (hS b hb), g.ext h hS⟩
theorem OpsR.grow {S : Nat → Prop} {w w' : World} {a : Option Addr} {c : Nat} {l : List Opn} (hs : OpsR w S a c l) (h : Grow w w') : OpsR w' S a c l := hs.ext h (fun _ _ h => h)
end Go.Proofs.YtfjaobfaepjfnaaDoor
namespace Go.Proofs.YtfjaobfaepjfnaaDoor
open Go.RowKit
structure Reqn where
  method : Int
  name : ByteArray
  want : List ByteArray
  avoid : List ByteArray
  body : Nd
  ops : List Opn
def reqCells (q : Reqn) (wa : Option Addr) (wc : Nat) (va : Option Addr) (vc : Nat) (na : Option Addr) (nc : Nat) (ka : Option Addr) (kc : Nat) (oa : Option Addr) (oc : Nat) : Array Value :=
  #[.int .i64 q.method, .string q.name, .slice wa q.want.length wc, .slice va q.avoid.length vc, .int .i64 q.body.kind, .int .i64 q.body.num, .string q.body.text, .slice na q.body.names.length nc, .slice ka q.body.kids.length kc, .slice oa q.ops.length oc]
def ReqC (w : World) (S : Nat → Prop) (q : Reqn) (wa : Option Addr) (wc : Nat) (va : Option Addr) (vc : Nat) (na : Option Addr) (nc : Nat) (ka : Option Addr) (kc : Nat) (oa : Option Addr) (oc : Nat) : Prop :=
  q.name.size ≤ big ∧ StrsR w S wa wc q.want ∧ StrsR w S va vc q.avoid ∧ NodeC w S q.body na nc ka kc ∧ OpsR w S oa oc q.ops
def ReqR (w : World) (S : Nat → Prop) (q : Reqn) (v : Value) : Prop := ∃ wa wc va vc na nc ka kc oa oc, v = .agg (reqCells q wa wc va vc na nc ka kc oa oc) ∧ ReqC w S q wa wc va vc na nc ka kc oa oc
theorem ReqR.ext {X S : Nat → Prop} {w w' : World} (h : Ext X w w') (hS : ∀ k, S k → ¬ X k) {q : Reqn} {v : Value} (hs : ReqR w S q v) : ReqR w' S q v := by
  obtain ⟨wa, wc, va, vc, na, nc, ka, kc, oa, oc, hv, h1, h2, h3, h4, h5⟩ := hs
  exact ⟨wa, wc, va, vc, na, nc, ka, kc, oa, oc, hv, h1, h2.ext h hS, h3.ext h hS, h4.ext h hS, h5.ext h hS⟩
theorem ReqR.grow {S : Nat → Prop} {w w' : World} {q : Reqn} {v : Value} (hs : ReqR w S q v) (h : Grow w w') : ReqR w' S q v := hs.ext h (fun _ _ h => h)
end Go.Proofs.YtfjaobfaepjfnaaDoor
namespace Go.Proofs.YtfjaobfaepjfnaaDoor
open Go.RowKit Go.ChangeShapes Go.WideShapes Go.Deep
section
variable {H : Type} {enc : TypeId × Value → H} {W : World} {base : Nat} {sp : Nat → Bool} {held : Bool}
end
end Go.Proofs.YtfjaobfaepjfnaaDoor
namespace Go.Proofs.YtfjaobfaepjfnaaDoor
open Go.RowKit Go.ChangeShapes Go.WideShapes Go.Deep
section
variable {H : Type} {enc : TypeId × Value → H} {W : World} {base : Nat} {sp : Nat → Bool} {held : Bool}
end
end Go.Proofs.YtfjaobfaepjfnaaDoor
namespace Go.Proofs.YtfjaobfaepjfnaaDoor
open Go.RowKit
end Go.Proofs.YtfjaobfaepjfnaaDoor
namespace Go.Proofs.YtfjaobfaepjfnaaDoor
open Go.RowKit
end Go.Proofs.YtfjaobfaepjfnaaDoor
namespace Go.Proofs.YtfjaobfaepjfnaaDoor
open Go.RowKit
theorem lt_trans {a b c : ByteArray} (h1 : lt a b = true) (h2 : lt b c = true) : lt a c = true := bl_trans _ _ _ h1 h2
end Go.Proofs.YtfjaobfaepjfnaaDoor
namespace Go.Proofs.YtfjaobfaepjfnaaDoor
open Go.RowKit Go.ChangeShapes Go.WideShapes Go.Deep
section
variable {H : Type} {enc : TypeId × Value → H} {W : World} {base : Nat} {sp : Nat → Bool} {held : Bool}
theorem rv_node {fuel : Nat} {cs : Array Value} {x : DataW H × List MemPlace} (h : DataW.trod enc Tryd.prog W base sp held fuel 44 cs.toList = some x) : ∃ y, RV nodeRep packA W any y (.agg cs) := by
  obtain ⟨q, na, nc, ka, kc, e2, hq⟩ := open_node _ _ _ h
  exact ⟨q, cs.toList, rfl, na, nc, ka, kc, e2, hq⟩
end
end Go.Proofs.YtfjaobfaepjfnaaDoor
namespace Go.Proofs.YtfjaobfaepjfnaaDoor
open Go.RowKit Go.ChangeShapes Go.WideShapes Go.Deep
section
variable {H : Type} {enc : TypeId × Value → H} {W : World} {base : Nat} {sp : Nat → Bool} {held : Bool}
theorem rv_fil {fuel : Nat} {cs : Array Value} {x : DataW H × List MemPlace} (h : DataW.trod enc Tryd.prog W base sp held fuel 64 cs.toList = some x) : ∃ y, RV filRep packA W any y (.agg cs) := by
  obtain ⟨xs, n, rfl, _, hlen, hxs, hf⟩ := DataW.trod_struct Tryd.underlying64 h
  have hc : Tryd.prog.cellsOf 64 = 7 := by kernel_rfl
  have cI : Tryd.prog.cellsOf 3 = 1 := by kernel_rfl
  have cS : Tryd.prog.cellsOf 23 = 1 := by kernel_rfl
  have cN : Tryd.prog.cellsOf 44 = 5 := by kernel_rfl
  rw [hc] at hlen
  obtain ⟨l⟩ := cs
  match l, hlen with
  | [v0, v1, v2, v3, v4, v5, v6], _ =>
    obtain ⟨y0, g0⟩ : ∃ y, DataW.trod enc Tryd.prog W base sp held n 23 [v0] = some y := ⟨xs[0]'(by simp at hxs; omega), by
      have h := hf 0 _ rfl
      rw [List.getElem?_eq_getElem (by simp at hxs; omega)] at h
      simpa [cS, cI, cN] using h⟩
    obtain ⟨y1, g1⟩ : ∃ y, DataW.trod enc Tryd.prog W base sp held n 3 [v1] = some y := ⟨xs[1]'(by simp at hxs; omega), by
      have h := hf 1 _ rfl
      rw [List.getElem?_eq_getElem (by simp at hxs; omega)] at h
      simpa [cS, cI, cN] using h⟩
    obtain ⟨y2, g2⟩ : ∃ y, DataW.trod enc Tryd.prog W base sp held n 44 [v2, v3, v4, v5, v6] = some y := ⟨xs[2]'(by simp at hxs; omega), by
      have h := hf 2 _ rfl
      rw [List.getElem?_eq_getElem (by simp at hxs; omega)] at h
      simpa [cS, cI, cN] using h⟩
    obtain ⟨a, c, ss, e0, hs⟩ := open_strs' g0
    obtain ⟨k, e1, _⟩ := DataW.trod_int Tryd.underlying3 g1
    obtain ⟨q, na, nc, ka, kc, e2, hq⟩ := open_node _ _ _ g2
    have e1' : v1 = .int .i64 k := by simpa using e1
    exact ⟨(ss, k, q), [v0, v1, v2, v3, v4, v5, v6], rfl, [v0], [v1, v2, v3, v4, v5, v6], rfl, ⟨a, c, e0, hs⟩, [v1], [v2, v3, v4, v5, v6], rfl, by simp [e1', intRep], na, nc, ka, kc, e2, hq⟩
end
end Go.Proofs.YtfjaobfaepjfnaaDoor
