/-
  Texts of this claim, joined.
-/
import Derived.BigQuiet
import Derived.Laws.AppendOwn
import Derived.Laws.AppendOwnNone
import Derived.Laws.OwnMore
import Derived.Lib.Bytealg
import Derived.Test.YtfjaobfaepjfnaaDoorWaE

set_option linter.unusedSimpArgs false
set_option linter.unusedVariables false
set_option linter.unnecessarySimpa false
set_option maxRecDepth 100000
set_option maxHeartbeats 16000000
namespace Go.Proofs.YtfjaobfaepjfnaaDoor
open Go Go.RowKit
section
variable {P : Program} {ops : Array Oper} {Vs : Nat → Option (Value → World → Prop)} {w : World} {Q : Act → World → Prop}
theorem drew_grow {w w' : World} (h : Grow w.drew w') : Grow w w' := ((Ext.refl nil w).drew).trans h
theorem wpStab_made {o : Oper} {rest : List Oper} {k : Nat} {a : Act} {E : Env} (V : Value → World → Prop) (hw : Region.wanted o (yielded ops a.tmps) = true) (hV : Vs k = some V)
    (h : ∀ x : Later w, (∀ e ∈ o.after, Region.binds .any e = true → E e.on (later w x)) → stabAt Grow P o a (later w x) V)
    (h2 : ∀ v, wpStab P ops Grow Vs (fun w' => Grow w.drew w') Q rest (k + 1) (a.put o.dst v) (E.upd k (V v))) :
    wpStab P ops Grow Vs (fun w' => Grow w.drew w') Q (o :: rest) k a E := by
  unfold wpStab
  rw [if_pos hw]
  unfold does
  rw [hV]
  exact ⟨fun w' hc => h ⟨w', drew_grow hc.1⟩ hc.2, fun v w' _ _ _ => h2 v⟩
theorem wpStab_const {o : Oper} {rest : List Oper} {k : Nat} {a : Act} {E : Env} (c : Value) (hw : Region.wanted o (yielded ops a.tmps) = true) (hV : Vs k = some (fun v _ => v = c))
    (h : ∀ x : Later w, (∀ e ∈ o.after, Region.binds .any e = true → E e.on (later w x)) → stabAt Grow P o a (later w x) (fun v _ => v = c))
    (h2 : wpStab P ops Grow Vs (fun w' => Grow w.drew w') Q rest (k + 1) (a.put o.dst c) (E.upd k (fun _ => True))) :
    wpStab P ops Grow Vs (fun w' => Grow w.drew w') Q (o :: rest) k a E := by
  unfold wpStab
  rw [if_pos hw]
  unfold does
  rw [hV]
  refine ⟨fun w' hc => h ⟨w', drew_grow hc.1⟩ hc.2, fun v w' _ _ hv => ?_⟩
  subst hv
  have : (fun (u : Value) (_ : World) => u = v) v = (fun _ => True) := by funext _; simp
  rw [this]
  exact h2
theorem wpStab_end {k : Nat} {a : Act} {E : Env} (h : ∀ w', Grow w w' → Q a w') : wpStab P ops Grow Vs (fun w' => Grow w.drew w') Q [] k a E :=
  fun w' hc _ => h w' (drew_grow hc)
theorem stabAt_call {o : Oper} {a : Act} {w : World} {V : Value → World → Prop} {f : FuncId} {args : Array Value} (h : (execOp a.eval o).run P w = .ok (.enter f args) w)
    (hc : Calls P f args w fun e w' => ∃ v, e = .returned v ∧ Grow w w' ∧ V v w') : stabAt Grow P o a w V := by
  unfold stabAt
  rw [h]
  exact ⟨rfl, hc⟩
end
end Go.Proofs.YtfjaobfaepjfnaaDoor
namespace Go.Proofs.YtfjaobfaepjfnaaDoor
open Go Go.RowKit
def easy (o : Oper) : Bool :=
  match o.op with
  | .move _ | .assign _ | .pick _ _ _ | .load _ _ | .fieldAddr _ _ _ | .indexAddr _ _ _ | .index _ _ _ | .field _ _ _ | .extract _ _ | .binOp _ _ _ _ _ | .unOp _ _ _ | .convert _ _ _ | .slice _ _ _ _ _ | .build _ _ => true
  | .call { callee := .builtin .len, args := _, argTypes := _ } => true
  | _ => false
theorem pureVal_run {P : Program} (s : Sem Value) (w w' : World) (f : FuncId) (args : Array Value) : (do pure (Next.value (← s)) : Sem Next).run P w ≠ .ok (.enter f args) w' := by
  intro h
  have : (do pure (Next.value (← s)) : Sem Next).run P w = (s.run P w).andThen fun a w' => .ok (.value a) w' := by
    simp [Result.andThen]
  rw [this] at h
  cases hs : s.run P w with
  | ok a w1 => rw [hs] at h; simp [Result.andThen] at h
  | halt x w1 => rw [hs] at h; simp [Result.andThen] at h
theorem noEnter {P : Program} {o : Oper} (he : easy o = true) (ρ : Operand → Value) (w w' : World) (f : FuncId) (args : Array Value) : (execOp ρ o).run P w ≠ .ok (.enter f args) w' := by
  obtain ⟨dst, op, type, pos, after, guard⟩ := o
  cases op <;> simp only [easy, Bool.false_eq_true] at he
  case move x => intro h; simp [execOp] at h
  case assign x => intro h; simp [execOp] at h
  case pick c a b =>
    intro h
    have : (execOp ρ ⟨dst, .pick c a b, type, pos, after, guard⟩).run P w = ((asBool (ρ c)).run P w).andThen fun q w' => .ok (.value (if q then ρ a else ρ b)) w' := by
      simp [execOp, Result.andThen]
    rw [this] at h
    cases hs : (asBool (ρ c)).run P w with
    | ok a w1 => rw [hs] at h; simp [Result.andThen] at h
    | halt x w1 => rw [hs] at h; simp [Result.andThen] at h
  case load t a => exact pureVal_run _ _ _ _ _
  case fieldAddr => exact pureVal_run _ _ _ _ _
  case indexAddr => exact pureVal_run _ _ _ _ _
  case index => exact pureVal_run _ _ _ _ _
  case field => exact pureVal_run _ _ _ _ _
  case extract => exact pureVal_run _ _ _ _ _
  case binOp => exact pureVal_run _ _ _ _ _
  case unOp => exact pureVal_run _ _ _ _ _
  case convert => exact pureVal_run _ _ _ _ _
  case slice => exact pureVal_run _ _ _ _ _
  case build => exact pureVal_run _ _ _ _ _
  case call c =>
    obtain ⟨callee, args', tys⟩ := c
    cases callee with
    | value x => simp at he
    | invoke r m => simp at he
    | builtin b =>
      cases b <;> simp at he
      intro h
      simp [execOp, resolve, invoke, builtin] at h
      cases hs : (Builtin.len_ tys type (Array.map ρ args')).run P w with
      | ok a w1 => rw [hs] at h; simp [Result.andThen] at h
      | halt x w1 => rw [hs] at h; simp [Result.andThen] at h
section
variable {P : Program} {ops : Array Oper} {Vs : Nat → Option (Value → World → Prop)} {w : World} {Q : Act → World → Prop}
theorem wpStab_quiet {o : Oper} {rest : List Oper} {k : Nat} {a : Act} {E : Env} (he : easy o = true) (hw : Region.wanted o (yielded ops a.tmps) = true) (hV : Vs k = none)
    (h : ∀ K : Act → Prop, (∀ a, wpStab P ops Grow Vs (fun w' => Grow w.drew w') Q rest (k + 1) a E → K a) → o.quiet P a (fun w' => ∃ x, w' = later w x) K) :
    wpStab P ops Grow Vs (fun w' => Grow w.drew w') Q (o :: rest) k a E := by
  unfold wpStab
  rw [if_pos hw]
  unfold does
  rw [hV]
  obtain ⟨v, h1, h2⟩ := h _ (fun _ h => h)
  refine ⟨v, fun w' hc => ?_, h2⟩
  have h3 := h1 w' ⟨⟨w', drew_grow hc.1⟩, rfl⟩
  unfold Oper.quietAt at h3
  unfold valAt
  have hne := noEnter (P := P) he a.eval w'
  generalize (execOp a.eval o).run P w' = r at *
  cases r with
  | ok n w2 =>
    cases n <;> simp only [Oper.quietUpon] at h3 <;> simp only [valUpon]
    case value u => exact ⟨h3.2, by rw [h3.1]; exact Ext.refl _ _⟩
    case skip => exact ⟨h3.2, by rw [h3.1]; exact Ext.refl _ _⟩
    case enter f args => exact absurd rfl (hne w2 f args)
  | halt x w2 => simp only [Oper.quietUpon] at h3
end
end Go.Proofs.YtfjaobfaepjfnaaDoor
namespace Go.Proofs.YtfjaobfaepjfnaaDoor
open Go.RowKit
theorem addr_add (b o j : Nat) : (⟨b, o, Option.none⟩ : Addr).add j = ⟨b, o + j, Option.none⟩ := by unfold Addr.add; split <;> simp_all
end Go.Proofs.YtfjaobfaepjfnaaDoor
namespace Go.Proofs.YtfjaobfaepjfnaaDoor
open Go Go.RowKit
def NCells (w : World) (S : Nat → Prop) : List Nd → List Value → Prop
  | [], cs => cs = []
  | n :: l, cs => ∃ na nc ka kc cs', cs = nodeL n na nc ka kc ++ cs' ∧ NodeC w S n na nc ka kc ∧ NCells w S l cs'
theorem NCells.len {w : World} {S : Nat → Prop} : ∀ {l : List Nd} {cs : List Value}, NCells w S l cs → cs.length = l.length * 5
  | [], cs, h => by cases h; rfl
  | n :: l, cs, h => by
    obtain ⟨na, nc, ka, kc, cs', rfl, _, h⟩ := h
    rw [List.length_append, NCells.len h]; simp [nodeL, Nat.succ_mul]; omega
theorem NCells.append {w : World} {S : Nat → Prop} : ∀ {l m : List Nd} {cs ds : List Value}, NCells w S l cs → NCells w S m ds → NCells w S (l ++ m) (cs ++ ds)
  | [], m, cs, ds, h, k => by cases h; exact k
  | n :: l, m, cs, ds, h, k => by
    obtain ⟨na, nc, ka, kc, cs', rfl, hn, h⟩ := h
    exact ⟨na, nc, ka, kc, cs' ++ ds, by simp, hn, NCells.append h k⟩
theorem NCells.ext {X S : Nat → Prop} {w w' : World} (he : Ext X w w') (hS : ∀ k, S k → ¬ X k) : ∀ {l : List Nd} {cs : List Value}, NCells w S l cs → NCells w' S l cs
  | [], cs, h => h
  | n :: l, cs, h => by
    obtain ⟨na, nc, ka, kc, cs', rfl, hn, h⟩ := h
    exact ⟨na, nc, ka, kc, cs', rfl, hn.ext he hS, NCells.ext he hS h⟩
theorem NCells.mono {S T : Nat → Prop} {w : World} (hS : ∀ k, S k → T k) : ∀ {l : List Nd} {cs : List Value}, NCells w S l cs → NCells w T l cs
  | [], cs, h => h
  | n :: l, cs, h => by
    obtain ⟨na, nc, ka, kc, cs', rfl, hn, h⟩ := h
    exact ⟨na, nc, ka, kc, cs', rfl, hn.mono hS, NCells.mono hS h⟩
theorem NCells.one {w : World} {S : Nat → Prop} {n : Nd} {na : Option Addr} {nc : Nat} {ka : Option Addr} {kc : Nat} (h : NodeC w S n na nc ka kc) : NCells w S [n] (nodeL n na nc ka kc) :=
  ⟨na, nc, ka, kc, [], by simp, h, rfl⟩
theorem NCells.kids {w : World} {S : Nat → Prop} {b : Nat} : ∀ {l : List Nd} {cs : List Value} {o : Nat}, NCells w S l cs → (∀ i v, cs[i]? = some v → w.cell? ⟨b, o + i, none⟩ = some v) → KidsR w S b o l
  | [], _, _, _, _ => by unfold KidsR; trivial
  | n :: l, cs, o, h, hc => by
    obtain ⟨na, nc, ka, kc, cs', rfl, hn, h⟩ := h
    unfold KidsR
    refine ⟨⟨na, nc, ka, kc, hc 0 _ rfl, hc 1 _ rfl, hc 2 _ rfl, hc 3 _ rfl, hc 4 _ rfl, hn⟩, NCells.kids h (fun i v hi => ?_)⟩
    have := hc (5 + i) v (by rw [List.getElem?_append_right (by simp [nodeL])]; simpa [nodeL] using hi)
    rw [show o + (5 + i) = o + 5 + i by omega] at this
    exact this
theorem KidsR.cells {w : World} {S : Nat → Prop} {b : Nat} : ∀ {l : List Nd} {o : Nat}, KidsR w S b o l → ∃ cs, NCells w S l cs ∧ ∀ i v, cs[i]? = some v → w.cell? ⟨b, o + i, none⟩ = some v
  | [], _, _ => ⟨[], rfl, fun i v h => by simp at h⟩
  | n :: l, o, h => by
    unfold KidsR at h
    obtain ⟨⟨na, nc, ka, kc, c0, c1, c2, c3, c4, hn⟩, hr⟩ := h
    obtain ⟨cs, h1, h2⟩ := hr.cells
    refine ⟨nodeL n na nc ka kc ++ cs, ⟨na, nc, ka, kc, cs, rfl, hn, h1⟩, fun i v hi => ?_⟩
    match i, hi with
    | 0, hi => simp [nodeL] at hi; subst hi; exact c0
    | 1, hi => simp [nodeL] at hi; subst hi; exact c1
    | 2, hi => simp [nodeL] at hi; subst hi; exact c2
    | 3, hi => simp [nodeL] at hi; subst hi; exact c3
    | 4, hi => simp [nodeL] at hi; subst hi; exact c4
    | i + 5, hi =>
      have := h2 i v (by simpa [nodeL] using hi)
      rw [show o + (i + 5) = o + 5 + i by omega]
      exact this
end Go.Proofs.YtfjaobfaepjfnaaDoor
namespace Go.Proofs.YtfjaobfaepjfnaaDoor
open Go Go.RowKit
def Src (w : World) (y : Option Addr) (m : Nat) (news : List Value) : Prop := (m = 0 ∧ news = []) ∨ ∃ ad, y = some ad ∧ ∀ j u, news[j]? = some u → w.cell? (ad.add j) = some u
theorem Src.grow {w w' : World} {y : Option Addr} {m : Nat} {news : List Value} (h : Src w y m news) (hg : Grow w w') : Src w' y m news :=
  h.imp id (fun ⟨ad, hy, hc⟩ => ⟨ad, hy, fun j u hj => hg.some (hc j u hj)⟩)
def offRow (B : Nat) (v : Value) (k : Nat) : Prop := B ≤ k ∧ v.ownBlock ≠ some k
theorem grownBy_ext {w w' : World} {v : Value} (h : w.grownBy w' v.ownBlock) : Ext (fun k => v.ownBlock = some k) w w' :=
  ⟨h.os, h.tape, h.output, h.size, fun k hk hx => h.block k hk (fun e => hx e.symm)⟩
theorem NCells.grown {w w' : World} {B : Nat} {v v' : Value} {l : List Nd} {cs : List Value} (hlt : NCells w (fun k => offRow B v k ∧ k < w.heap.size) l cs) (hg : w.grownBy w' v.ownBlock) (hv : v'.ownBlock = v.ownBlock ∨ v'.ownBlock = some w.heap.size) :
    NCells w' (offRow B v') l cs := by
  have h1 := hlt.ext (grownBy_ext hg) (fun k hk hx => hk.1.2 hx)
  refine h1.mono (fun k hk => ⟨hk.1.1, fun e => ?_⟩)
  rcases hv with hv | hv
  · rw [hv] at e; exact hk.1.2 e
  · rw [hv] at e; cases e; exact Nat.lt_irrefl _ hk.2
theorem StrsR.lt {S : Nat → Prop} {w : World} {a : Option Addr} {c : Nat} {xs : List ByteArray} (h : StrsR w S a c xs) : StrsR w (fun k => S k ∧ k < w.heap.size) a c xs := by
  obtain ⟨h1, h2, h3, h4⟩ := h
  refine ⟨h1, h2, h3, ?_⟩
  rcases Nat.eq_zero_or_pos xs.length with hl | hl
  · exact .inl (List.length_eq_zero_iff.1 hl)
  rcases h4 with h4 | ⟨b, o, rfl, hb, hc⟩
  · exact .inl h4
  · exact .inr ⟨b, o, rfl, ⟨hb, lt_of_cell (hc 0 hl)⟩, hc⟩
mutual
theorem NodeC.lt {S : Nat → Prop} {w : World} : ∀ {n : Nd} {na : Option Addr} {nc : Nat} {ka : Option Addr} {kc : Nat}, NodeC w S n na nc ka kc → NodeC w (fun k => S k ∧ k < w.heap.size) n na nc ka kc
  | ⟨_, _, _, _, kids⟩, na, nc, ka, kc, h => by
    unfold NodeC at h ⊢
    obtain ⟨h1, h2, h3, h4, h5⟩ := h
    refine ⟨h1, h2.lt, h3, h4, ?_⟩
    rcases h5 with h5 | ⟨b, o, rfl, hb, hk⟩
    · exact .inl h5
    · cases kids with
      | nil => exact .inl rfl
      | cons k ks =>
        refine .inr ⟨b, o, rfl, ⟨hb, ?_⟩, KidsR.lt hk⟩
        unfold KidsR at hk
        obtain ⟨⟨_, _, _, _, c0, _⟩, _⟩ := hk
        exact lt_of_cell c0
theorem KidsR.lt {S : Nat → Prop} {w : World} {b : Nat} : ∀ {l : List Nd} {o : Nat}, KidsR w S b o l → KidsR w (fun k => S k ∧ k < w.heap.size) b o l
  | [], _, _ => by unfold KidsR; trivial
  | k :: ks, o, h => by
    unfold KidsR at h ⊢
    obtain ⟨⟨na, nc, ka, kc, c0, c1, c2, c3, c4, hn⟩, hr⟩ := h
    exact ⟨⟨na, nc, ka, kc, c0, c1, c2, c3, c4, hn.lt⟩, KidsR.lt hr⟩
end
theorem NCells.lt {S : Nat → Prop} {w : World} : ∀ {l : List Nd} {cs : List Value}, NCells w S l cs → NCells w (fun k => S k ∧ k < w.heap.size) l cs
  | [], cs, h => h
  | n :: l, cs, h => by
    obtain ⟨na, nc, ka, kc, cs', rfl, hn, h⟩ := h
    exact ⟨na, nc, ka, kc, cs', rfl, hn.lt, NCells.lt h⟩
theorem BoxN.grown {w w' : World} {b : Nat} {cs : List Value} {v : Value} (h : BoxN w b cs) (hg : w.grownBy w' v.ownBlock) (hb : ∀ k, v.ownBlock = some k → b < k) : BoxN w' b cs :=
  h.ext (grownBy_ext hg) (fun e => by have := hb _ e; omega)
end Go.Proofs.YtfjaobfaepjfnaaDoor
namespace Go.Proofs.YtfjaobfaepjfnaaDoor
open Go Go.RowKit
theorem Grow.toX' {X : Nat → Prop} {w w' : World} (h : Grow w w') : Ext X w w' := h.mono (fun _ h => False.elim h)
theorem Free.app2 {B : Nat} {w : World} {f g : List Nat} (hf : Free B w f) (hg : Free B w g) (hd : ∀ a, a ∈ f → a ∈ g → False) : Free B w (f ++ g) :=
  ⟨List.nodup_append.2 ⟨hf.1, hg.1, fun a ha b hb e => by subst e; exact hd a ha hb⟩, fun b hb => by
    rcases List.mem_append.1 hb with h | h
    · exact hf.2 b h
    · exact hg.2 b h⟩
def nodeRep : Rep Nd where
  n := 5
  R := fun w S x cs => ∃ na nc ka kc, cs = nodeL x na nc ka kc ∧ NodeC w S x na nc ka kc
  F := fun w x cs fp => ∃ na nc ka kc, cs = nodeL x na nc ka kc ∧ NodeF w x na nc ka kc fp
  rlen := by rintro w S x cs ⟨na, nc, ka, kc, rfl, _⟩; rfl
  flen := by rintro w x cs fp ⟨na, nc, ka, kc, rfl, _⟩; rfl
  ext := by rintro X S w w' x cs h hS ⟨na, nc, ka, kc, rfl, hn⟩; exact ⟨na, nc, ka, kc, rfl, hn.ext h hS⟩
  mono := by rintro S T w x cs h ⟨na, nc, ka, kc, rfl, hn⟩; exact ⟨na, nc, ka, kc, rfl, hn.mono h⟩
  lt := by rintro S w x cs ⟨na, nc, ka, kc, rfl, hn⟩; exact ⟨na, nc, ka, kc, rfl, hn.lt⟩
  keep := by rintro w w' x cs fp ⟨na, nc, ka, kc, rfl, hn⟩ h; exact ⟨na, nc, ka, kc, rfl, hn.keep h⟩
  toR := by rintro S w x cs fp ⟨na, nc, ka, kc, rfl, hn⟩ h; exact ⟨na, nc, ka, kc, rfl, hn.toC h⟩
def strsRep : Rep (List ByteArray) where
  n := 1
  R := fun w S x cs => ∃ a c, cs = [.slice a x.length c] ∧ StrsR w S a c x
  F := fun w x cs fp => ∃ a c, cs = [.slice a x.length c] ∧ StrsF w a c x fp
  rlen := by rintro w S x cs ⟨a, c, rfl, _⟩; rfl
  flen := by rintro w x cs fp ⟨a, c, rfl, _⟩; rfl
  ext := by rintro X S w w' x cs h hS ⟨a, c, rfl, hn⟩; exact ⟨a, c, rfl, hn.ext h hS⟩
  mono := by rintro S T w x cs h ⟨a, c, rfl, hn⟩; exact ⟨a, c, rfl, hn.mono h⟩
  lt := by rintro S w x cs ⟨a, c, rfl, hn⟩; exact ⟨a, c, rfl, hn.lt⟩
  keep := by rintro w w' x cs fp ⟨a, c, rfl, hn⟩ h; exact ⟨a, c, rfl, hn.keep h⟩
  toR := by rintro S w x cs fp ⟨a, c, rfl, hn⟩ h; exact ⟨a, c, rfl, hn.toR h⟩
end Go.Proofs.YtfjaobfaepjfnaaDoor
namespace Go.Proofs.YtfjaobfaepjfnaaDoor
open Go Go.RowKit
structure Elm (wr w : World) (b p n : Nat) (cs : List Value) (G : List Nat) : Prop where
  ext : Ext (inl (b :: G)) wr w
  len : cs.length = n
  cells : ∀ i v, cs[i]? = some v → w.cell? ⟨b, p + i, none⟩ = some v
  rest : ∀ q, (q < p ∨ p + n ≤ q) → w.cell? ⟨b, q, none⟩ = wr.cell? ⟨b, q, none⟩
  fr : ∀ q, w.frozen? ⟨b, q, none⟩ = false
  lt : b < w.heap.size
theorem Elm.new {w : World} {b p n : Nat} {cs : List Value} (hc : CellsAt w b p cs) (hl : cs.length = n) (hf : ∀ q, w.frozen? ⟨b, q, none⟩ = false) (hb : b < w.heap.size) : Elm w w b p n cs [] :=
  ⟨Ext.refl _ _, hl, hc, fun _ _ => rfl, hf, hb⟩
theorem Elm.set {wr w : World} {b p n : Nat} {cs : List Value} {G : List Nat} (h : Elm wr w b p n cs G) (i : Nat) (hi : i < cs.length) (v : Value) : Elm wr (w.setCell ⟨b, p + i, none⟩ v) b p n (cs.set i v) G := by
  have h0 := h.cells i cs[i] (List.getElem?_eq_getElem hi)
  refine ⟨h.ext.setIn (p := ⟨b, p + i, none⟩) (by simp [inl]) v, by rw [List.length_set]; exact h.len, fun j u hj => ?_, fun q hq => ?_, fun q => by rw [World.frozen?_setCell]; exact h.fr q, by rw [size_setCell]; exact h.lt⟩
  · rw [cell_set h0]
    rw [List.getElem?_set] at hj
    by_cases e : j = i
    · subst e; rw [if_pos rfl]; simpa [hi] using hj
    · have hne : ¬ (⟨b, p + j, none⟩ : Addr) = ⟨b, p + i, none⟩ := by intro h'; have := congrArg Addr.off h'; simp at this; exact e this
      rw [if_neg hne]
      rw [if_neg (fun h' => e h'.symm)] at hj
      exact h.cells j u hj
  · have := h.len
    rw [set_ne _ _ _ _ _ _ (.inr (by omega))]; exact h.rest q hq
theorem Elm.set0 {wr w : World} {b p n : Nat} {cs : List Value} {G : List Nat} (h : Elm wr w b p n cs G) (hi : 0 < cs.length) (v : Value) : Elm wr (w.setCell ⟨b, p, none⟩ v) b p n (cs.set 0 v) G := h.set 0 hi v
theorem Elm.sub {wr w w' : World} {b p n : Nat} {cs : List Value} {G g : List Nat} (h : Elm wr w b p n cs G) (he : Ext (inl g) w w') (hb : b ∉ g) : Elm wr w' b p n cs (G ++ g) := by
  refine ⟨(h.ext.mono (fun k hk => ?_)).trans (he.mono (fun k hk => ?_)), h.len, fun i v hi => he.some (h.cells i v hi) hb, fun q hq => ?_, fun q => ?_, Nat.lt_of_lt_of_le h.lt he.size⟩
  · simp [inl] at hk ⊢
    rcases hk with hk | hk
    · exact .inl hk
    · exact .inr (.inl hk)
  · simp [inl] at hk ⊢; exact .inr (.inr hk)
  · rw [he.cell (p := ⟨b, q, none⟩) h.lt hb]; exact h.rest q hq
  · rw [he.frozen (p := ⟨b, q, none⟩) h.lt hb]; exact h.fr q
theorem Elm.grow {wr w w' : World} {b p n : Nat} {cs : List Value} {G : List Nat} (h : Elm wr w b p n cs G) (hg : Grow w w') : Elm wr w' b p n cs G := by
  have := h.sub (g := []) (hg.toX' (X := inl [])) (by simp)
  simpa using this
section rows
variable {α : Type} {E : Rep α}
theorem RowF.append' {w : World} {b : Nat} : ∀ {l m : List α} {o : Nat} {f g : List Nat}, RowF E w b o l f → RowF E w b (o + l.length * E.n) m g → RowF E w b o (l ++ m) (f ++ g)
  | [], m, o, f, g, h1, h2 => by
    cases h1; simpa using h2
  | x :: l, m, o, f, g, h1, h2 => by
    obtain ⟨f1, f2, cs, rfl, hc, hx, hr⟩ := h1
    refine ⟨f1, f2 ++ g, cs, by simp, hc, hx, RowF.append' hr ?_⟩
    rw [show o + E.n + l.length * E.n = o + (x :: l).length * E.n by simp [Nat.succ_mul]; omega]
    exact h2
theorem RowF.split {w : World} {b : Nat} : ∀ {l m : List α} {o : Nat} {fp : List Nat}, RowF E w b o (l ++ m) fp → ∃ f g, fp = f ++ g ∧ RowF E w b o l f ∧ RowF E w b (o + l.length * E.n) m g
  | [], m, o, fp, h => ⟨[], fp, rfl, rfl, by simpa using h⟩
  | x :: l, m, o, fp, h => by
    obtain ⟨f1, f2, cs, rfl, hc, hx, hr⟩ := h
    obtain ⟨f, g, rfl, h1, h2⟩ := RowF.split hr
    rw [show o + E.n + l.length * E.n = o + (x :: l).length * E.n by simp [Nat.succ_mul]; omega] at h2
    exact ⟨f1 ++ f, g, by simp, ⟨f1, f, cs, rfl, hc, hx, h1⟩, h2⟩
def mkR (mk : Nat → α → α) (cnt : α → Nat) : Nat → List α → List α
  | _, [] => []
  | k, x :: l => mk k x :: mkR mk cnt (k + cnt x) l
def cntR (cnt : α → Nat) (l : List α) : Nat := (l.map cnt).sum
theorem mkR_len (mk : Nat → α → α) (cnt : α → Nat) (k : Nat) (l : List α) : (mkR mk cnt k l).length = l.length := by
  induction l generalizing k with
  | nil => rfl
  | cons x l ih => simp [mkR, ih]
theorem mkR_snoc (mk : Nat → α → α) (cnt : α → Nat) (k : Nat) (l : List α) (x : α) : mkR mk cnt k (l ++ [x]) = mkR mk cnt k l ++ [mk (k + cntR cnt l) x] := by
  induction l generalizing k with
  | nil => simp [mkR, cntR]
  | cons a l ih => simp only [List.cons_append, mkR, ih, cntR, List.map_cons, List.sum_cons]; rw [Nat.add_assoc]
theorem cntR_snoc (cnt : α → Nat) (l : List α) (x : α) : cntR cnt (l ++ [x]) = cntR cnt l + cnt x := by simp [cntR]
theorem cntR_take (cnt : α → Nat) (l : List α) (j : Nat) : cntR cnt (l.take j) ≤ cntR cnt l := by
  unfold cntR; rw [List.map_take]; exact sum_take_le _ _
theorem RowF.marked {wr w : World} {b o p B : Nat} {l1 l2 : List α} {x' : α} {cs' : List Value} {f1 fx f2 G : List Nat} (h1 : RowF E wr b o l1 f1) (h2 : RowF E wr b (p + E.n) l2 f2) (hp : p = o + l1.length * E.n)
    (he : Elm wr w b p E.n cs' G) (hG : ∀ y ∈ G, y ∈ fx) (hfr : Free B wr (b :: (f1 ++ (fx ++ f2)))) (hx : E.F w x' cs' fx) : RowF E w b o (l1 ++ x' :: l2) (f1 ++ (fx ++ f2)) := by
  obtain ⟨hb, hnd⟩ := List.nodup_cons.1 hfr.1
  have keepF : ∀ y, y ∈ f1 ++ (fx ++ f2) → y ∉ fx → ∀ q, w.cell? ⟨y, q, none⟩ = wr.cell? ⟨y, q, none⟩ := fun y hy hyx q => by
    refine he.ext.cell (p := ⟨y, q, none⟩) (hfr.2 y (List.mem_cons_of_mem _ hy)).2.1 (fun h => ?_)
    simp [inl] at h
    rcases h with h | h
    · subst h; exact hb hy
    · exact hyx (hG y h)
  have d1 : ∀ y ∈ f1, y ∉ fx := fun y hy h => (List.nodup_append.1 hnd).2.2 y hy y (by simp [h]) rfl
  have d2 : ∀ y ∈ f2, y ∉ fx := fun y hy h => (List.nodup_append.1 (List.nodup_append.1 hnd).2.1).2.2 y h y hy rfl
  refine RowF.append' (h1.keep (fun y hy q => keepF y (by simp [hy]) (d1 y hy) q) (fun q _ hq => he.rest q (.inl (by omega)))) ?_
  rw [← hp]
  exact ⟨fx, f2, cs', rfl, he.cells, hx, h2.keep (fun y hy q => keepF y (by simp [hy]) (d2 y hy) q) (fun q hq _ => he.rest q (.inr hq))⟩
theorem Elm.free {wr w : World} {b p n B : Nat} {cs : List Value} {G f : List Nat} (he : Elm wr w b p n cs G) (hf : Free B wr (b :: f)) (hG : ∀ y ∈ G, ∀ q, w.frozen? ⟨y, q, none⟩ = false) : Free B w (b :: f) := by
  refine hf.sub he.ext (fun y hy q => ?_)
  rcases List.mem_cons.1 hy with rfl | hy
  · exact he.fr q
  · exact hG y hy q
end rows
theorem NodesF.keep' {w w' : World} {a : Option Addr} {c : Nat} {l : List Nd} {fp : List Nat} (hs : NodesF w a c l fp) (h : ∀ b ∈ fp, ∀ o, w'.cell? ⟨b, o, none⟩ = w.cell? ⟨b, o, none⟩) : NodesF w' a c l fp := hs.keep h
end Go.Proofs.YtfjaobfaepjfnaaDoor
namespace Go.Proofs.YtfjaobfaepjfnaaDoor
open Go.RowKit
theorem markNode_ok (n : Nd) (na : Option Addr) (nc : Nat) (ka : Option Addr) (kc : Nat) (fp : List Nat) (B k : Nat) (i : Int) (w : World) (hi : i = (k : Int)) (hF : NodeF w n na nc ka kc fp) (hfr : Free B w fp) (h1 : 0 < k) (h2 : k + cntT n ≤ 1000000000) :
    Calls Tryd.prog 27 #[nodeV n na nc ka kc, .int .i64 i] w fun e w' => e = .returned (.int .i64 ((k + cntT n : Nat) : Int)) ∧ Ext (inl fp) w w' ∧ Free B w' fp ∧ NodeF w' (mkT k n) na nc ka kc fp := by
  subst hi
  obtain ⟨f1, f2, rfl, htx, hs, hk⟩ := hF.parts
  have hct : cntT n = n.names.length + cntL n.kids := rfl
  have hnd := List.nodup_append.1 hfr.1
  have hf1 : Free B w f1 := ⟨hnd.1, fun y hy => hfr.2 y (by simp [hy])⟩
  have hf2 : Free B w f2 := ⟨hnd.2.1, fun y hy => hfr.2 y (by simp [hy])⟩
  have hd : ∀ y, y ∈ f1 → y ∈ f2 → False := fun y h1 h2 => hnd.2.2 y h1 y h2 rfl
  have Hct := Lib.hid hct
  have Hs := Lib.hid hs
  have Hk := Lib.hid hk
  have Htx := Lib.hid htx
  have Hf1 := Lib.hid hf1
  have Hf2 := Lib.hid hf2
  have Hd := Lib.hid hd
  have Hfr := Lib.hid hfr
  clear hct hs hk htx hf1 hf2 hd hnd hF hfr
  unfold nodeV
  go_enter Tryd.func27, Tryd.ntmps27
  go_wp2_with fail
  have hga : Grow w (w.alloc (.cells #[.int .i64 n.kind, .int .i64 n.num, .string n.text, .slice na n.names.length nc, .slice ka n.kids.length kc] 26)) := (Ext.refl nil w).alloc _
  have hB0 := BoxN.new w (nodeL n na nc ka kc) 26
  have hlt : ∀ y ∈ f1 ++ f2, y < w.heap.size := fun y hy => (Hfr.out.2 y hy).2.1
  have Hlt := Lib.hid hlt
  have HB0 := Lib.hid hB0
  clear hlt hB0
  refine (markStringS_i na nc n.names f1 B k _ _ rfl (Hs.out.keep (hga.keeps Hf1.out (fun _ _ h => h))) (Hf1.out.ext hga (fun _ _ h => h)) (by omega) (by have := Hct.out; omega)).mono ?_
  rintro e w2 ⟨rfl, hx2, hfr2, hF2⟩
  have B2 := HB0.out.ext hx2 (fun h => by have := Hlt.out _ (List.mem_append_left f2 h); omega)
  have p4 := B2.cell 4 _ rfl
  have hk2 := Hk.out.keep' (w' := w2) (fun y hy o => by rw [hx2.cell (p := ⟨y, o, none⟩) (by have := Hlt.out y (by simp [hy]); simp; omega) (fun h => Hd.out y h hy)]; exact hga.cell (p := ⟨y, o, none⟩) (Hlt.out y (by simp [hy])) (fun h => h))
  have hf22 := (Hf2.out.ext hga (fun _ _ h => h)).ext hx2 (fun y hy h => Hd.out y h hy)
  have Hx2 := Lib.hid (hga.toX'.trans (hx2.mono (Y := inl (f1 ++ f2)) (fun y hy => List.mem_append_left f2 hy)))
  have Hk2 := Lib.hid hk2
  have Hf22 := Lib.hid hf22
  have Hfr2 := Lib.hid hfr2
  have HF2 := Lib.hid hF2
  clear hx2 hfr2 hF2 hk2 hf22 B2 hga
  go_wp2_with fail
  refine (markNodeS_ok n.kids ka kc f2 B (k + n.names.length) _ _ (by omega) Hk2.out Hf22.out (by omega) (by have := Hct.out; omega)).mono ?_
  rintro e w3 ⟨rfl, hx3, hfr3, hF3⟩
  have hs3 := HF2.out.keep (w' := w3) (fun y hy o => hx3.cell (p := ⟨y, o, none⟩) (Hfr2.out.2 y hy).2.1 (fun h => Hd.out y hy h))
  have hfr13 := Hfr2.out.ext hx3 (fun y hy h => Hd.out y hy h)
  have Hres : Hid (Ext (inl (f1 ++ f2)) w w3 ∧ Free B w3 (f1 ++ f2) ∧ NodeF w3 (mkT k n) na nc ka kc (f1 ++ f2)) := Lib.hid ⟨Hx2.out.trans (hx3.mono (fun y hy => List.mem_append_right f1 hy)), hfr13.app2 hfr3 Hd.out, by
    unfold mkT NodeF
    obtain ⟨q1, q2, q3⟩ := hF3
    refine ⟨f1, f2, rfl, Htx.out, hs3, q1, q2, ?_⟩
    rcases q3 with ⟨h, h'⟩ | ⟨b, o, f3, q4, q5, q6, q7⟩
    · exact .inl ⟨h, h'⟩
    · exact .inr ⟨b, o, f3, q4, q5, q6, q7⟩⟩
  clear hx3 hfr3 hF3 hs3 hfr13
  go_wp2_with fail
  go_ret
  exact ⟨by rw [Hct.out]; simp; omega, Hres.out⟩
end Go.Proofs.YtfjaobfaepjfnaaDoor
namespace Go.Proofs.YtfjaobfaepjfnaaDoor
open Go.RowKit
abbrev Ent := Nd × ByteArray
end Go.Proofs.YtfjaobfaepjfnaaDoor
namespace Go.Proofs.YtfjaobfaepjfnaaDoor
open Go.RowKit
end Go.Proofs.YtfjaobfaepjfnaaDoor
namespace Go.Proofs.YtfjaobfaepjfnaaDoor
open Go.RowKit
end Go.Proofs.YtfjaobfaepjfnaaDoor
namespace Go.Proofs.YtfjaobfaepjfnaaDoor
open Go.RowKit
def sgnI (a b : Int) : Int := if a < b then -1 else if b < a then 1 else 0
def sgnT (a b : ByteArray) : Int := if lt a b then -1 else if lt b a then 1 else 0
end Go.Proofs.YtfjaobfaepjfnaaDoor
namespace Go.Proofs.YtfjaobfaepjfnaaDoor
open Go.RowKit
mutual
def cmpN : Nd → Nd → Int
  | ⟨kind, num, text, names, kids⟩, b =>
    if sgnI kind b.kind ≠ 0 then sgnI kind b.kind else if sgnI num b.num ≠ 0 then sgnI num b.num else if sgnT text b.text ≠ 0 then sgnT text b.text
    else cmpKs (decide (kind = 4)) names b.names kids b.kids
def cmpKs : Bool → List ByteArray → List ByteArray → List Nd → List Nd → Int
  | m, ns, ms, k :: ks, j :: js =>
    if m = true ∧ sgnT (ns.headD ⟨#[]⟩) (ms.headD ⟨#[]⟩) ≠ 0 then sgnT (ns.headD ⟨#[]⟩) (ms.headD ⟨#[]⟩) else if cmpN k j ≠ 0 then cmpN k j else cmpKs m ns.tail ms.tail ks js
  | _, _, _, [], js => sgnI 0 js.length
  | _, _, _, ks, [] => sgnI ks.length 0
end
end Go.Proofs.YtfjaobfaepjfnaaDoor
namespace Go.Proofs.YtfjaobfaepjfnaaDoor
open Go.RowKit
end Go.Proofs.YtfjaobfaepjfnaaDoor
namespace Go.Proofs.YtfjaobfaepjfnaaDoor
open Go.RowKit
def frB (lo hi : Nd) (e : Ent) : Bool := decide (cmpN lo e.1 ≤ 0) && decide (cmpN e.1 hi ≤ 0)
end Go.Proofs.YtfjaobfaepjfnaaDoor
namespace Go.Proofs.YtfjaobfaepjfnaaDoor
open Go.RowKit
mutual
theorem cntK_le : ∀ n : Nd, cntK n ≤ 3 + 3 * costN n
  | ⟨_, _, text, names, kids⟩ => by
    have h := cntL_le kids
    have h2 : names.length ≤ costS names := by simp [costS]
    simp only [cntK, costN]; omega
theorem cntL_le : ∀ l : List Nd, cntL l ≤ 3 * costL l
  | [] => by simp [cntL]
  | k :: ks => by
    have h1 := cntK_le k
    have h2 := cntL_le ks
    simp only [cntL, costL]; omega
end
theorem cntT_le (n : Nd) : cntT n ≤ 3 * costN n := by
  have := cntK_le n
  rw [cntK_eq] at this; unfold cntT; omega
def Seg (A Z : Nat) (w : World) (fp : List Nat) : Prop := Free A w fp ∧ ∀ y ∈ fp, y < Z
theorem Seg.of {A : Nat} {w : World} {fp : List Nat} (h : Free A w fp) : Seg A w.heap.size w fp := ⟨h, fun y hy => (h.2 y hy).2.1⟩
theorem Seg.grow {A Z : Nat} {w w' : World} {fp : List Nat} (h : Seg A Z w fp) (hg : Grow w w') : Seg A Z w' fp := ⟨h.1.ext hg (fun _ _ h => h), h.2⟩
theorem Seg.off {A Z A' Z' : Nat} {w w0 : World} {fp fx : List Nat} (h : Seg A Z w fp) (hx : Seg A' Z' w0 fx) (hd : Z ≤ A' ∨ Z' ≤ A) : ∀ y ∈ fp, ¬ inl fx y := fun y hy h2 => by
  have h3 := h.2 y hy
  have h4 := (h.1.2 y hy).1
  have h5 := hx.2 y h2
  have h6 := (hx.1.2 y h2).1
  omega
theorem Seg.ext {A Z A' Z' : Nat} {w w' w0 : World} {fp fx : List Nat} (h : Seg A Z w fp) (hx : Seg A' Z' w0 fx) (hd : Z ≤ A' ∨ Z' ≤ A) (he : Ext (inl fx) w w') : Seg A Z w' fp := ⟨h.1.ext he (h.off hx hd), h.2⟩
theorem Seg.keeps {A Z A' Z' : Nat} {w w' w0 : World} {fp fx : List Nat} (h : Seg A Z w fp) (hx : Seg A' Z' w0 fx) (hd : Z ≤ A' ∨ Z' ≤ A) (he : Ext (inl fx) w w') : ∀ b ∈ fp, ∀ o, w'.cell? ⟨b, o, none⟩ = w.cell? ⟨b, o, none⟩ := he.keeps h.1 (h.off hx hd)
theorem Seg.marked {A Z : Nat} {w w' : World} {fp : List Nat} (h : Seg A Z w fp) (h' : Free A w' fp) : Seg A Z w' fp := ⟨h', h.2⟩
theorem Seg.inner {A Z : Nat} {w0 w w' : World} {fp : List Nat} (h : Seg A Z w fp) (hg : Grow w0 w) (he : Ext (inl fp) w w') (hA : w0.heap.size ≤ A) : Grow w0 w' :=
  hg.inner he (fun i hi => Nat.le_trans hA (h.1.2 i hi).1)
theorem Seg.box {A Z b : Nat} {w0 w w' : World} {fp : List Nat} {cs : List Value} (h : Seg A Z w0 fp) (hB : BoxN w b cs) (he : Ext (inl fp) w w') (hd : b < A ∨ Z ≤ b) : BoxN w' b cs :=
  hB.ext he (fun hi => by have h3 := h.2 b hi; have h4 := (h.1.2 b hi).1; omega)
theorem Seg.below {A Z : Nat} {w0 w w' : World} {fp : List Nat} {a : Option Addr} {c Y : Nat} {xs : List ByteArray} (h : Seg A Z w0 fp) (hs : StrsR w (fun k => k < Y) a c xs) (he : Ext (inl fp) w w') (hd : Y ≤ A) : StrsR w' (fun k => k < Y) a c xs :=
  hs.ext he (fun k hk hi => by have h4 := (h.1.2 k hi).1; omega)
theorem StrsR.under {S : Nat → Prop} {w : World} {a : Option Addr} {c : Nat} {xs : List ByteArray} (h : StrsR w S a c xs) : StrsR w (fun k => k < w.heap.size) a c xs := h.lt.mono (fun _ h => h.2)
end Go.Proofs.YtfjaobfaepjfnaaDoor
namespace Go.Proofs.YtfjaobfaepjfnaaDoor
open Go.RowKit
def packA (cs : List Value) : Value := .agg cs.toArray
def packO (cs : List Value) : Value := cs.headD undef
def RV {α : Type} (E : Rep α) (pk : List Value → Value) (w : World) (S : Nat → Prop) (x : α) (v : Value) : Prop := ∃ cs, v = pk cs ∧ E.R w S x cs
def FV {α : Type} (E : Rep α) (pk : List Value → Value) (w : World) (x : α) (v : Value) (fp : List Nat) : Prop := ∃ cs, v = pk cs ∧ E.F w x cs fp
section
variable {α : Type} {E : Rep α} {pk : List Value → Value}
theorem RV.ext {X S : Nat → Prop} {w w' : World} {x : α} {v : Value} (h : RV E pk w S x v) (he : Ext X w w') (hS : ∀ k, S k → ¬ X k) : RV E pk w' S x v := by
  obtain ⟨cs, hv, hc⟩ := h; exact ⟨cs, hv, E.ext he hS hc⟩
theorem RV.grow {S : Nat → Prop} {w w' : World} {x : α} {v : Value} (h : RV E pk w S x v) (hg : Grow w w') : RV E pk w' S x v := h.ext hg (fun _ _ h => h)
theorem RV.mono {S T : Nat → Prop} {w : World} {x : α} {v : Value} (h : RV E pk w S x v) (hS : ∀ k, S k → T k) : RV E pk w T x v := by
  obtain ⟨cs, hv, hc⟩ := h; exact ⟨cs, hv, E.mono hS hc⟩
theorem RV.any {S : Nat → Prop} {w : World} {x : α} {v : Value} (h : RV E pk w S x v) : RV E pk w any x v := h.mono (fun _ _ => trivial)
theorem RV.under {S : Nat → Prop} {w : World} {x : α} {v : Value} (h : RV E pk w S x v) : RV E pk w (fun k => k < w.heap.size) x v := by
  obtain ⟨cs, hv, hc⟩ := h; exact ⟨cs, hv, E.mono (fun _ h => h.2) (E.lt hc)⟩
theorem FV.keep {w w' : World} {x : α} {v : Value} {fp : List Nat} (h : FV E pk w x v fp) (hk : ∀ b ∈ fp, ∀ o, w'.cell? ⟨b, o, none⟩ = w.cell? ⟨b, o, none⟩) : FV E pk w' x v fp := by
  obtain ⟨cs, hv, hc⟩ := h; exact ⟨cs, hv, E.keep hc hk⟩
theorem FV.rv {w : World} {x : α} {v : Value} {fp : List Nat} (h : FV E pk w x v fp) : RV E pk w Go.Proofs.YtfjaobfaepjfnaaDoor.any x v := by
  obtain ⟨cs, hv, hc⟩ := h; exact ⟨cs, hv, E.toR hc (fun _ _ => trivial)⟩
theorem FV.grow {w w' : World} {x : α} {v : Value} {fp : List Nat} {A Z : Nat} (h : FV E pk w x v fp) (hs : Seg A Z w fp) (hg : Grow w w') : FV E pk w' x v fp := h.keep (hg.keeps hs.1 (fun _ _ h => h))
theorem Seg.rv {A Z Y : Nat} {w0 w w' : World} {fp : List Nat} {x : α} {v : Value} (h : Seg A Z w0 fp) (hs : RV E pk w (fun k => k < Y) x v) (he : Ext (inl fp) w w') (hd : Y ≤ A) : RV E pk w' (fun k => k < Y) x v :=
  hs.ext he (fun k hk hi => by have h4 := (h.1.2 k hi).1; omega)
end
theorem strs_open {w : World} {S : Nat → Prop} {x : List ByteArray} {v : Value} (h : RV strsRep packO w S x v) : ∃ a c, v = .slice a x.length c ∧ StrsR w S a c x := by
  obtain ⟨cs, rfl, a, c, rfl, hs⟩ := h; exact ⟨a, c, rfl, hs⟩
theorem strs_shut {w : World} {S : Nat → Prop} {x : List ByteArray} {a : Option Addr} {c : Nat} (h : StrsR w S a c x) : RV strsRep packO w S x (.slice a x.length c) := ⟨_, rfl, a, c, rfl, h⟩
def cntS (x : List ByteArray) : Nat := x.length
def mkSS (k : Nat) (x : List ByteArray) : List ByteArray := mkS k x.length
theorem uEqS (x : List ByteArray) (v u : Value) (w : World) (h : RV strsRep packO w any x v) (h' : RV strsRep packO w any x u) :
    Calls Tryd.prog 34 #[v, u] w fun e w' => e = .returned (.bool true) ∧ Grow w w' := by
  obtain ⟨a, c, rfl, hs⟩ := strs_open h
  obtain ⟨a', c', rfl, hs'⟩ := strs_open h'
  exact (eqStringS_ok _ _ _ _ x x w hs hs').mono fun e w' ⟨he, hg⟩ => ⟨by rw [he]; simp [eqS], hg⟩
theorem node_open {w : World} {S : Nat → Prop} {x : Nd} {v : Value} (h : RV nodeRep packA w S x v) : NodeR w S x v := by
  obtain ⟨cs, rfl, na, nc, ka, kc, rfl, hs⟩ := h; exact ⟨na, nc, ka, kc, rfl, hs⟩
theorem uSzN (x : Nd) (v : Value) (left : Int) (w : World) (h0 : 0 ≤ left) (h1 : left ≤ 1048576) (h : RV nodeRep packA w any x v) :
    Calls Tryd.prog 21 #[v, .int .i64 left] w fun e w' => e = .returned (.int .i64 (szR (costN x) left)) ∧ Grow w w' := szNode_ok x v left w h0 h1 (node_open h)
theorem uToN (x : Nd) (v : Value) (w : World) (hc : costN x ≤ 1048576) (h : RV nodeRep packA w any x v) :
    Calls Tryd.prog 23 #[v] w fun e w' => ∃ v' fp, e = .returned v' ∧ Grow w w' ∧ FV nodeRep packA w' x v' fp ∧ Free w.heap.size w' fp :=
  (toNode_ok x v w hc (node_open h)).mono fun e w' ⟨v', fp, he, hg, ⟨na, nc, ka, kc, hv, hF⟩, hfr⟩ => ⟨v', fp, he, hg, ⟨_, hv, na, nc, ka, kc, rfl, hF⟩, hfr⟩
theorem uEqN (x : Nd) (v u : Value) (w : World) (h : RV nodeRep packA w any x v) (h' : RV nodeRep packA w any x u) :
    Calls Tryd.prog 26 #[v, u] w fun e w' => e = .returned (.bool true) ∧ Grow w w' :=
  (eqNode_ok x x v u w (node_open h) (node_open h')).mono fun e w' ⟨he, hg⟩ => ⟨by rw [he, eqN_refl], hg⟩
theorem uMarkN (x : Nd) (v : Value) (fp : List Nat) (B k : Nat) (i : Int) (w : World) (hi : i = (k : Int)) (hF : FV nodeRep packA w x v fp) (hfr : Free B w fp) (h1 : 0 < k) (h2 : k + cntT x ≤ 1000000000) :
    Calls Tryd.prog 27 #[v, .int .i64 i] w fun e w' => e = .returned (.int .i64 ((k + cntT x : Nat) : Int)) ∧ Ext (inl fp) w w' ∧ Free B w' fp ∧ FV nodeRep packA w' (mkT k x) v fp := by
  obtain ⟨cs, rfl, na, nc, ka, kc, rfl, hs⟩ := hF
  refine (markNode_ok x na nc ka kc fp B k i w hi hs hfr h1 h2).mono fun e w' ⟨he, hx, hf, hF⟩ => ⟨he, hx, hf, _, rfl, na, nc, ka, kc, ?_, hF⟩
  unfold nodeL mkT
  simp only [mkS_len, mkL_len]
end Go.Proofs.YtfjaobfaepjfnaaDoor
namespace Go.Proofs.YtfjaobfaepjfnaaDoor.Eng
open Go Go.RowKit
theorem at_strsE : ∀ (xs : List ByteArray), atE (strsE xs) = []
  | [] => by unfold strsE; rw [List.map_nil, atE_nil]
  | x :: xs => by
    have := at_strsE xs
    unfold strsE at this ⊢
    rw [List.map_cons, atE_cons, this, atL_cons, at_str, atL_nil]; rfl
section
variable {w : World} {ρ : Cx}
theorem strsF_of_rep {g : Nat} {xs : List ByteArray} {a : Option Addr} {c : Nat} (h : Rep w ρ (.view (.fr g) 1 (strsE xs)) (.slice a xs.length c)) : StrsF w a c xs (frB (.fr g) xs.isEmpty) := by
  obtain ⟨a', c', h1, _, h3, h4, h5, h6⟩ := rep_view.1 h
  rw [strsE_len] at *
  cases h1
  have hsz : ∀ x ∈ xs, x.size ≤ big := by
    rcases h6 with h6 | ⟨b, o, ha, hb, he⟩
    · unfold strsE at h6
      rw [List.map_eq_nil_iff.1 h6]
      exact fun x hx => by cases hx
    · intro x hx
      obtain ⟨i, hi, rfl⟩ := List.getElem_of_mem hx
      obtain ⟨u, q1, _, q3⟩ := (he.get h5 (i := i) (e := [.str xs[i]]) (by rw [strsE_get, List.getElem?_eq_getElem hi]; rfl)).get (i := 0) rfl
      exact (rep_str.1 q3).2
  refine ⟨h3, h4, hsz, ?_⟩
  by_cases hne : xs = []
  · subst hne; exact .inl ⟨rfl, rfl⟩
  · rcases h6 with h6 | ⟨b, o, ha, hb, he⟩
    · unfold strsE at h6
      exact absurd (List.map_eq_nil_iff.1 h6) hne
    · obtain ⟨_, rfl, _⟩ := hb
      refine .inr ⟨b, o, hne, ha, ?_, fun i hi => ?_⟩
      · cases xs with
        | nil => exact absurd rfl hne
        | cons x xs => rfl
      · obtain ⟨u, q1, _, q3⟩ := (he.get h5 (i := i) (e := [.str xs[i]]) (by rw [strsE_get, List.getElem?_eq_getElem hi]; rfl)).get (i := 0) rfl
        rw [(rep_str.1 q3).1] at q1
        simpa using q1
end
end Go.Proofs.YtfjaobfaepjfnaaDoor.Eng
-- EV: fresh
namespace Go.Proofs.YtfjaobfaepjfnaaDoor.Eng
open Go Go.RowKit
attribute [local simp] big size_mk ASt.pay Option.map_map Function.comp_def awant aop acall ado aev ofVal ofVal0 ASt.put ASt.add ASt.turn ASt.kill abox aalloc astore aload aloadD astoreD idOf ASt.at cellsTo afieldAddr afield aindexAddr aindex alen abin aint acmp astr aun apick aextract anil aslice abound abuild afill abuildSlice asCells aps avCells over upd aappend asrc amax amin aconv mkSt slots rowsOf_cons rowsOf_nil usedOf_cons usedOf_nil ZK.av List.replicate ASt.back ASt.addL ASt.killL nodeA nodeT nodeTL_eq nodeL_eq strsE_get strsE_len intsE_get intsE_len strsE_at intsE_at tab2 tab3 tab4 tab5 tab6 tab7 tab8 tab9 tab10 tab11 tab12 tab13 tab14 tab15 tab16 tab17 tab18 tab19 tab21 tab22 tab23 tab24 tab25 tab26 tab28 tab29 tab30 tab31 tab42 tab43 tab44 tab46 tab63 tab64 tab67 tab68 tab75 tab98 tab100 tab101 tab105 tab106 tab107 tab122 tab123 tab125 tab128 tab138 tab144 tab151 tab152 tab157 tab158 tab160 tab161 tab162
end Go.Proofs.YtfjaobfaepjfnaaDoor.Eng
-- EV: fresh
namespace Go.Proofs.YtfjaobfaepjfnaaDoor
open Go.RowKit
theorem openV_node {w : World} {S : Nat → Prop} {x : Nd} {v : Value} (h : RV nodeRep packA w S x v) : ∃ na nc ka kc, v = nodeV x na nc ka kc := by
  obtain ⟨na, nc, ka, kc, hv, _⟩ := node_open h
  exact ⟨na, nc, ka, kc, hv⟩
namespace Eng
theorem ACF.weak {P : Program} {f : FuncId} {args : List AV} {c : Nat} {Q : AV → Prop} (h : ACF P f args c (fun r => ∃ r', Wk r r' ∧ (∀ b ∈ atB r', b ∈ atB r) ∧ Q r')) : ACF P f args c Q :=
  ⟨h.1, fun w L S rb k vs h0 h1 h2 h3 => (h.2 w L S rb k vs h0 h1 h2 h3).mono fun e w' ⟨v, r, S', k1, k2, k3, k4, k5, k6, ⟨r', q1, q2, q3⟩, k8⟩ => ⟨v, r', S', k1, k2, k3, k4, k5, q1 _ _ _ k6, q3, fun b hb => k8 b (q2 b hb)⟩⟩
theorem arg_node {w : World} {n : Nd} {v : Value} (h : RV nodeRep packA w Go.Proofs.YtfjaobfaepjfnaaDoor.any n v) : Rep w (pureC nil (fun k => k < w.heap.size) none) (nodeA n) v := rep_of_node (node_open h.under)
theorem args1 {w : World} {ρ : Cx} {a : AV} {v : Value} (h : Rep w ρ a v) : RepL w ρ [a] [v] := by unfold RepL; exact ⟨_, _, rfl, h, by unfold RepL; rfl⟩
end Eng
end Go.Proofs.YtfjaobfaepjfnaaDoor
namespace Go.Proofs.YtfjaobfaepjfnaaDoor
open Go.RowKit
theorem strsRep_n : strsRep.n = 1 := rfl
theorem strsRep_pos : 0 < strsRep.n := by rw [strsRep_n]; omega
def pathsRep : Rep (List (List ByteArray)) := slRep strsRep strsRep_pos
def cntSS (l : List (List ByteArray)) : Nat := cntR cntS l
def mkSSS (k : Nat) (l : List (List ByteArray)) : List (List ByteArray) := mkR mkSS cntS k l
theorem paths_open {w : World} {S : Nat → Prop} {l : List (List ByteArray)} {v : Value} (h : RV pathsRep packO w S l v) : ∃ a c, v = .slice a l.length c ∧ SlR strsRep w S a c l := by
  obtain ⟨cs, rfl, a, c, rfl, hs⟩ := h; exact ⟨a, c, rfl, hs⟩
theorem slR_strs {w : World} {S : Nat → Prop} {a : Option Addr} {c : Nat} {l : List (List ByteArray)} (h : SlR strsRep w S a c l) {j : Nat} (hj : j < l.length) :
    ∃ b o a' c', a = some ⟨b, o, none⟩ ∧ w.cell? ⟨b, o + j, none⟩ = some (.slice a' l[j].length c') ∧ StrsR w S a' c' l[j] := by
  obtain ⟨_, _, h3⟩ := h
  rcases h3 with rfl | ⟨b, o, rfl, _, hc⟩
  · simp at hj
  obtain ⟨cs, h1, a', c', rfl, h2⟩ := hc j hj
  have := h1 0 _ rfl
  rw [strsRep_n] at this
  exact ⟨b, o, a', c', rfl, by simpa using this, h2⟩
theorem uEqSS (l : List (List ByteArray)) (v u : Value) (w : World) (h : RV pathsRep packO w any l v) (h' : RV pathsRep packO w any l u) :
    Calls Tryd.prog 25 #[v, u] w fun e w' => e = .returned (.bool true) ∧ Grow w w' := by
  obtain ⟨a, c, rfl, hs⟩ := paths_open h
  obtain ⟨a', c', rfl, hs'⟩ := paths_open h'
  have hbig : l.length ≤ 9223372036854775807 := hs.2.1
  have Hs := Lib.hid hs
  have Hs' := Lib.hid hs'
  clear h hs h' hs'
  go_enter Tryd.func25, Tryd.ntmps25
  go_wp2_with fail
  go_loopw [4, 5] (fun n i wr => n = .bool false ∧ Grow w wr ∧ ∃ k : Nat, k ≤ l.length ∧ i = .int .i64 k) (fun _ i _ => l.length - (intOf i).toNat)
  case atStart => exact ⟨rfl, Ext.refl _ _, 0, Nat.zero_le _, rfl⟩
  case round =>
    obtain ⟨rfl, hg, k, hk, rfl⟩ := hrel
    by_cases hlt : k < l.length
    · obtain ⟨b, o, a1, c1, rfl, x1, h1⟩ := slR_strs (Hs.out.grow hg) hlt
      obtain ⟨b', o', a2, c2, rfl, x2, h2⟩ := slR_strs (Hs'.out.grow hg) hlt
      have HC : Hid (∀ w', Grow wr w' → Calls Tryd.prog 34 #[.slice a1 l[k].length c1, .slice a2 l[k].length c2] w' fun e w'' => e = .returned (.bool true) ∧ Grow w' w'') := Lib.hid (fun w' hg' => uEqS l[k] _ _ w' (strs_shut (h1.grow hg')) (strs_shut (h2.grow hg')))
      have k1 : (k : Int) < (l.length : Int) := by omega
      have k2 : (0 : Int) ≤ (k : Int) := by omega
      clear h1 h2
      go_wp2_with fail
      (refine wp_region_later (by kernel_rfl) (by kernel_rfl) ?_; (repeat (first | go_big_quiet_step ((go_at_call 34; exact later_call (v := .bool true) (HC.out _ (later_grow _ _)))) | quiet_step ((go_at_call 34; exact later_call (v := .bool true) (HC.out _ (later_grow _ _)))))); refine wpQuiet_nil ?_; rintro _ ⟨x_w2, rfl⟩; have hg_w2 := later_grow _ x_w2; generalize later _ x_w2 = w2 at hg_w2 ⊢)
      go_wp2_with fail
      go_roundw
      case rel => exact ⟨rfl, (by repeat (first | with_reducible exact Ext.refl _ _ | with_reducible refine Ext.trans ?_ (by assumption) | with_reducible refine Ext.drew ?_ | with_reducible refine Ext.drewN ?_ _ | with_reducible refine Ext.alloc ?_ _ | with_reducible refine Ext.setNew ?_ (by simp; done) _ | with_reducible refine Ext.setNew ?_ (by simp; omega) _)), k + 1, by omega, by go_num⟩
      case measure => simp [intOf]; omega
    · go_wp2_with fail
      go_ret
      exact ⟨by simp, hg⟩
theorem uMarkSS (l : List (List ByteArray)) (v : Value) (fp : List Nat) (B k : Nat) (i : Int) (w : World) (hi : i = (k : Int)) (hF : FV pathsRep packO w l v fp) (hfr : Free B w fp) (h1 : 0 < k) (h2 : k + cntSS l ≤ 1000000000) :
    Calls Tryd.prog 28 #[v, .int .i64 i] w fun e w' => e = .returned (.int .i64 ((k + cntSS l : Nat) : Int)) ∧ Ext (inl fp) w w' ∧ Free B w' fp ∧ FV pathsRep packO w' (mkSSS k l) v fp := by
  subst hi
  obtain ⟨cs0, rfl, a, c, rfl, hle, hlen, hcc⟩ := hF
  have hl : l.length ≤ 9223372036854775807 := hlen
  unfold packO
  simp only [List.headD]
  rcases hcc with ⟨rfl, rfl⟩ | ⟨b, o, f, hne, rfl, rfl, hcc⟩
  · go_enter Tryd.func28, Tryd.ntmps28
    go_wp2_with fail
    go_loopw [1, 5] (fun t1 i wr => t1 = .int .i64 k ∧ i = .int .i64 0 ∧ wr = w) (fun _ _ _ => 0)
    case atStart => exact ⟨rfl, rfl, rfl⟩
    case round =>
      obtain ⟨rfl, rfl, rfl⟩ := hrel
      go_wp2_with fail
      go_ret
      exact ⟨by simp [cntSS, cntR], Ext.refl _ _, hfr, [.slice a 0 c], rfl, a, c, by simp [mkSSS, mkR], by simp [mkSSS, mkR], by simp [mkSSS, mkR], .inl ⟨rfl, rfl⟩⟩
  · have Hle := Lib.hid hle
    have Hlen := Lib.hid hlen
    have Hne := Lib.hid hne
    have h2' : k + cntR cntS l ≤ 1000000000 := h2
    have hK0 : RowF strsRep w b o (mkR mkSS cntS k (l.take 0) ++ l.drop 0) f := by simpa [mkR] using hcc
    clear hle hlen hne hcc h2
    go_enter Tryd.func28, Tryd.ntmps28
    go_wp2_with fail
    go_loopw [1, 5] (fun t1 i wr => ∃ j : Nat, j ≤ l.length ∧ i = .int .i64 j ∧ t1 = .int .i64 ((k + cntR cntS (l.take j) : Nat) : Int) ∧ Ext (inl (b :: f)) w wr ∧ Free B wr (b :: f) ∧ RowF strsRep wr b o (mkR mkSS cntS k (l.take j) ++ l.drop j) f) (fun _ i _ => l.length - (intOf i).toNat)
    case atStart => exact ⟨0, Nat.zero_le _, rfl, rfl, Ext.refl _ _, hfr, hK0⟩
    case round =>
      obtain ⟨j, hj, rfl, rfl, hg, hfr', hK⟩ := hrel
      have hct := cntR_take cntS l j
      have Hg := Lib.hid hg
      have Hfr := Lib.hid hfr'
      have HK := Lib.hid hK
      clear hg hfr' hK hfr hK0
      by_cases hlt : j < l.length
      · obtain ⟨x, hx⟩ : ∃ x, x = l[j] := ⟨_, rfl⟩
        have htk : l.take (j + 1) = l.take j ++ [x] := by rw [take_snoc' _ _ hlt, hx]
        have hct2 := cntR_take cntS l (j + 1)
        rw [htk, cntR_snoc] at hct2
        have hdr : l.drop j = x :: l.drop (j + 1) := by rw [drop_cons _ _ hlt, hx]
        have hK := HK.out
        rw [hdr] at hK
        obtain ⟨f1, f', hf, hK1, hK2⟩ := hK.split
        have hjl : (mkR mkSS cntS k (l.take j)).length = j := by rw [mkR_len]; simp; omega
        rw [hjl] at hK2
        obtain ⟨fx, f2, cs, hf', hcs, hxF, hK3⟩ := hK2
        subst hf
        subst hf'
        obtain ⟨a0, c0, rfl, h0⟩ := hxF
        have hcs0 := hcs 0 _ rfl
        rw [strsRep_n, Nat.mul_one, Nat.add_zero] at hcs0
        have hbf : b ∉ f1 ++ (fx ++ f2) := (List.nodup_cons.1 Hfr.out.1).1
        have hnx : fx.Nodup := (List.nodup_append.1 (List.nodup_append.1 (List.nodup_cons.1 Hfr.out.1).2).2.1).1
        have hfx : Free B wr fx := ⟨hnx, fun y hy => Hfr.out.2 y (by simp [hy])⟩
        obtain ⟨k', hk'⟩ : ∃ k', k' = k + cntR cntS (l.take j) := ⟨_, rfl⟩
        have hk1 : 0 < k' := by omega
        have hb9 : k' + x.length ≤ 1000000000 := by have : cntS x = x.length := rfl; omega
        rw [← hk']
        have H0 := Lib.hid h0
        have Hfx := Lib.hid hfx
        have Hcs := Lib.hid hcs
        have HK1 := Lib.hid hK1
        have HK3 := Lib.hid hK3
        have Hbf := Lib.hid hbf
        have Htk := Lib.hid htk
        have Hk' := Lib.hid hk'
        clear h0 hfx hcs hK1 hK3 hbf htk hk' hx hdr hK HK hnx hct hct2 hjl
        go_wp2_with fail
        refine (markStringS_i a0 c0 x fx B k' _ _ rfl H0.out Hfx.out hk1 hb9).mono ?_
        rintro e w2 ⟨rfl, hx, hfree, hF⟩
        have he := (Elm.new Hcs.out rfl (Hfr.out.2 b (by simp)).2.2 (Hcs.out.lt (by simp))).sub hx (fun h => Hbf.out (by simp [h]))
        have hrow := RowF.marked HK1.out HK3.out (by rw [mkR_len, List.length_take, Nat.min_eq_left (by omega)]) he (fun y hy => by simpa using hy) Hfr.out (x' := mkSS k' x) ⟨a0, c0, by simp [mkSS, mkS_len], hF⟩
        have hfr2 := he.free Hfr.out (fun y hy => (hfree.2 y (by simpa using hy)).2.2)
        have hg2 : Ext (inl (b :: (f1 ++ (fx ++ f2)))) w w2 := Hg.out.trans (hx.mono (fun y hy => by unfold inl at *; simp [hy]))
        have Hrow := Lib.hid hrow
        have Hfr2 := Lib.hid hfr2
        have Hg2 := Lib.hid hg2
        clear hrow hfr2 hg2 he hx hfree hF hcs0
        go_wp2_with fail
        go_roundw
        case rel =>
          refine ⟨j + 1, by omega, by go_num, ?_, Hg2.out, Hfr2.out, ?_⟩
          · rw [Htk.out, cntR_snoc, ← Nat.add_assoc, ← Hk'.out]; rfl
          · rw [Htk.out, mkR_snoc, List.append_assoc, ← Hk'.out]; exact Hrow.out
        case measure => simp [intOf]; omega
      · have hje : j = l.length := by omega
        subst hje
        go_wp2_with fail
        go_ret
        have hK := HK.out
        rw [List.take_length] at *
        rw [List.drop_length, List.append_nil] at hK
        refine ⟨by simp [cntSS], Hg.out, Hfr.out, [.slice (some ⟨b, o, none⟩) l.length c], rfl, _, c, by simp [mkSSS, mkR_len], by rw [mkSSS, mkR_len]; exact Hle.out, by rw [mkSSS, mkR_len]; exact Hlen.out, .inr ⟨b, o, f, ?_, rfl, rfl, hK⟩⟩
        intro h
        have := congrArg List.length h
        rw [mkSSS, mkR_len] at this
        exact Hne.out (List.length_eq_zero_iff.1 this)
theorem mkR_get' {α : Type} (mk : Nat → α → α) (cnt : α → Nat) : ∀ (k : Nat) (l : List α) (j : Nat) (h : j < l.length) (h' : j < (mkR mk cnt k l).length), (mkR mk cnt k l)[j] = mk (k + cntR cnt (l.take j)) l[j]
  | k, x :: l, 0, _, _ => by simp [mkR, cntR]
  | k, x :: l, j + 1, h, h' => by
    have := mkR_get' mk cnt (k + cnt x) l j (by simpa using h) (by simpa [mkR] using h')
    simp only [mkR, List.getElem_cons_succ, List.take_succ_cons]
    rw [this]
    simp [cntR, Nat.add_assoc]
theorem uHeldSS (l : List (List ByteArray)) (v : Value) (k : Nat) (i : Int) (w : World) (hi : i = (k : Int)) (h : RV pathsRep packO w any (mkSSS k l) v) (h1 : 0 < k) (h2 : k + cntSS l ≤ 1000000000) :
    Calls Tryd.prog 29 #[v, .int .i64 i] w fun e w' => e = .returned (.int .i64 ((k + cntSS l : Nat) : Int)) ∧ Grow w w' := by
  subst hi
  obtain ⟨a, c, rfl, hs⟩ := paths_open h
  have hlen : (mkSSS k l).length = l.length := mkR_len _ _ _ _
  have hbig : l.length ≤ 9223372036854775807 := by have := hs.2.1; rw [hlen] at this; exact this
  have h2' : k + cntR cntS l ≤ 1000000000 := h2
  have Hs := Lib.hid hs
  have Hlen := Lib.hid hlen
  rw [hlen]
  clear h hs h2 hlen
  go_enter Tryd.func29, Tryd.ntmps29
  go_wp2_with fail
  go_loopw [1, 4, 5] (fun t1 n i wr => n = .int .i64 0 ∧ Grow w wr ∧ ∃ j : Nat, j ≤ l.length ∧ i = .int .i64 j ∧ t1 = .int .i64 ((k + cntR cntS (l.take j) : Nat) : Int)) (fun _ _ i _ => l.length - (intOf i).toNat)
  case atStart => exact ⟨rfl, Ext.refl _ _, 0, Nat.zero_le _, rfl, rfl⟩
  case round =>
    obtain ⟨rfl, hg, j, hj, rfl, rfl⟩ := hrel
    have hct := cntR_take cntS l j
    by_cases hlt : j < l.length
    · obtain ⟨b, o, a1, c1, rfl, x1, hst⟩ := slR_strs (Hs.out.grow hg) (j := j) (by rw [Hlen.out]; exact hlt)
      have hge : (mkSSS k l)[j]'(by rw [Hlen.out]; exact hlt) = mkSS (k + cntR cntS (l.take j)) l[j] := mkR_get' _ _ _ _ _ hlt _
      rw [hge] at x1 hst
      have htk : l.take (j + 1) = l.take j ++ [l[j]] := by rw [take_snoc' _ _ hlt]
      have hct2 := cntR_take cntS l (j + 1)
      rw [htk, cntR_snoc] at hct2
      obtain ⟨k', hk'⟩ : ∃ k', k' = k + cntR cntS (l.take j) := ⟨_, rfl⟩
      rw [← hk'] at x1 hst ⊢
      have hml : (mkSS k' l[j]).length = l[j].length := by simp [mkSS, mkS_len]
      rw [hml] at x1
      have hb9 : k' + l[j].length ≤ 1000000000 := by have : cntS l[j] = l[j].length := rfl; omega
      have hk1 : 0 < k' := by omega
      have Hst := Lib.hid hst
      have Htk := Lib.hid htk
      have Hk' := Lib.hid hk'
      clear hst htk hk' hge hml hct hct2
      go_wp2_with fail
      refine (heldStringS_i a1 c1 l[j].length k' _ _ rfl Hst.out hk1 hb9).mono ?_
      rintro e w2 ⟨rfl, hg2⟩
      go_wp2_with fail
      go_roundw
      case rel =>
        refine ⟨rfl, hg.trans hg2, j + 1, by omega, by go_num, ?_⟩
        rw [Htk.out, cntR_snoc, ← Nat.add_assoc, ← Hk'.out]; rfl
      case measure => simp [intOf]; omega
    · have hje : j = l.length := by omega
      subst hje
      go_wp2_with fail
      go_ret
      rw [List.take_length]
      exact ⟨rfl, hg⟩
end Go.Proofs.YtfjaobfaepjfnaaDoor
-- EV: fresh
namespace Go.Proofs.YtfjaobfaepjfnaaDoor.Eng
open Go Go.RowKit
attribute [local simp] big size_mk ASt.pay Option.map_map Function.comp_def awant aop acall ado aev ofVal ofVal0 ASt.put ASt.add ASt.turn ASt.kill abox aalloc astore aload aloadD astoreD idOf ASt.at cellsTo afieldAddr afield aindexAddr aindex alen abin aint acmp astr aun apick aextract anil aslice abound abuild afill abuildSlice asCells aps avCells over upd aappend asrc amax amin aconv mkSt slots rowsOf_cons rowsOf_nil usedOf_cons usedOf_nil ZK.av List.replicate ASt.back ASt.addL ASt.killL nodeA nodeT nodeTL_eq nodeL_eq strsE_get strsE_len intsE_get intsE_len strsE_at intsE_at tab2 tab3 tab4 tab5 tab6 tab7 tab8 tab9 tab10 tab11 tab12 tab13 tab14 tab15 tab16 tab17 tab18 tab19 tab21 tab22 tab23 tab24 tab25 tab26 tab28 tab29 tab30 tab31 tab42 tab43 tab44 tab46 tab63 tab64 tab67 tab68 tab75 tab98 tab100 tab101 tab105 tab106 tab107 tab122 tab123 tab125 tab128 tab138 tab144 tab151 tab152 tab157 tab158 tab160 tab161 tab162
section
variable {P : Program} {T : Tab} {md : List Nat} {Av : Nat → Prop} {pc : Pc} {ops : Array Oper} {K : ASt → Prop} {o : Oper} {l : List Oper} {s : ASt}
theorem arunD_callGV1 {k : Nat} {f : FuncId} {xs : List Operand} {args : List AV} (rows0 : List (Nat × Row)) (ν : Nat → Nat) (id : Nat) {c : Nat} {X : Type} {Rx : X → Row} {gx : X → Nat → AV} {Px : X → Prop} (hl : pc.2.contains (1000 + k) = true) (hw : awant ops o s = some true) (ha : acall o.op = some (f, xs))
    (hac : ACGV P Av f args rows0 c (fun a b => ∃ x, Px x ∧ ∃ k, a = gx x k ∧ b = [(k, Rx x)]))
    (hinj : ∀ k ∈ rows0.map (·.1), ∀ k' ∈ rows0.map (·.1), ν k = ν k' → k = k') (hrows : MvR s.rows (rows0.map (·.1)) ν rows0) (hargs : MvL s.rows (rows0.map (·.1)) ν (xs.map (aev s)) args) (hcan : s.can c) (hid : s.used id = false) (hne : ∃ x, Px x) (hp : ∀ x, ∀ e ∈ (Rx x).es, ∀ c ∈ e, Pur c) (hin : ∀ x, ∀ e ∈ (Rx x).es, ∀ c ∈ e, NoId c) (hr : ∀ x k, Bk (fun _ => id) [k] (gx x k) (gx x id)) (hr2 : ∀ x, AV.In (fun k => k == id) (gx x id))
    (h : ∀ x, Px x → ARunD P T md Av pc ops K l (k + 1) ((s.back rows0 ν c [(id, Rx x)]).put o.dst (gx x id))) : ARunD P T md Av pc ops K (o :: l) k s :=
  arunD_spcGV rows0 ν hl hw ha rfl hac hinj hrows hargs hcan (by obtain ⟨x, hx⟩ := hne; exact ⟨_, _, x, hx, 0, rfl, rfl⟩) (fun a b hab => by
    obtain ⟨x, hx, k, rfl, rfl⟩ := hab
    refine ⟨_, _, _, back1 k id hid (hp x) (hr x k), ⟨(hr2 x).mono (fun k hk => ?_), fun p hpp e he c hc => ?_⟩, h x hx⟩
    · have : k = id := by simpa using hk
      rw [this, rowsOf_cons, if_pos rfl]; rfl
    · have : p = (id, Rx x) := by simpa using hpp
      subst this
      exact (hin x e he c hc).mono (fun _ h => by cases h))
end
abbrev LbP := Nat × List ByteArray
def wyE (x : LbP) : List AV := [.view (.fr x.1) 1 (strsE x.2)]
def wyP (x : LbP) : List Nat := frB (.fr x.1) x.2.isEmpty
theorem at_wyE (x : LbP) : atL (wyE x) = wyP x := by
  have e1 : (strsE x.2).isEmpty = x.2.isEmpty := by unfold strsE; cases x.2 <;> rfl
  unfold wyE wyP
  rw [atL_cons, atL_nil, at_view, at_strsE, e1]; simp
theorem atE_wys : ∀ (ls : List LbP), atE (ls.map wyE) = ls.flatMap wyP
  | [] => by rw [List.map_nil, atE_nil]; rfl
  | k :: ks => by rw [List.map_cons, atE_cons, atE_wys ks, at_wyE]; rfl
theorem wyE_pur (x : LbP) : ∀ c ∈ wyE x, Pur c := fun c hc => by
  rw [List.mem_singleton.1 hc]; exact pur_view (by simp) (strsE_pur _)
theorem wysE_pur (ls : List LbP) : ∀ e ∈ ls.map wyE, ∀ c ∈ e, Pur c := fun e he c hc => by
  obtain ⟨k, _, rfl⟩ := List.mem_map.1 he
  exact wyE_pur k c hc
theorem wysE_in {U : Nat → Bool} (ls : List LbP) : ∀ e ∈ ls.map wyE, ∀ c ∈ e, AV.In U c := fun e he c hc => by
  obtain ⟨k, _, rfl⟩ := List.mem_map.1 he
  rw [List.mem_singleton.1 hc]; exact in_view.2 (strsE_in _)
theorem wysE_sub {id m : Nat} {c : AV} (ls : List LbP) : (ls.map wyE).map (AV.subL id m c) = ls.map wyE := by
  rw [List.map_map]; exact List.map_congr_left (fun k _ => by simp [wyE, AV.subL, AV.sub])
def wysR (ls : List LbP) : Row := ⟨false, 23, 1, ls.map wyE⟩
theorem wys_snoc (ls : List LbP) (g : Nat) (p : List ByteArray) : ls.map wyE ++ [[.view (.fr g) 1 (strsE p)]] = (ls ++ [(g, p)]).map wyE := by rw [List.map_append]; rfl
theorem wys_ex : ∀ (Q : List (List ByteArray)) (N : Nat), ∃ (ws : List LbP) (M : Nat), ws.map (·.2) = Q ∧ (ws.flatMap wyP).Nodup ∧ N ≤ M ∧ ∀ b ∈ ws.flatMap wyP, N ≤ b ∧ b < M
  | [], N => ⟨[], N, rfl, by simp, Nat.le_refl _, by simp⟩
  | p :: Q, N => by
    obtain ⟨ws, M, h1, h2, h3, h4⟩ := wys_ex Q (N + 1)
    have hw : ∀ b ∈ wyP (N, p), b = N := fun b hb => by
      unfold wyP at hb
      rw [frB_fr] at hb
      split at hb <;> simp at hb
      exact hb
    refine ⟨(N, p) :: ws, M, by rw [List.map_cons, h1], ?_, by omega, ?_⟩
    · rw [List.flatMap_cons]
      refine List.nodup_append.2 ⟨by unfold wyP; rw [frB_fr]; split <;> simp, h2, fun a ha b hb e => ?_⟩
      have := hw a ha
      have := (h4 b hb).1
      omega
    · intro b hb
      rw [List.flatMap_cons] at hb
      rcases List.mem_append.1 hb with hb | hb
      · have := hw b hb; omega
      · have := h4 b hb; omega
def NewW (n : Nd) (p : List ByteArray) (W : Nat → Prop) (ws : List LbP) : Prop := ws.map (·.2) = (allS n).map (p ++ ·) ∧ (ws.flatMap wyP).Nodup ∧ ∀ b ∈ ws.flatMap wyP, W b
def APF (n : Nd) (ls : List LbP) (p : List ByteArray) (W : Nat → Prop) (a : AV) (b : List (Nat × Row)) : Prop := ∃ ws : List LbP, NewW n p W ws ∧ ∃ k, a = .own k (ls ++ ws).length ∧ b = [(k, wysR (ls ++ ws))]
def ApOk (n : Nd) : Prop := ∀ (ls : List LbP) (p : List ByteArray), p.length + n.depth ≤ 500 → ls.length + n.count ≤ 1000 → ACGW Tryd.prog 68 [.own 1000 ls.length, nodeA n, .view .loose 1 (strsE p)] [(1000, wysR ls)] 0 (fun w a b => APF n ls p (fun x => w.heap.size ≤ x) a b)
theorem ApOk.toV {n : Nd} {A : Nat → Prop} {ls : List LbP} {p : List ByteArray} (h : ACGW Tryd.prog 68 [.own 1000 ls.length, nodeA n, .view .loose 1 (strsE p)] [(1000, wysR ls)] 0 (fun w a b => APF n ls p (fun x => w.heap.size ≤ x) a b)) :
    ACGV Tryd.prog A 68 [.own 1000 ls.length, nodeA n, .view .loose 1 (strsE p)] [(1000, wysR ls)] 0 (fun a b => ∃ ws : List LbP, NewW n p (fun x => ¬ A x) ws ∧ ∃ k, a = .own k (ls ++ ws).length ∧ b = [(k, wysR (ls ++ ws))]) :=
  ⟨h.1, h.2.1, fun w ρ k vs hA g0 g1 g2 g3 g4 g5 => (h.2.2 w ρ k vs g0 g1 g2 g3 g4 g5).mono fun e w' ⟨v, r, l, ρ', k1, k2, k3, k4, k5, k6, k7, k8, k9, k10, ws, ⟨q1, q2, q3⟩, q4⟩ => ⟨v, r, l, ρ', k1, k2, k3, k4, k5, k6, k7, k8, k9, k10, ws, ⟨q1, q2, fun b hb ha => by have := hA b ha; have := q3 b hb; omega⟩, q4⟩⟩
theorem copyTexts_ACF (t : VC) (p : List ByteArray) (hp : p.length ≤ 1000) : ACF Tryd.prog 95 [.view t 1 (strsE p)] 0 (fun r => ∃ g, r = .view (.fr g) 1 (strsE p)) := by
  refine ACF.weak ?_
  refine ACF.of tab_ok mixed_ok Tryd.func95 (by rfl) (by kernel_rfl) ?_; rintro ⟨P, T, hT, hm, w0, S0, rd0, k0⟩ hP hTT hN; dsimp only at hP hTT hN; subst hP hTT; dsimp only; unfold initSt; rw [Tryd.ntmps95]
  rcases Nat.eq_zero_or_pos p.length with h | h0
  · have hp0 := List.length_eq_zero_iff.1 h
    subst hp0
    (repeat (first | with_reducible refine AW.seq ?_ | ((first | refine arun_kn 4 rfl (fun C hC => ?_) | refine arunD_kn 4 rfl (fun C hC => ?_)); (repeat ((conv => whnf); simp [strsE_len])); refine hC _ ?_; clear hC C; simp only [List.drop, Nat.reduceAdd]) | ((first | refine arun_kn 1 rfl (fun C hC => ?_) | refine arunD_kn 1 rfl (fun C hC => ?_)); (repeat ((conv => whnf); simp [strsE_len])); refine hC _ ?_; clear hC C; simp only [List.drop, Nat.reduceAdd]) | (refine arun_skip ?_ ?_; (focus (simp [awant, strsE_len]; done))) | (refine AW.regionK [] (fun K hK => ?_)) | (refine AW.regionDK [] (pcs [] []) (by kernel_rfl) (by kernel_rfl) (fun K hK => ?_)) | (refine AW.condT ?_ ?_; (focus (simp [aev, strsE_len]; done))) | (refine AW.condF ?_ ?_; (focus (simp [aev, strsE_len]; done))) | with_reducible refine AW.block ?_ | ((first | ((first | refine arun_nil ?_ | refine arunD_nil ?_); refine hK _ ?_; clear hK K) | refine AW.skip ?_ | refine AW.exit ?_ | refine AW.ret ?_); simp only [thenA_exit, inBlockA_exit, if_true, if_false, Nat.reduceEqDiff, thenA_normal, inBlockA_normal, reduceIte, thenA_ret, inBlockA_ret, endQ_ret, endR_ret, endG_ret, endQ_normal, endR_normal, endG_normal, endF_ret, endF_normal])))
    exact ⟨.view .tight 0 [], by simp [ares, aresL], pur_view (by decide) (fun e he => by cases he), fun b hb => by simp [at_view, atE_nil, frB_tight] at hb, .view (.fr 0) 1 [], Wk.nil (fun h => by cases h), fun b hb => by simp [at_view, atE_nil, frB_fr] at hb, 0, rfl⟩
  · have h0' : ((p.length : Int) == 0) = false := beq_false_of_ne (by omega)
    (repeat (first | with_reducible refine AW.seq ?_ | ((first | refine arun_kn 4 rfl (fun C hC => ?_) | refine arunD_kn 4 rfl (fun C hC => ?_)); (repeat ((conv => whnf); simp [h0', strsE_len])); refine hC _ ?_; clear hC C; simp only [List.drop, Nat.reduceAdd]) | ((first | refine arun_kn 1 rfl (fun C hC => ?_) | refine arunD_kn 1 rfl (fun C hC => ?_)); (repeat ((conv => whnf); simp [h0', strsE_len])); refine hC _ ?_; clear hC C; simp only [List.drop, Nat.reduceAdd]) | (refine arun_skip ?_ ?_; (focus (simp [awant, h0', strsE_len]; done))) | (refine AW.regionK [] (fun K hK => ?_)) | (refine AW.regionDK [] (pcs [] []) (by kernel_rfl) (by kernel_rfl) (fun K hK => ?_)) | (refine AW.condT ?_ ?_; (focus (simp [aev, h0', strsE_len]; done))) | (refine AW.condF ?_ ?_; (focus (simp [aev, h0', strsE_len]; done))) | with_reducible refine AW.block ?_ | ((first | ((first | refine arun_nil ?_ | refine arunD_nil ?_); refine hK _ ?_; clear hK K) | refine AW.skip ?_ | refine AW.exit ?_ | refine AW.ret ?_); simp only [thenA_exit, inBlockA_exit, if_true, if_false, Nat.reduceEqDiff, thenA_normal, inBlockA_normal, reduceIte, thenA_ret, inBlockA_ret, endQ_ret, endR_ret, endG_ret, endQ_normal, endR_normal, endG_normal, endF_ret, endF_normal])))
    refine arun_make 9 rfl (by simp [awant]) rfl tab23 tab9 (by decide) rfl (by dsimp only; omega) (by unfold maxLen; omega) (by simp [upd]) ?_
    (repeat (first | with_reducible refine AW.seq ?_ | ((first | refine arun_kn 4 rfl (fun C hC => ?_) | refine arunD_kn 4 rfl (fun C hC => ?_)); (repeat ((conv => whnf); simp [strsE_len])); refine hC _ ?_; clear hC C; simp only [List.drop, Nat.reduceAdd]) | ((first | refine arun_kn 1 rfl (fun C hC => ?_) | refine arunD_kn 1 rfl (fun C hC => ?_)); (repeat ((conv => whnf); simp [strsE_len])); refine hC _ ?_; clear hC C; simp only [List.drop, Nat.reduceAdd]) | (refine arun_skip ?_ ?_; (focus (simp [awant, strsE_len]; done))) | (refine AW.regionK [] (fun K hK => ?_)) | (refine AW.regionDK [] (pcs [] []) (by kernel_rfl) (by kernel_rfl) (fun K hK => ?_)) | (refine AW.condT ?_ ?_; (focus (simp [aev, strsE_len]; done))) | (refine AW.condF ?_ ?_; (focus (simp [aev, strsE_len]; done))) | with_reducible refine AW.block ?_ | ((first | ((first | refine arun_nil ?_ | refine arunD_nil ?_); refine hK _ ?_; clear hK K) | refine AW.skip ?_ | refine AW.exit ?_ | refine AW.ret ?_); simp only [thenA_exit, inBlockA_exit, if_true, if_false, Nat.reduceEqDiff, thenA_normal, inBlockA_normal, reduceIte, thenA_ret, inBlockA_ret, endQ_ret, endR_ret, endG_ret, endQ_normal, endR_normal, endG_normal, endF_ret, endF_normal])))
    refine arun_copyAll (r := ⟨false, 9, 1, List.replicate p.length [AV.str ⟨#[]⟩]⟩) rfl (by simp [awant]) rfl (by simp [upd]) rfl rfl List.length_replicate rfl (strsE_len _) tab23 tab9 rfl ?_
    (repeat (first | with_reducible refine AW.seq ?_ | ((first | refine arun_kn 4 rfl (fun C hC => ?_) | refine arunD_kn 4 rfl (fun C hC => ?_)); (repeat ((conv => whnf); simp [strsE_len])); refine hC _ ?_; clear hC C; simp only [List.drop, Nat.reduceAdd]) | ((first | refine arun_kn 1 rfl (fun C hC => ?_) | refine arunD_kn 1 rfl (fun C hC => ?_)); (repeat ((conv => whnf); simp [strsE_len])); refine hC _ ?_; clear hC C; simp only [List.drop, Nat.reduceAdd]) | (refine arun_skip ?_ ?_; (focus (simp [awant, strsE_len]; done))) | (refine AW.condT ?_ ?_; (focus (simp [aev, strsE_len]; done))) | (refine AW.condF ?_ ?_; (focus (simp [aev, strsE_len]; done))) | with_reducible refine AW.block ?_ | ((first | ((first | refine arun_nil ?_ | refine arunD_nil ?_); refine hK _ ?_; clear hK K) | refine AW.skip ?_ | refine AW.exit ?_ | refine AW.ret ?_); simp only [thenA_exit, inBlockA_exit, if_true, if_false, Nat.reduceEqDiff, thenA_normal, inBlockA_normal, reduceIte, thenA_ret, inBlockA_ret, endQ_ret, endR_ret, endG_ret, endQ_normal, endR_normal, endG_normal, endF_ret, endF_normal])))
    refine AW.holdF 9 hN (fun g hg ht hr => ?_)
    clear ht hr
    (repeat (first | with_reducible refine AW.seq ?_ | ((first | refine arun_kn 4 rfl (fun C hC => ?_) | refine arunD_kn 4 rfl (fun C hC => ?_)); (repeat ((conv => whnf); simp [ASt.holdF, AV.subL, AV.sub, Row.sub, rowsOf_cons, upd, strsE_len])); refine hC _ ?_; clear hC C; simp only [List.drop, Nat.reduceAdd]) | ((first | refine arun_kn 1 rfl (fun C hC => ?_) | refine arunD_kn 1 rfl (fun C hC => ?_)); (repeat ((conv => whnf); simp [ASt.holdF, AV.subL, AV.sub, Row.sub, rowsOf_cons, upd, strsE_len])); refine hC _ ?_; clear hC C; simp only [List.drop, Nat.reduceAdd]) | (refine arun_skip ?_ ?_; (focus (simp [awant, ASt.holdF, AV.subL, AV.sub, Row.sub, rowsOf_cons, upd, strsE_len]; done))) | (refine AW.regionK [] (fun K hK => ?_)) | (refine AW.regionDK [] (pcs [] []) (by kernel_rfl) (by kernel_rfl) (fun K hK => ?_)) | (refine AW.condT ?_ ?_; (focus (simp [aev, ASt.holdF, AV.subL, AV.sub, Row.sub, rowsOf_cons, upd, strsE_len]; done))) | (refine AW.condF ?_ ?_; (focus (simp [aev, ASt.holdF, AV.subL, AV.sub, Row.sub, rowsOf_cons, upd, strsE_len]; done))) | with_reducible refine AW.block ?_ | ((first | ((first | refine arun_nil ?_ | refine arunD_nil ?_); refine hK _ ?_; clear hK K) | refine AW.skip ?_ | refine AW.exit ?_ | refine AW.ret ?_); simp only [thenA_exit, inBlockA_exit, if_true, if_false, Nat.reduceEqDiff, thenA_normal, inBlockA_normal, reduceIte, thenA_ret, inBlockA_ret, endQ_ret, endR_ret, endG_ret, endQ_normal, endR_normal, endG_normal, endF_ret, endF_normal])))
    refine ⟨.view (.fr g) 1 (strsE p), by simp [ares, aresL, upd, rowsOf_cons, strsE_sub], pur_view (by simp) (strsE_pur _), fun b hb => ?_, _, Wk.refl _, fun _ h => h, g, rfl⟩
    rw [at_view, at_strsE, frB_fr] at hb
    split at hb <;> simp at hb
    rw [hb]; exact hg
end Go.Proofs.YtfjaobfaepjfnaaDoor.Eng
-- EV: fresh
namespace Go.Proofs.YtfjaobfaepjfnaaDoor.Eng
open Go Go.RowKit
attribute [local simp] big size_mk ASt.pay Option.map_map Function.comp_def awant aop acall ado aev ofVal ofVal0 ASt.put ASt.add ASt.turn ASt.kill abox aalloc astore aload aloadD astoreD idOf ASt.at cellsTo afieldAddr afield aindexAddr aindex alen abin aint acmp astr aun apick aextract anil aslice abound abuild afill abuildSlice asCells aps avCells over upd aappend asrc amax amin aconv mkSt slots rowsOf_cons rowsOf_nil usedOf_cons usedOf_nil ZK.av List.replicate ASt.back ASt.addL ASt.killL nodeA nodeT nodeTL_eq nodeL_eq strsE_get strsE_len intsE_get intsE_len strsE_at intsE_at tab2 tab3 tab4 tab5 tab6 tab7 tab8 tab9 tab10 tab11 tab12 tab13 tab14 tab15 tab16 tab17 tab18 tab19 tab21 tab22 tab23 tab24 tab25 tab26 tab28 tab29 tab30 tab31 tab42 tab43 tab44 tab46 tab63 tab64 tab67 tab68 tab75 tab98 tab100 tab101 tab105 tab106 tab107 tab122 tab123 tab125 tab128 tab138 tab144 tab151 tab152 tab157 tab158 tab160 tab161 tab162
theorem wys_len (ls : List LbP) : (ls.map wyE).length = ls.length := List.length_map _
theorem wyE_sub {id m : Nat} {c : AV} (x : LbP) : AV.subL id m c (wyE x) = wyE x := by simp [wyE, AV.subL, AV.sub]
theorem wysE_clo (ls : List LbP) : ∀ e ∈ ls.map wyE, ∀ c ∈ e, Clo c := fun e he c hc => (wysE_pur ls e he c hc).clo
theorem NewW.step {n : Nd} {p : List ByteArray} {W A : Nat → Prop} {ls ws ws' : List LbP} {i : Nat} (hlt : i < n.kids.length) {L : List (List ByteArray)} (hf : ws.map (·.2) ++ (allL n.kind n.names (n.kids.drop i) i).map (p ++ ·) = L) (hk : (ws.flatMap wyP).Nodup) (hW : ∀ b ∈ ws.flatMap wyP, W b) (hn : NewW n.kids[i] (p ++ [stp n.kind n.names i]) (fun x => ¬ (A x ∨ x ∈ (ls ++ ws).flatMap wyP)) ws') (hA : ∀ b, ¬ A b → W b) :
    (ws ++ ws').map (·.2) ++ (allL n.kind n.names (n.kids.drop (i + 1)) (i + 1)).map (p ++ ·) = L ∧ ((ws ++ ws').flatMap wyP).Nodup ∧ ∀ b ∈ (ws ++ ws').flatMap wyP, W b := by
  obtain ⟨h1, h2, h3⟩ := hn
  refine ⟨?_, ?_, fun b hb => ?_⟩
  · rw [← hf, allL_drop hlt]
    simp only [List.map_append, map_step, h1, List.append_assoc]
  · rw [List.flatMap_append]
    exact List.nodup_append.2 ⟨hk, h2, fun a ha b hb e => h3 b hb (.inr (by rw [List.flatMap_append]; exact List.mem_append_right _ (e ▸ ha)))⟩
  · rw [List.flatMap_append] at hb
    rcases List.mem_append.1 hb with hb | hb
    · exact hW b hb
    · exact hA b (fun h => h3 b hb (.inl h))
set_option maxRecDepth 100000
set_option maxHeartbeats 8000000
theorem appendPathsF_step (n : Nd) (hn : Way n) (ls : List LbP) (p : List ByteArray) (hp : p.length + n.depth ≤ 500) (hl : ls.length + n.count ≤ 1000) (ih : ∀ k ∈ n.kids, ApOk k) :
    ACGW Tryd.prog 68 [.own 1000 ls.length, nodeA n, .view .loose 1 (strsE p)] [(1000, wysR ls)] 0 (fun w a b => APF n ls p (fun x => w.heap.size ≤ x) a b) := by
  have hdep := n.depth_eq
  have hcnt := n.count_eq
  have hb1 : (ls.length + 1) * 24 ≤ 140737488355328 := by omega
  have hb2 : ls.length + 1 ≤ 140737488355328 := by omega
  have pc := copyTexts_ACF .loose p (by omega)
  unfold nodeA wysR
  rw [nodeL_eq]
  refine ACGW.of tab_ok mixed_ok Tryd.func68 (by rfl) (by kernel_rfl) (by simp) ?_
  rintro ⟨P, T, hT, hm, w0, S0, rd0, k0⟩ hP hTT hAll hX
  dsimp only at hP hTT hAll hX
  subst hP hTT
  dsimp only
  unfold initStG
  rw [Tryd.ntmps68]
  (repeat (first | with_reducible refine AW.seq ?_ | ((first | refine arun_kn 4 rfl (fun C hC => ?_) | refine arunD_kn 4 rfl (fun C hC => ?_)); (repeat ((conv => whnf); simp [wys_len, hb1, hb2])); refine hC _ ?_; clear hC C; simp only [List.drop, Nat.reduceAdd]) | ((first | refine arun_kn 1 rfl (fun C hC => ?_) | refine arunD_kn 1 rfl (fun C hC => ?_)); (repeat ((conv => whnf); simp [wys_len, hb1, hb2])); refine hC _ ?_; clear hC C; simp only [List.drop, Nat.reduceAdd]) | (refine arun_skip ?_ ?_; (focus (simp [awant, wys_len, hb1, hb2]; done))) | (refine arun_cF (0) (pc) ?_; (rintro _ ⟨g, rfl⟩ hA)) | (refine arunD_cF (0) (pc) (by refine ⟨_, rfl, ?_⟩; first | exact node_in _ | exact storeA_in _ | exact item_in _ | exact in_int | exact in_bool | exact in_str | (simp [NoId, in_tup, in_agg, in_int, in_bool, in_str, node_in, nodes_in, strs_in]; done)) ?_; (rintro _ ⟨g, rfl⟩ hA); intro _) | (refine AW.regionK [] (fun K hK => ?_)) | (refine AW.regionDK [] (pcs [] []) (by kernel_rfl) (by kernel_rfl) (fun K hK => ?_)) | (refine AW.condT ?_ ?_; (focus (simp [aev, wys_len, hb1, hb2]; done))) | (refine AW.condF ?_ ?_; (focus (simp [aev, wys_len, hb1, hb2]; done))) | with_reducible refine AW.block ?_ | ((first | ((first | refine arun_nil ?_ | refine arunD_nil ?_); refine hK _ ?_; clear hK K) | refine AW.skip ?_ | refine AW.exit ?_ | refine AW.ret ?_); simp only [thenA_exit, inBlockA_exit, if_true, if_false, Nat.reduceEqDiff, thenA_normal, inBlockA_normal, reduceIte, thenA_ret, inBlockA_ret, endQ_ret, endR_ret, endG_ret, endQ_normal, endR_normal, endG_normal, endF_ret, endF_normal])))
  rw [wys_snoc]
  have hg1 : (([(g, p)] : List LbP).flatMap wyP).Nodup := by simp [wyP, frB_fr]; split <;> simp
  have hg2 : ∀ b ∈ ([(g, p)] : List LbP).flatMap wyP, w0.wd.heap.size ≤ b := fun b hb => by
    rw [List.flatMap_cons, List.flatMap_nil, List.append_nil] at hb
    rcases Nat.lt_or_ge b w0.wd.heap.size with h | h
    · refine absurd (hAll b h) (hA b ?_)
      rw [at_view, at_strsE, List.append_nil]
      unfold wyP at hb
      have e1 : (strsE p).isEmpty = p.isEmpty := by unfold strsE; cases p <;> rfl
      rw [e1]; exact hb
    · exact h
  clear hb1 hb2 hA pc
  refine AW.loopS (fun (x : Nat × List LbP) => mkSt (slots 0 32 [(0, .own 50 (ls ++ x.2).length), (2, .view .loose 1 (strsE p)), (4, .ptr true 5 1 4 0 0), (15, .view .loose 5 (n.kids.map nodeL)), (16, .int .i64 n.kids.length), (17, .int .i64 x.1)]) [(4, ⟨true, 26, 5, [nodeL n]⟩), (50, wysR (ls ++ x.2))] [4, 50] (rd0.map fun _ => 0)) (fun x => n.kids.length - x.1) (fun x => x.1 ≤ n.kids.length ∧ x.2.map (·.2) ++ (allL n.kind n.names (n.kids.drop x.1) x.1).map (p ++ ·) = (allS n).map (p ++ ·) ∧ (x.2.flatMap wyP).Nodup ∧ ∀ b ∈ x.2.flatMap wyP, w0.wd.heap.size ≤ b) (0, [(g, p)]) ?_ ⟨Nat.zero_le _, by rw [allS_eq]; simp, hg1, hg2⟩ ?_
  · dsimp only
    have hle : ls.length + 1 = (ls ++ [(g, p)]).length := by simp
    rw [hle, nodeL_eq]
    generalize ls ++ [(g, p)] = L
    have hin : ∀ U : Nat → Bool, ∀ e ∈ L.map wyE, ∀ c ∈ e, AV.In U c := fun U => wysE_in _
    refine Less.trans (s' := mkSt (slots 0 32 [(0, .own 1000 L.length), (2, .view .loose 1 (strsE p)), (4, .ptr true 5 1 4 0 0), (15, .view .loose 5 (n.kids.map nodeL)), (16, .int .i64 n.kids.length), (17, .int .i64 0)]) [(4, ⟨true, 26, 5, [[.int .i64 n.kind, .int .i64 n.num, .str n.text, .view .loose 1 (strsE n.names), .view .loose 5 (n.kids.map nodeL)]]⟩), (1000, wysR L)] [4] (rd0.map fun _ => 0)) (less_of (by simp [lessL, mkSt, slots, wysR]) (by simp [upd, mkSt, rowsOf_cons, wysR]) (by simp [upd, mkSt, usedOf_cons, wysR]) (by first | exact rd_less (by omega) | simp [mkSt, wysR]) (by simp [slots, in_any, in_int, in_bool, in_str, in_ptr, in_own, in_agg, in_vnil, in_rdr, usedOf_cons, usedOf_nil, strs_in, ints_in, nodes_in, in_tup, wysR]) (by simp only [List.forall_mem_cons, List.not_mem_nil, false_implies, implies_true, and_true, true_and, wysR]; (repeat (first | with_reducible exact trivial | with_reducible refine And.intro ?_ ?_ | with_reducible exact in_int | with_reducible exact in_str | with_reducible exact in_bool | with_reducible exact strs_in _ | with_reducible exact nodes_in _ | with_reducible exact items_in _ | with_reducible exact in_vnil | with_reducible exact in_any | exact hin _ | with_reducible refine take_in ?_ | with_reducible exact strsE_in _ | with_reducible exact nodesE_in _ | with_reducible exact nodeL_in _ | with_reducible exact itemsE_in _ | with_reducible exact itemL_in _ | with_reducible refine app_in ?_ ?_ | with_reducible refine sing_in ?_ | (focus (simp [in_any, in_int, in_bool, in_str, in_ptr, in_own, in_agg, in_vnil, in_rdr, usedOf_cons, usedOf_nil, strs_in, ints_in, nodes_in, wysR]; done)))); done)) (Less.trans (Less.rename 1000 50 (by simp [mkSt, usedOf_cons, usedOf_nil])) ?_)
    simp only [ASt.rename, mkSt, rowsOf_cons, Nat.reduceEqDiff, if_true, if_false, reduceIte]
    exact (less_of (by simp [lessL, mkSt, slots, AV.subL, AV.sub, Row.sub, rowsOf_nil, wysR, wys_len, wysE_sub, wyE_sub]) (by simp [upd, mkSt, rowsOf_cons, AV.subL, AV.sub, Row.sub, rowsOf_nil, wysR, wys_len, wysE_sub, wyE_sub]) (by simp [upd, mkSt, usedOf_cons, AV.subL, AV.sub, Row.sub, rowsOf_nil, wysR, wys_len, wysE_sub, wyE_sub]) (by first | exact rd_less (by omega) | simp [mkSt, AV.subL, AV.sub, Row.sub, rowsOf_nil, wysR, wys_len, wysE_sub, wyE_sub]) (by simp [slots, in_any, in_int, in_bool, in_str, in_ptr, in_own, in_agg, in_vnil, in_rdr, usedOf_cons, usedOf_nil, strs_in, ints_in, nodes_in, in_tup, AV.subL, AV.sub, Row.sub, rowsOf_nil, wysR, wys_len, wysE_sub, wyE_sub]) (by simp only [List.forall_mem_cons, List.not_mem_nil, false_implies, implies_true, and_true, true_and, AV.subL, AV.sub, Row.sub, rowsOf_nil, wysR, wys_len, wysE_sub, wyE_sub]; (repeat (first | with_reducible exact trivial | with_reducible refine And.intro ?_ ?_ | with_reducible exact in_int | with_reducible exact in_str | with_reducible exact in_bool | with_reducible exact strs_in _ | with_reducible exact nodes_in _ | with_reducible exact items_in _ | with_reducible exact in_vnil | with_reducible exact in_any | exact hin _ | with_reducible refine take_in ?_ | with_reducible exact strsE_in _ | with_reducible exact nodesE_in _ | with_reducible exact nodeL_in _ | with_reducible exact itemsE_in _ | with_reducible exact itemL_in _ | with_reducible refine app_in ?_ ?_ | with_reducible refine sing_in ?_ | (focus (simp [in_any, in_int, in_bool, in_str, in_ptr, in_own, in_agg, in_vnil, in_rdr, usedOf_cons, usedOf_nil, strs_in, ints_in, nodes_in, AV.subL, AV.sub, Row.sub, rowsOf_nil, wysR, wys_len, wysE_sub, wyE_sub]; done)))); done))
  clear hg1 hg2
  rintro ⟨i, ws⟩ ⟨hi, hf, hnd, hge⟩
  dsimp only at hi hf hnd hge ⊢
  have hlen := congrArg List.length hf
  simp only [List.length_append, List.length_map, allS_len, allL_len] at hlen
  rw [nodeL_eq]
  have hll : (ls ++ ws).length = ls.length + ws.length := List.length_append
  by_cases hlt : i < n.kids.length
  · have hk6 := hn.kids
    have hw : IntKind.i64.wrap ((i : Int) + 1) = (i : Int) + 1 := i64_nat (by omega) (by omega)
    have hmem := List.getElem_mem hlt
    have hcm := count_mem (show n.kids[i] ∈ n.kids.drop i by rw [List.drop_eq_getElem_cons hlt]; exact List.mem_cons_self)
    have hdm := depth_mem hmem
    have hih0 := ih n.kids[i] hmem (ls ++ ws) (p ++ [stp n.kind n.names i]) (by rw [List.length_append, List.length_singleton]; omega) (by omega)
    have hih := ApOk.toV (A := (w0.note (atE (wysR (ls ++ ws)).es)).A) hih0
    have p1 := stepTo_AC n i (by omega) (fun h => by have := hn.names h; omega)
    have p2 := stepBehind_AC .loose p (stp n.kind n.names i) (by omega)
    have hnx := fun ws' (h : NewW n.kids[i] (p ++ [stp n.kind n.names i]) (fun x => ¬ (w0.note (atE (wysR (ls ++ ws)).es)).A x) ws') => NewW.step (W := fun b => w0.wd.heap.size ≤ b) (A := w0.A) (ls := ls) hlt hf hnd hge ⟨h.1, h.2.1, fun b hb hx => h.2.2 b hb (hx.imp id (fun hx => by rw [show (wysR (ls ++ ws)).es = (ls ++ ws).map wyE from rfl, atE_wys]; exact hx))⟩ (fun b hb => by
      rcases Nat.lt_or_ge b w0.wd.heap.size with h | h
      · exact absurd (hAll b h) hb
      · exact h)
    generalize stp n.kind n.names i = st at *
    have hcl := node_clo n.kids[i]
    unfold nodeA at hih hcl
    rw [nodeL_eq] at hih hcl
    clear hlen hcm hdm hcnt hdep hp hl ih hih0 hll
    generalize hL : ls ++ ws = L at *
    refine AW.noteR 50 (r := wysR L) (by simp [mkSt, rowsOf_cons]) ?_
    refine AW.bound (fun N hNb => ?_)
    (repeat (first | with_reducible refine AW.seq ?_ | ((first | refine arun_kn 4 rfl (fun C hC => ?_) | refine arunD_kn 4 rfl (fun C hC => ?_)); (repeat ((conv => whnf); simp [hlt, hw])); refine hC _ ?_; clear hC C; simp only [List.drop, Nat.reduceAdd]) | ((first | refine arun_kn 1 rfl (fun C hC => ?_) | refine arunD_kn 1 rfl (fun C hC => ?_)); (repeat ((conv => whnf); simp [hlt, hw])); refine hC _ ?_; clear hC C; simp only [List.drop, Nat.reduceAdd]) | (refine arun_skip ?_ ?_; (focus (simp [awant, hlt, hw]; done))) | (refine AW.regionK [] (fun K hK => ?_)) | (refine AW.condT ?_ ?_; (focus (simp [aev, hlt, hw]; done))) | (refine AW.condF ?_ ?_; (focus (simp [aev, hlt, hw]; done))) | with_reducible refine AW.block ?_ | ((first | ((first | refine arun_nil ?_ | refine arunD_nil ?_); refine hK _ ?_; clear hK K) | refine AW.skip ?_ | refine AW.exit ?_ | refine AW.ret ?_); simp only [thenA_exit, inBlockA_exit, if_true, if_false, Nat.reduceEqDiff, thenA_normal, inBlockA_normal, reduceIte, thenA_ret, inBlockA_ret, endQ_ret, endR_ret, endG_ret, endQ_normal, endR_normal, endG_normal, endF_ret, endF_normal])))
    refine AW.regionDK [] (pcs [(5, 0, fun r => r = .str st), (6, 0, fun r => r = .view .loose 1 (strsE (p ++ [st])))] [1007]) (by kernel_rfl) (by kernel_rfl) (fun K hK => ?_)
    (repeat (first | with_reducible refine AW.seq ?_ | ((first | refine arun_kn 4 rfl (fun C hC => ?_) | refine arunD_kn 4 rfl (fun C hC => ?_)); (repeat ((conv => whnf); simp [hlt, hw])); refine hC _ ?_; clear hC C; simp only [List.drop, Nat.reduceAdd]) | ((first | refine arun_kn 1 rfl (fun C hC => ?_) | refine arunD_kn 1 rfl (fun C hC => ?_)); (repeat ((conv => whnf); simp [hlt, hw])); refine hC _ ?_; clear hC C; simp only [List.drop, Nat.reduceAdd]) | (refine arun_skip ?_ ?_; (focus (simp [awant, hlt, hw]; done))) | (refine arun_c0 (p1) ?_; rintro _ rfl) | (refine arun_c0 (p2) ?_; rintro _ rfl) | (refine arunD_c (0) (p1) ?_; rintro _ rfl; intro _) | (refine arunD_c (0) (p2) ?_; rintro _ rfl; intro _) | (refine AW.regionK [] (fun K hK => ?_)) | (refine AW.regionDK [] (pcs [(5, 0, fun r => r = .str st)] []) (by kernel_rfl) (by kernel_rfl) (fun K hK => ?_)) | (refine AW.condT ?_ ?_; (focus (simp [aev, hlt, hw]; done))) | (refine AW.condF ?_ ?_; (focus (simp [aev, hlt, hw]; done))) | with_reducible refine AW.block ?_ | ((first | ((first | refine arun_nil ?_ | refine arunD_nil ?_); refine hK _ ?_; clear hK K) | refine AW.skip ?_ | refine AW.exit ?_ | refine AW.ret ?_); simp only [thenA_exit, inBlockA_exit, if_true, if_false, Nat.reduceEqDiff, thenA_normal, inBlockA_normal, reduceIte, thenA_ret, inBlockA_ret, endQ_ret, endR_ret, endG_ret, endQ_normal, endR_normal, endG_normal, endF_ret, endF_normal])))
    refine arunD_callGV1 (Rx := fun ws' => wysR (L ++ ws')) (gx := fun ws' k' => .own k' (L ++ ws').length) [(1000, wysR L)] (fun _ => 50) 29 rfl (by simp [awant]) rfl hih (by simp) (MvR.same (by simp [upd, wysR]) (fun e he c hc => wysE_clo _ e he c hc) MvR.nil)
      (.cons (.base (.own (by simp) rfl)) (.cons (.base (.clo (Clo.cloTo hcl))) (.cons (.base (.clo (Clo.cloTo (strs_clo _)))) .nil))) (by first | exact can_of (Nat.le_refl _) | (simp only [ASt.put, ASt.pay, Option.map_map, Function.comp_def]; exact can_of (Nat.le_refl _))) (by simp [upd]) ?_ (fun ws' => wysE_pur _) (fun ws' e he c hc => wysE_in _ e he c hc) (fun ws' k => .base (.base (.own (by simp) rfl))) (fun ws' => in_own.2 (by simp)) ?_
    · obtain ⟨ws', M, q1, q2, _, q4⟩ := wys_ex ((allS n.kids[i]).map ((p ++ [st]) ++ ·)) N
      exact ⟨ws', q1, q2, fun b hb hx => by have := (q4 b hb).1; have := hNb b hx; omega⟩
    intro ws' hws'
    have hnw := hnx ws' hws'
    generalize hM : L ++ ws' = M
    (repeat (first | with_reducible refine AW.seq ?_ | ((first | refine arun_kn 4 rfl (fun C hC => ?_) | refine arunD_kn 4 rfl (fun C hC => ?_)); (repeat ((conv => whnf); simp [hw])); refine hC _ ?_; clear hC C; simp only [List.drop, Nat.reduceAdd]) | ((first | refine arun_kn 1 rfl (fun C hC => ?_) | refine arunD_kn 1 rfl (fun C hC => ?_)); (repeat ((conv => whnf); simp [hw])); refine hC _ ?_; clear hC C; simp only [List.drop, Nat.reduceAdd]) | (refine arun_skip ?_ ?_; (focus (simp [awant, hw]; done))) | (refine AW.regionK [] (fun K hK => ?_)) | (refine AW.regionDK [] (pcs [] []) (by kernel_rfl) (by kernel_rfl) (fun K hK => ?_)) | (refine AW.condT ?_ ?_; (focus (simp [aev, hw]; done))) | (refine AW.condF ?_ ?_; (focus (simp [aev, hw]; done))) | with_reducible refine AW.block ?_ | ((first | ((first | refine arun_nil ?_ | refine arunD_nil ?_); refine hK _ ?_; clear hK K) | refine AW.skip ?_ | refine AW.exit ?_ | refine AW.ret ?_); simp only [thenA_exit, inBlockA_exit, if_true, if_false, Nat.reduceEqDiff, thenA_normal, inBlockA_normal, reduceIte, thenA_ret, inBlockA_ret, endQ_ret, endR_ret, endG_ret, endQ_normal, endR_normal, endG_normal, endF_ret, endF_normal])))
    refine ⟨(i + 1, ws ++ ws'), by dsimp only; omega, ⟨by dsimp only; omega, hnw.1, hnw.2.1, hnw.2.2⟩, ?_⟩
    dsimp only
    rw [← List.append_assoc, hL, hM]
    have hin : ∀ U : Nat → Bool, ∀ e ∈ M.map wyE, ∀ c ∈ e, AV.In U c := fun U => wysE_in _
    refine Less.trans (s' := mkSt (slots 0 32 [(0, .own 29 M.length), (2, .view .loose 1 (strsE p)), (4, .ptr true 5 1 4 0 0), (15, .view .loose 5 (n.kids.map nodeL)), (16, .int .i64 n.kids.length), (17, .int .i64 ((i : Int) + 1))]) [(4, ⟨true, 26, 5, [[.int .i64 n.kind, .int .i64 n.num, .str n.text, .view .loose 1 (strsE n.names), .view .loose 5 (n.kids.map nodeL)]]⟩), (29, wysR M)] [4, 29] (rd0.map fun _ => 0)) (less_of (by simp [lessL, mkSt, slots, wysR]) (by simp [upd, mkSt, rowsOf_cons, wysR]) (by simp [upd, mkSt, usedOf_cons, wysR]) (by first | exact rd_less (by omega) | simp [mkSt, wysR]) (by simp [slots, in_any, in_int, in_bool, in_str, in_ptr, in_own, in_agg, in_vnil, in_rdr, usedOf_cons, usedOf_nil, strs_in, ints_in, nodes_in, in_tup, wysR]) (by simp only [List.forall_mem_cons, List.not_mem_nil, false_implies, implies_true, and_true, true_and, wysR]; (repeat (first | with_reducible exact trivial | with_reducible refine And.intro ?_ ?_ | with_reducible exact in_int | with_reducible exact in_str | with_reducible exact in_bool | with_reducible exact strs_in _ | with_reducible exact nodes_in _ | with_reducible exact items_in _ | with_reducible exact in_vnil | with_reducible exact in_any | exact hin _ | with_reducible refine take_in ?_ | with_reducible exact strsE_in _ | with_reducible exact nodesE_in _ | with_reducible exact nodeL_in _ | with_reducible exact itemsE_in _ | with_reducible exact itemL_in _ | with_reducible refine app_in ?_ ?_ | with_reducible refine sing_in ?_ | (focus (simp [in_any, in_int, in_bool, in_str, in_ptr, in_own, in_agg, in_vnil, in_rdr, usedOf_cons, usedOf_nil, strs_in, ints_in, nodes_in, wysR]; done)))); done)) (Less.trans (Less.rename 29 50 (by simp [mkSt, usedOf_cons, usedOf_nil])) ?_)
    simp only [ASt.rename, mkSt, rowsOf_cons, Nat.reduceEqDiff, if_true, if_false, reduceIte]
    exact (less_of (by simp [lessL, mkSt, slots, AV.subL, AV.sub, Row.sub, rowsOf_nil, wysR, wys_len, wysE_sub, wyE_sub]) (by simp [upd, mkSt, rowsOf_cons, AV.subL, AV.sub, Row.sub, rowsOf_nil, wysR, wys_len, wysE_sub, wyE_sub]) (by simp [upd, mkSt, usedOf_cons, AV.subL, AV.sub, Row.sub, rowsOf_nil, wysR, wys_len, wysE_sub, wyE_sub]) (by first | exact rd_less (by omega) | simp [mkSt, AV.subL, AV.sub, Row.sub, rowsOf_nil, wysR, wys_len, wysE_sub, wyE_sub]) (by simp [slots, in_any, in_int, in_bool, in_str, in_ptr, in_own, in_agg, in_vnil, in_rdr, usedOf_cons, usedOf_nil, strs_in, ints_in, nodes_in, in_tup, AV.subL, AV.sub, Row.sub, rowsOf_nil, wysR, wys_len, wysE_sub, wyE_sub]) (by simp only [List.forall_mem_cons, List.not_mem_nil, false_implies, implies_true, and_true, true_and, AV.subL, AV.sub, Row.sub, rowsOf_nil, wysR, wys_len, wysE_sub, wyE_sub]; (repeat (first | with_reducible exact trivial | with_reducible refine And.intro ?_ ?_ | with_reducible exact in_int | with_reducible exact in_str | with_reducible exact in_bool | with_reducible exact strs_in _ | with_reducible exact nodes_in _ | with_reducible exact items_in _ | with_reducible exact in_vnil | with_reducible exact in_any | exact hin _ | with_reducible refine take_in ?_ | with_reducible exact strsE_in _ | with_reducible exact nodesE_in _ | with_reducible exact nodeL_in _ | with_reducible exact itemsE_in _ | with_reducible exact itemL_in _ | with_reducible refine app_in ?_ ?_ | with_reducible refine sing_in ?_ | (focus (simp [in_any, in_int, in_bool, in_str, in_ptr, in_own, in_agg, in_vnil, in_rdr, usedOf_cons, usedOf_nil, strs_in, ints_in, nodes_in, AV.subL, AV.sub, Row.sub, rowsOf_nil, wysR, wys_len, wysE_sub, wyE_sub]; done)))); done))
  · rw [allL_end hlt] at hf
    simp only [List.map_nil, List.append_nil] at hf
    (repeat (first | with_reducible refine AW.seq ?_ | ((first | refine arun_kn 4 rfl (fun C hC => ?_) | refine arunD_kn 4 rfl (fun C hC => ?_)); (repeat ((conv => whnf); simp [hlt])); refine hC _ ?_; clear hC C; simp only [List.drop, Nat.reduceAdd]) | ((first | refine arun_kn 1 rfl (fun C hC => ?_) | refine arunD_kn 1 rfl (fun C hC => ?_)); (repeat ((conv => whnf); simp [hlt])); refine hC _ ?_; clear hC C; simp only [List.drop, Nat.reduceAdd]) | (refine arun_skip ?_ ?_; (focus (simp [awant, hlt]; done))) | (refine AW.regionK [] (fun K hK => ?_)) | (refine AW.regionDK [] (pcs [] []) (by kernel_rfl) (by kernel_rfl) (fun K hK => ?_)) | (refine AW.condT ?_ ?_; (focus (simp [aev, hlt]; done))) | (refine AW.condF ?_ ?_; (focus (simp [aev, hlt]; done))) | with_reducible refine AW.block ?_ | ((first | ((first | refine arun_nil ?_ | refine arunD_nil ?_); refine hK _ ?_; clear hK K) | refine AW.skip ?_ | refine AW.exit ?_ | refine AW.ret ?_); simp only [thenA_exit, inBlockA_exit, if_true, if_false, Nat.reduceEqDiff, thenA_normal, inBlockA_normal, reduceIte, thenA_ret, inBlockA_ret, endQ_ret, endR_ret, endG_ret, endQ_normal, endR_normal, endG_normal, endF_ret, endF_normal])))
    refine ⟨.own 50 (ls ++ ws).length, [(50, wysR (ls ++ ws))], by simp [ares, aresL], (fun q hq => by rw [List.mem_singleton.1 hq]; simp [upd, rowsOf_cons]), purR_own, ?_, ?_, ws, ⟨hf, hnd, hge⟩, 50, rfl, rfl⟩
    · simp only [List.forall_mem_cons, List.not_mem_nil, false_implies, implies_true, and_true]
      exact fun e he c hc => (wysE_pur _ e he c hc).purR
    · refine ⟨by simp [in_own, rowsOf_cons], ?_⟩
      simp only [List.forall_mem_cons, List.not_mem_nil, false_implies, implies_true, and_true]
      exact fun e he c hc => wysE_in _ e he c hc
theorem appendPathsF_ok : ∀ n, Way n → ApOk n := Nd.ind' _ (fun n ih hw ls p h1 h2 => appendPathsF_step n hw ls p h1 h2 (fun k hk => ih k hk (hw.kid k hk)))
def rWays (Q : List (List ByteArray)) (r : AV) : Prop := ∃ (g : Nat) (ws : List LbP), ws.map (·.2) = Q ∧ (frB (.fr g) ws.isEmpty ++ ws.flatMap wyP).Nodup ∧ r = .view (.fr g) 1 (ws.map wyE)
theorem at_ways (g : Nat) (ws : List LbP) : atB (.view (.fr g) 1 (ws.map wyE)) = frB (.fr g) ws.isEmpty ++ ws.flatMap wyP := by
  have e : (ws.map wyE).isEmpty = ws.isEmpty := by cases ws <;> rfl
  rw [at_view, atE_wys, e]
theorem appendPathsF_nil (n : Nd) (hn : Way n) (p : List ByteArray) (hp : p.length + n.depth ≤ 500) (hl : n.count ≤ 1000) : ACF Tryd.prog 68 [.view .tight 0 [], nodeA n, .view .loose 1 (strsE p)] 0 (rWays ((allS n).map (p ++ ·))) := by
  have ih := fun k (hk : k ∈ n.kids) => appendPathsF_ok k (hn.kid k hk)
  have hdep := n.depth_eq
  have hcnt := n.count_eq
  have pc := copyTexts_ACF .loose p (by omega)
  unfold nodeA
  rw [nodeL_eq]
  refine ACF.of tab_ok mixed_ok Tryd.func68 (by rfl) (by kernel_rfl) ?_; rintro ⟨P, T, hT, hm, w0, S0, rd0, k0⟩ hP hTT hN; dsimp only at hP hTT hN; subst hP hTT; dsimp only; unfold initSt; rw [Tryd.ntmps68]
  have hAll := hN.A
  refine AW.adopt 0 50 23 1 ⟨_, tab23, rfl⟩ rfl rfl ?_
  simp only [ASt.adopt, ASt.add, List.set_cons_zero, List.set_cons_succ]
  (repeat (first | with_reducible refine AW.seq ?_ | ((first | refine arun_kn 4 rfl (fun C hC => ?_) | refine arunD_kn 4 rfl (fun C hC => ?_)); (repeat ((conv => whnf); simp)); refine hC _ ?_; clear hC C; simp only [List.drop, Nat.reduceAdd]) | ((first | refine arun_kn 1 rfl (fun C hC => ?_) | refine arunD_kn 1 rfl (fun C hC => ?_)); (repeat ((conv => whnf); simp)); refine hC _ ?_; clear hC C; simp only [List.drop, Nat.reduceAdd]) | (refine arun_skip ?_ ?_; (focus (simp [awant]; done))) | (refine arun_cF (0) (pc) ?_; (rintro _ ⟨g, rfl⟩ hA)) | (refine arunD_cF (0) (pc) (by refine ⟨_, rfl, ?_⟩; first | exact node_in _ | exact storeA_in _ | exact item_in _ | exact in_int | exact in_bool | exact in_str | (simp [NoId, in_tup, in_agg, in_int, in_bool, in_str, node_in, nodes_in, strs_in]; done)) ?_; (rintro _ ⟨g, rfl⟩ hA); intro _) | (refine AW.regionK [] (fun K hK => ?_)) | (refine AW.regionDK [] (pcs [] []) (by kernel_rfl) (by kernel_rfl) (fun K hK => ?_)) | (refine AW.condT ?_ ?_; (focus (simp [aev]; done))) | (refine AW.condF ?_ ?_; (focus (simp [aev]; done))) | with_reducible refine AW.block ?_ | ((first | ((first | refine arun_nil ?_ | refine arunD_nil ?_); refine hK _ ?_; clear hK K) | refine AW.skip ?_ | refine AW.exit ?_ | refine AW.ret ?_); simp only [thenA_exit, inBlockA_exit, if_true, if_false, Nat.reduceEqDiff, thenA_normal, inBlockA_normal, reduceIte, thenA_ret, inBlockA_ret, endQ_ret, endR_ret, endG_ret, endQ_normal, endR_normal, endG_normal, endF_ret, endF_normal])))
  have hg1 : (([(g, p)] : List LbP).flatMap wyP).Nodup := by simp [wyP, frB_fr]; split <;> simp
  have hg2 : ∀ b ∈ ([(g, p)] : List LbP).flatMap wyP, w0.wd.heap.size ≤ b := fun b hb => by
    rw [List.flatMap_cons, List.flatMap_nil, List.append_nil] at hb
    rcases Nat.lt_or_ge b w0.wd.heap.size with h | h
    · refine absurd (hAll b h) (hA b ?_)
      rw [at_view, at_strsE, List.append_nil]
      unfold wyP at hb
      have e1 : (strsE p).isEmpty = p.isEmpty := by unfold strsE; cases p <;> rfl
      rw [e1]; exact hb
    · exact h
  clear hA pc
  obtain ⟨ls, hls⟩ : ∃ ls : List LbP, ls = [] := ⟨_, rfl⟩
  replace hl : ls.length + n.count ≤ 1000 := by rw [hls]; simpa using hl
  refine AW.loopS (fun (x : Nat × List LbP) => mkSt (slots 0 32 [(0, .own 50 (ls ++ x.2).length), (2, .view .loose 1 (strsE p)), (4, .ptr true 5 1 4 0 0), (15, .view .loose 5 (n.kids.map nodeL)), (16, .int .i64 n.kids.length), (17, .int .i64 x.1)]) [(4, ⟨true, 26, 5, [nodeL n]⟩), (50, wysR (ls ++ x.2))] [4, 50] (rd0.map fun _ => 0)) (fun x => n.kids.length - x.1) (fun x => x.1 ≤ n.kids.length ∧ x.2.map (·.2) ++ (allL n.kind n.names (n.kids.drop x.1) x.1).map (p ++ ·) = (allS n).map (p ++ ·) ∧ (x.2.flatMap wyP).Nodup ∧ ∀ b ∈ x.2.flatMap wyP, w0.wd.heap.size ≤ b) (0, [(g, p)]) ?_ ⟨Nat.zero_le _, by rw [allS_eq]; simp, hg1, hg2⟩ ?_
  · dsimp only
    rw [nodeL_eq, hls]
    exact (less_of (by simp [lessL, mkSt, slots, wysR, wyE, ASt.adopt, ASt.add]) (by simp [upd, mkSt, rowsOf_cons, wysR, wyE, ASt.adopt, ASt.add]) (by simp [upd, mkSt, usedOf_cons, wysR, wyE, ASt.adopt, ASt.add]) (by first | exact rd_less (by omega) | simp [mkSt, wysR, wyE, ASt.adopt, ASt.add]) (by simp [slots, in_any, in_int, in_bool, in_str, in_ptr, in_own, in_agg, in_vnil, in_rdr, usedOf_cons, usedOf_nil, strs_in, ints_in, nodes_in, in_tup, wysR, wyE, ASt.adopt, ASt.add]) (by simp only [List.forall_mem_cons, List.not_mem_nil, false_implies, implies_true, and_true, true_and, wysR, wyE, ASt.adopt, ASt.add]; (repeat (first | with_reducible exact trivial | with_reducible refine And.intro ?_ ?_ | with_reducible exact in_int | with_reducible exact in_str | with_reducible exact in_bool | with_reducible exact strs_in _ | with_reducible exact nodes_in _ | with_reducible exact items_in _ | with_reducible exact in_vnil | with_reducible exact in_any | exact hin _ | with_reducible refine take_in ?_ | with_reducible exact strsE_in _ | with_reducible exact nodesE_in _ | with_reducible exact nodeL_in _ | with_reducible exact itemsE_in _ | with_reducible exact itemL_in _ | with_reducible refine app_in ?_ ?_ | with_reducible refine sing_in ?_ | (focus (simp [in_any, in_int, in_bool, in_str, in_ptr, in_own, in_agg, in_vnil, in_rdr, usedOf_cons, usedOf_nil, strs_in, ints_in, nodes_in, wysR, wyE, ASt.adopt, ASt.add]; done)))); done))
  clear hg1 hg2
  rintro ⟨i, ws⟩ ⟨hi, hf, hnd, hge⟩
  dsimp only at hi hf hnd hge ⊢
  have hlen := congrArg List.length hf
  simp only [List.length_append, List.length_map, allS_len, allL_len] at hlen
  rw [nodeL_eq]
  have hll : (ls ++ ws).length = ls.length + ws.length := List.length_append
  by_cases hlt : i < n.kids.length
  · have hk6 := hn.kids
    have hw : IntKind.i64.wrap ((i : Int) + 1) = (i : Int) + 1 := i64_nat (by omega) (by omega)
    have hmem := List.getElem_mem hlt
    have hcm := count_mem (show n.kids[i] ∈ n.kids.drop i by rw [List.drop_eq_getElem_cons hlt]; exact List.mem_cons_self)
    have hdm := depth_mem hmem
    have hih0 := ih n.kids[i] hmem (ls ++ ws) (p ++ [stp n.kind n.names i]) (by rw [List.length_append, List.length_singleton]; omega) (by omega)
    have hih := ApOk.toV (A := (w0.note (atE (wysR (ls ++ ws)).es)).A) hih0
    have p1 := stepTo_AC n i (by omega) (fun h => by have := hn.names h; omega)
    have p2 := stepBehind_AC .loose p (stp n.kind n.names i) (by omega)
    have hnx := fun ws' (h : NewW n.kids[i] (p ++ [stp n.kind n.names i]) (fun x => ¬ (w0.note (atE (wysR (ls ++ ws)).es)).A x) ws') => NewW.step (W := fun b => w0.wd.heap.size ≤ b) (A := w0.A) (ls := ls) hlt hf hnd hge ⟨h.1, h.2.1, fun b hb hx => h.2.2 b hb (hx.imp id (fun hx => by rw [show (wysR (ls ++ ws)).es = (ls ++ ws).map wyE from rfl, atE_wys]; exact hx))⟩ (fun b hb => by
      rcases Nat.lt_or_ge b w0.wd.heap.size with h | h
      · exact absurd (hAll b h) hb
      · exact h)
    generalize stp n.kind n.names i = st at *
    have hcl := node_clo n.kids[i]
    unfold nodeA at hih hcl
    rw [nodeL_eq] at hih hcl
    clear hlen hcm hdm hcnt hdep hp hl ih hih0 hll
    generalize hL : ls ++ ws = L at *
    refine AW.noteR 50 (r := wysR L) (by simp [mkSt, rowsOf_cons]) ?_
    refine AW.bound (fun N hNb => ?_)
    (repeat (first | with_reducible refine AW.seq ?_ | ((first | refine arun_kn 4 rfl (fun C hC => ?_) | refine arunD_kn 4 rfl (fun C hC => ?_)); (repeat ((conv => whnf); simp [hlt, hw])); refine hC _ ?_; clear hC C; simp only [List.drop, Nat.reduceAdd]) | ((first | refine arun_kn 1 rfl (fun C hC => ?_) | refine arunD_kn 1 rfl (fun C hC => ?_)); (repeat ((conv => whnf); simp [hlt, hw])); refine hC _ ?_; clear hC C; simp only [List.drop, Nat.reduceAdd]) | (refine arun_skip ?_ ?_; (focus (simp [awant, hlt, hw]; done))) | (refine AW.regionK [] (fun K hK => ?_)) | (refine AW.condT ?_ ?_; (focus (simp [aev, hlt, hw]; done))) | (refine AW.condF ?_ ?_; (focus (simp [aev, hlt, hw]; done))) | with_reducible refine AW.block ?_ | ((first | ((first | refine arun_nil ?_ | refine arunD_nil ?_); refine hK _ ?_; clear hK K) | refine AW.skip ?_ | refine AW.exit ?_ | refine AW.ret ?_); simp only [thenA_exit, inBlockA_exit, if_true, if_false, Nat.reduceEqDiff, thenA_normal, inBlockA_normal, reduceIte, thenA_ret, inBlockA_ret, endQ_ret, endR_ret, endG_ret, endQ_normal, endR_normal, endG_normal, endF_ret, endF_normal])))
    refine AW.regionDK [] (pcs [(5, 0, fun r => r = .str st), (6, 0, fun r => r = .view .loose 1 (strsE (p ++ [st])))] [1007]) (by kernel_rfl) (by kernel_rfl) (fun K hK => ?_)
    (repeat (first | with_reducible refine AW.seq ?_ | ((first | refine arun_kn 4 rfl (fun C hC => ?_) | refine arunD_kn 4 rfl (fun C hC => ?_)); (repeat ((conv => whnf); simp [hlt, hw])); refine hC _ ?_; clear hC C; simp only [List.drop, Nat.reduceAdd]) | ((first | refine arun_kn 1 rfl (fun C hC => ?_) | refine arunD_kn 1 rfl (fun C hC => ?_)); (repeat ((conv => whnf); simp [hlt, hw])); refine hC _ ?_; clear hC C; simp only [List.drop, Nat.reduceAdd]) | (refine arun_skip ?_ ?_; (focus (simp [awant, hlt, hw]; done))) | (refine arun_c0 (p1) ?_; rintro _ rfl) | (refine arun_c0 (p2) ?_; rintro _ rfl) | (refine arunD_c (0) (p1) ?_; rintro _ rfl; intro _) | (refine arunD_c (0) (p2) ?_; rintro _ rfl; intro _) | (refine AW.regionK [] (fun K hK => ?_)) | (refine AW.regionDK [] (pcs [(5, 0, fun r => r = .str st)] []) (by kernel_rfl) (by kernel_rfl) (fun K hK => ?_)) | (refine AW.condT ?_ ?_; (focus (simp [aev, hlt, hw]; done))) | (refine AW.condF ?_ ?_; (focus (simp [aev, hlt, hw]; done))) | with_reducible refine AW.block ?_ | ((first | ((first | refine arun_nil ?_ | refine arunD_nil ?_); refine hK _ ?_; clear hK K) | refine AW.skip ?_ | refine AW.exit ?_ | refine AW.ret ?_); simp only [thenA_exit, inBlockA_exit, if_true, if_false, Nat.reduceEqDiff, thenA_normal, inBlockA_normal, reduceIte, thenA_ret, inBlockA_ret, endQ_ret, endR_ret, endG_ret, endQ_normal, endR_normal, endG_normal, endF_ret, endF_normal])))
    refine arunD_callGV1 (Rx := fun ws' => wysR (L ++ ws')) (gx := fun ws' k' => .own k' (L ++ ws').length) [(1000, wysR L)] (fun _ => 50) 29 rfl (by simp [awant]) rfl hih (by simp) (MvR.same (by simp [upd, wysR]) (fun e he c hc => wysE_clo _ e he c hc) MvR.nil)
      (.cons (.base (.own (by simp) rfl)) (.cons (.base (.clo (Clo.cloTo hcl))) (.cons (.base (.clo (Clo.cloTo (strs_clo _)))) .nil))) (by first | exact can_of (Nat.le_refl _) | (simp only [ASt.put, ASt.pay, Option.map_map, Function.comp_def]; exact can_of (Nat.le_refl _))) (by simp [upd]) ?_ (fun ws' => wysE_pur _) (fun ws' e he c hc => wysE_in _ e he c hc) (fun ws' k => .base (.base (.own (by simp) rfl))) (fun ws' => in_own.2 (by simp)) ?_
    · obtain ⟨ws', M, q1, q2, _, q4⟩ := wys_ex ((allS n.kids[i]).map ((p ++ [st]) ++ ·)) N
      exact ⟨ws', q1, q2, fun b hb hx => by have := (q4 b hb).1; have := hNb b hx; omega⟩
    intro ws' hws'
    have hnw := hnx ws' hws'
    generalize hM : L ++ ws' = M
    (repeat (first | with_reducible refine AW.seq ?_ | ((first | refine arun_kn 4 rfl (fun C hC => ?_) | refine arunD_kn 4 rfl (fun C hC => ?_)); (repeat ((conv => whnf); simp [hw])); refine hC _ ?_; clear hC C; simp only [List.drop, Nat.reduceAdd]) | ((first | refine arun_kn 1 rfl (fun C hC => ?_) | refine arunD_kn 1 rfl (fun C hC => ?_)); (repeat ((conv => whnf); simp [hw])); refine hC _ ?_; clear hC C; simp only [List.drop, Nat.reduceAdd]) | (refine arun_skip ?_ ?_; (focus (simp [awant, hw]; done))) | (refine AW.regionK [] (fun K hK => ?_)) | (refine AW.regionDK [] (pcs [] []) (by kernel_rfl) (by kernel_rfl) (fun K hK => ?_)) | (refine AW.condT ?_ ?_; (focus (simp [aev, hw]; done))) | (refine AW.condF ?_ ?_; (focus (simp [aev, hw]; done))) | with_reducible refine AW.block ?_ | ((first | ((first | refine arun_nil ?_ | refine arunD_nil ?_); refine hK _ ?_; clear hK K) | refine AW.skip ?_ | refine AW.exit ?_ | refine AW.ret ?_); simp only [thenA_exit, inBlockA_exit, if_true, if_false, Nat.reduceEqDiff, thenA_normal, inBlockA_normal, reduceIte, thenA_ret, inBlockA_ret, endQ_ret, endR_ret, endG_ret, endQ_normal, endR_normal, endG_normal, endF_ret, endF_normal])))
    refine ⟨(i + 1, ws ++ ws'), by dsimp only; omega, ⟨by dsimp only; omega, hnw.1, hnw.2.1, hnw.2.2⟩, ?_⟩
    dsimp only
    rw [← List.append_assoc, hL, hM]
    have hin : ∀ U : Nat → Bool, ∀ e ∈ M.map wyE, ∀ c ∈ e, AV.In U c := fun U => wysE_in _
    refine Less.trans (s' := mkSt (slots 0 32 [(0, .own 29 M.length), (2, .view .loose 1 (strsE p)), (4, .ptr true 5 1 4 0 0), (15, .view .loose 5 (n.kids.map nodeL)), (16, .int .i64 n.kids.length), (17, .int .i64 ((i : Int) + 1))]) [(4, ⟨true, 26, 5, [[.int .i64 n.kind, .int .i64 n.num, .str n.text, .view .loose 1 (strsE n.names), .view .loose 5 (n.kids.map nodeL)]]⟩), (29, wysR M)] [4, 29] (rd0.map fun _ => 0)) (less_of (by simp [lessL, mkSt, slots, wysR]) (by simp [upd, mkSt, rowsOf_cons, wysR]) (by simp [upd, mkSt, usedOf_cons, wysR]) (by first | exact rd_less (by omega) | simp [mkSt, wysR]) (by simp [slots, in_any, in_int, in_bool, in_str, in_ptr, in_own, in_agg, in_vnil, in_rdr, usedOf_cons, usedOf_nil, strs_in, ints_in, nodes_in, in_tup, wysR]) (by simp only [List.forall_mem_cons, List.not_mem_nil, false_implies, implies_true, and_true, true_and, wysR]; (repeat (first | with_reducible exact trivial | with_reducible refine And.intro ?_ ?_ | with_reducible exact in_int | with_reducible exact in_str | with_reducible exact in_bool | with_reducible exact strs_in _ | with_reducible exact nodes_in _ | with_reducible exact items_in _ | with_reducible exact in_vnil | with_reducible exact in_any | exact hin _ | with_reducible refine take_in ?_ | with_reducible exact strsE_in _ | with_reducible exact nodesE_in _ | with_reducible exact nodeL_in _ | with_reducible exact itemsE_in _ | with_reducible exact itemL_in _ | with_reducible refine app_in ?_ ?_ | with_reducible refine sing_in ?_ | (focus (simp [in_any, in_int, in_bool, in_str, in_ptr, in_own, in_agg, in_vnil, in_rdr, usedOf_cons, usedOf_nil, strs_in, ints_in, nodes_in, wysR]; done)))); done)) (Less.trans (Less.rename 29 50 (by simp [mkSt, usedOf_cons, usedOf_nil])) ?_)
    simp only [ASt.rename, mkSt, rowsOf_cons, Nat.reduceEqDiff, if_true, if_false, reduceIte]
    exact (less_of (by simp [lessL, mkSt, slots, AV.subL, AV.sub, Row.sub, rowsOf_nil, wysR, wys_len, wysE_sub, wyE_sub]) (by simp [upd, mkSt, rowsOf_cons, AV.subL, AV.sub, Row.sub, rowsOf_nil, wysR, wys_len, wysE_sub, wyE_sub]) (by simp [upd, mkSt, usedOf_cons, AV.subL, AV.sub, Row.sub, rowsOf_nil, wysR, wys_len, wysE_sub, wyE_sub]) (by first | exact rd_less (by omega) | simp [mkSt, AV.subL, AV.sub, Row.sub, rowsOf_nil, wysR, wys_len, wysE_sub, wyE_sub]) (by simp [slots, in_any, in_int, in_bool, in_str, in_ptr, in_own, in_agg, in_vnil, in_rdr, usedOf_cons, usedOf_nil, strs_in, ints_in, nodes_in, in_tup, AV.subL, AV.sub, Row.sub, rowsOf_nil, wysR, wys_len, wysE_sub, wyE_sub]) (by simp only [List.forall_mem_cons, List.not_mem_nil, false_implies, implies_true, and_true, true_and, AV.subL, AV.sub, Row.sub, rowsOf_nil, wysR, wys_len, wysE_sub, wyE_sub]; (repeat (first | with_reducible exact trivial | with_reducible refine And.intro ?_ ?_ | with_reducible exact in_int | with_reducible exact in_str | with_reducible exact in_bool | with_reducible exact strs_in _ | with_reducible exact nodes_in _ | with_reducible exact items_in _ | with_reducible exact in_vnil | with_reducible exact in_any | exact hin _ | with_reducible refine take_in ?_ | with_reducible exact strsE_in _ | with_reducible exact nodesE_in _ | with_reducible exact nodeL_in _ | with_reducible exact itemsE_in _ | with_reducible exact itemL_in _ | with_reducible refine app_in ?_ ?_ | with_reducible refine sing_in ?_ | (focus (simp [in_any, in_int, in_bool, in_str, in_ptr, in_own, in_agg, in_vnil, in_rdr, usedOf_cons, usedOf_nil, strs_in, ints_in, nodes_in, AV.subL, AV.sub, Row.sub, rowsOf_nil, wysR, wys_len, wysE_sub, wyE_sub]; done)))); done))
  · rw [allL_end hlt] at hf
    simp only [List.map_nil, List.append_nil] at hf
    subst hls
    simp only [List.nil_append] at *
    refine AW.holdF 50 hN (fun g' hg' ht hr => ?_)
    have f1 := hr 50 ⟨false, 23, 1, ws.map wyE⟩ (by simp [mkSt, rowsOf_cons, wysR])
    clear ht hr
    (repeat (first | with_reducible refine AW.seq ?_ | ((first | refine arun_kn 4 rfl (fun C hC => ?_) | refine arunD_kn 4 rfl (fun C hC => ?_)); (repeat ((conv => whnf); simp [hlt, wysR, wys_len, ASt.holdF, AV.subL, AV.sub, Row.sub, rowsOf_cons, upd, wysE_sub])); refine hC _ ?_; clear hC C; simp only [List.drop, Nat.reduceAdd]) | ((first | refine arun_kn 1 rfl (fun C hC => ?_) | refine arunD_kn 1 rfl (fun C hC => ?_)); (repeat ((conv => whnf); simp [hlt, wysR, wys_len, ASt.holdF, AV.subL, AV.sub, Row.sub, rowsOf_cons, upd, wysE_sub])); refine hC _ ?_; clear hC C; simp only [List.drop, Nat.reduceAdd]) | (refine arun_skip ?_ ?_; (focus (simp [awant, hlt, wysR, wys_len, ASt.holdF, AV.subL, AV.sub, Row.sub, rowsOf_cons, upd, wysE_sub]; done))) | (refine AW.regionK [] (fun K hK => ?_)) | (refine AW.regionDK [] (pcs [] []) (by kernel_rfl) (by kernel_rfl) (fun K hK => ?_)) | (refine AW.condT ?_ ?_; (focus (simp [aev, hlt, wysR, wys_len, ASt.holdF, AV.subL, AV.sub, Row.sub, rowsOf_cons, upd, wysE_sub]; done))) | (refine AW.condF ?_ ?_; (focus (simp [aev, hlt, wysR, wys_len, ASt.holdF, AV.subL, AV.sub, Row.sub, rowsOf_cons, upd, wysE_sub]; done))) | with_reducible refine AW.block ?_ | ((first | ((first | refine arun_nil ?_ | refine arunD_nil ?_); refine hK _ ?_; clear hK K) | refine AW.skip ?_ | refine AW.exit ?_ | refine AW.ret ?_); simp only [thenA_exit, inBlockA_exit, if_true, if_false, Nat.reduceEqDiff, thenA_normal, inBlockA_normal, reduceIte, thenA_ret, inBlockA_ret, endQ_ret, endR_ret, endG_ret, endQ_normal, endR_normal, endG_normal, endF_ret, endF_normal])))
    rw [atE_wys] at f1
    have hnd2 : (frB (.fr g') ws.isEmpty ++ ws.flatMap wyP).Nodup := by
      rw [frB_fr]
      refine List.nodup_append.2 ⟨by split <;> simp, hnd, fun a ha b hb e => ?_⟩
      split at ha <;> simp at ha
      exact f1 b hb (by rw [← ha, e])
    refine ⟨.view (.fr g') 1 (ws.map wyE), by simp [ares, aresL, upd, rowsOf_cons], pur_view (by simp) (wysE_pur _), fun b hb => ?_, g', ws, hf, hnd2, rfl⟩
    rw [at_ways, frB_fr] at hb
    rcases List.mem_append.1 hb with hb | hb
    · split at hb <;> simp at hb
      rw [hb]; exact hg'
    · exact hge b hb
theorem AllPaths_ACF (n : Nd) : ACF Tryd.prog 24 [nodeA n] 0 (rWays (wayS n)) := by
  have p1 := ValidNode_AC n .loose
  have hcn := node_clo n
  cases h : validB n <;> rw [h] at p1
  · refine ACF.weak ?_
    have e : wayS n = [] := by unfold wayS; rw [h]; rfl
    unfold nodeA
    rw [nodeL_eq, e]
    refine ACF.of tab_ok mixed_ok Tryd.func24 (by rfl) (by kernel_rfl) ?_; rintro ⟨P, T, hT, hm, w0, S0, rd0, k0⟩ hP hTT hN; dsimp only at hP hTT hN; subst hP hTT; dsimp only; unfold initSt; rw [Tryd.ntmps24]
    (repeat (first | with_reducible refine AW.seq ?_ | ((first | refine arun_kn 4 rfl (fun C hC => ?_) | refine arunD_kn 4 rfl (fun C hC => ?_)); (repeat ((conv => whnf); simp)); refine hC _ ?_; clear hC C; simp only [List.drop, Nat.reduceAdd]) | ((first | refine arun_kn 1 rfl (fun C hC => ?_) | refine arunD_kn 1 rfl (fun C hC => ?_)); (repeat ((conv => whnf); simp)); refine hC _ ?_; clear hC C; simp only [List.drop, Nat.reduceAdd]) | (refine arun_skip ?_ ?_; (focus (simp [awant]; done))) | (refine arun_c0 (p1) ?_; rintro _ rfl) | (refine AW.regionK [] (fun K hK => ?_)) | (refine AW.regionDK [] (pcs [] []) (by kernel_rfl) (by kernel_rfl) (fun K hK => ?_)) | (refine AW.condT ?_ ?_; (focus (simp [aev]; done))) | (refine AW.condF ?_ ?_; (focus (simp [aev]; done))) | with_reducible refine AW.block ?_ | ((first | ((first | refine arun_nil ?_ | refine arunD_nil ?_); refine hK _ ?_; clear hK K) | refine AW.skip ?_ | refine AW.exit ?_ | refine AW.ret ?_); simp only [thenA_exit, inBlockA_exit, if_true, if_false, Nat.reduceEqDiff, thenA_normal, inBlockA_normal, reduceIte, thenA_ret, inBlockA_ret, endQ_ret, endR_ret, endG_ret, endQ_normal, endR_normal, endG_normal, endF_ret, endF_normal])))
    exact ⟨.view .tight 0 [], by simp [ares, aresL], pur_view (by decide) (fun e he => by cases he), fun b hb => by simp [at_view, atE_nil, frB_tight] at hb, .view (.fr 0) 1 [], Wk.nil (fun h => by cases h), fun b hb => by simp [at_view, atE_nil, frB_fr] at hb, 0, [], rfl, by simp [frB_fr], rfl⟩
  · obtain ⟨hw, hd, hc⟩ := valid_way h
    have e : wayS n = allS n := by unfold wayS; rw [h]; rfl
    have p2 := appendPathsF_nil n hw [] (by simp; omega) (by omega)
    have e2 : (allS n).map (([] : List ByteArray) ++ ·) = wayS n := by rw [e]; simp
    rw [e2] at p2
    replace p2 := ACF.arg p2 (bs := [.view .tight 0 [], nodeA n, .view .tight 0 []]) (.cons (Wk.refl _) (.cons (Wk.refl _) (.cons (Wk.nil (fun h => by cases h)) .nil)))
    unfold nodeA at p2 hcn ⊢
    rw [nodeL_eq] at p2 hcn ⊢
    refine ACF.of tab_ok mixed_ok Tryd.func24 (by rfl) (by kernel_rfl) ?_; rintro ⟨P, T, hT, hm, w0, S0, rd0, k0⟩ hP hTT hN; dsimp only at hP hTT hN; subst hP hTT; dsimp only; unfold initSt; rw [Tryd.ntmps24]
    (repeat (first | with_reducible refine AW.seq ?_ | ((first | refine arun_kn 4 rfl (fun C hC => ?_) | refine arunD_kn 4 rfl (fun C hC => ?_)); (repeat ((conv => whnf); simp)); refine hC _ ?_; clear hC C; simp only [List.drop, Nat.reduceAdd]) | ((first | refine arun_kn 1 rfl (fun C hC => ?_) | refine arunD_kn 1 rfl (fun C hC => ?_)); (repeat ((conv => whnf); simp)); refine hC _ ?_; clear hC C; simp only [List.drop, Nat.reduceAdd]) | (refine arun_skip ?_ ?_; (focus (simp [awant]; done))) | (refine arun_c0 (p1) ?_; rintro _ rfl) | (refine arun_cF (0) (p2) ?_; (rintro _ ⟨g, ws, h1, h2, rfl⟩ hA)) | (refine arunD_cF (0) (p2) (by refine ⟨_, rfl, ?_⟩; first | exact node_in _ | exact storeA_in _ | exact item_in _ | exact in_int | exact in_bool | exact in_str | (simp [NoId, in_tup, in_agg, in_int, in_bool, in_str, node_in, nodes_in, strs_in]; done)) ?_; (rintro _ ⟨g, ws, h1, h2, rfl⟩ hA); intro _) | (refine AW.regionK [] (fun K hK => ?_)) | (refine AW.regionDK [] (pcs [] []) (by kernel_rfl) (by kernel_rfl) (fun K hK => ?_)) | (refine AW.condT ?_ ?_; (focus (simp [aev]; done))) | (refine AW.condF ?_ ?_; (focus (simp [aev]; done))) | with_reducible refine AW.block ?_ | ((first | ((first | refine arun_nil ?_ | refine arunD_nil ?_); refine hK _ ?_; clear hK K) | refine AW.skip ?_ | refine AW.exit ?_ | refine AW.ret ?_); simp only [thenA_exit, inBlockA_exit, if_true, if_false, Nat.reduceEqDiff, thenA_normal, inBlockA_normal, reduceIte, thenA_ret, inBlockA_ret, endQ_ret, endR_ret, endG_ret, endQ_normal, endR_normal, endG_normal, endF_ret, endF_normal])))
    exact ⟨.view (.fr g) 1 (ws.map wyE), by simp [ares, aresL], pur_view (by simp) (wysE_pur _), fun b hb => hN.ge (hA b hb), g, ws, h1, h2, rfl⟩
end Go.Proofs.YtfjaobfaepjfnaaDoor.Eng
-- EV: fresh
namespace Go.Proofs.YtfjaobfaepjfnaaDoor.Eng
open Go Go.RowKit
section
variable {w : World} {ρ : Cx}
theorem rowW_of_rep {b : Nat} : ∀ {ks : List LbP} {o : Nat}, RepE w ρ b o (ks.map wyE) → RowF strsRep w b o (ks.map (·.2)) (ks.flatMap wyP)
  | [], _, _ => by unfold RowF; rfl
  | k :: ks, o, h => by
    rw [List.map_cons] at h
    unfold RepE at h
    obtain ⟨h1, h2⟩ := h
    have hl : (wyE k).length = 1 := rfl
    rw [hl] at h2
    obtain ⟨v0, p0, _, q0⟩ := h1.get (i := 0) rfl
    obtain ⟨a, c, r0, _⟩ := rep_view.1 q0
    rw [strsE_len] at r0
    subst r0
    rw [List.map_cons, List.flatMap_cons]
    unfold RowF
    refine ⟨wyP k, ks.flatMap wyP, [.slice a k.2.length c], rfl, ?_, ⟨a, c, rfl, strsF_of_rep q0⟩, rowW_of_rep (by rw [strsRep_n]; exact h2)⟩
    intro i v hv
    rcases i with _ | i
    · cases hv; exact p0
    · simp at hv
theorem fv_of_ways {g : Nat} {ks : List LbP} {v : Value} (h : Rep w ρ (.view (.fr g) 1 (ks.map wyE)) v) : FV pathsRep packO w (ks.map (·.2)) v (frB (.fr g) ks.isEmpty ++ ks.flatMap wyP) := by
  obtain ⟨a, c, r0, _, g3, g4, g5, g6⟩ := rep_view.1 h
  rw [List.length_map] at r0 g3 g4
  subst r0
  have hs : SlF strsRep w a c (ks.map (·.2)) (frB (.fr g) ks.isEmpty ++ ks.flatMap wyP) := by
    refine ⟨by rw [List.length_map]; exact g3, by rw [List.length_map]; exact g4, ?_⟩
    by_cases hne : ks = []
    · subst hne
      left
      exact ⟨rfl, rfl⟩
    · right
      rcases g6 with g6 | ⟨b, o, ha, hb, he⟩
      · exact absurd (List.map_eq_nil_iff.1 g6) hne
      · obtain ⟨_, rfl, _⟩ := hb
        refine ⟨_, o, ks.flatMap wyP, fun h => hne (List.map_eq_nil_iff.1 h), ha, ?_, rowW_of_rep he⟩
        cases ks with
        | nil => exact absurd rfl hne
        | cons x xs => rfl
  refine ⟨[.slice a ks.length c], rfl, a, c, ?_, hs⟩
  rw [List.length_map]
theorem rv_of_ways {Q : List (List ByteArray)} {v : Value} (h : Rep w ρ (.view .loose 1 (pathsE Q)) v) : RV pathsRep packO w Go.Proofs.YtfjaobfaepjfnaaDoor.any Q v := by
  obtain ⟨a, c, r0, _, g3, g4, g5, g6⟩ := rep_view.1 h
  rw [pathsE_len] at r0 g3 g4
  subst r0
  refine ⟨[.slice a Q.length c], rfl, a, c, rfl, g3, g4, ?_⟩
  rcases g6 with g6 | ⟨b, o, ha, _, he⟩
  · left
    unfold pathsE at g6
    exact List.map_eq_nil_iff.1 g6
  · refine .inr ⟨b, o, ha, trivial, fun i hi => ?_⟩
    have e := he.get g5 (i := i) (e := [.view .loose 1 (strsE Q[i])]) (by unfold pathsE; rw [List.getElem?_map, List.getElem?_eq_getElem hi]; rfl)
    obtain ⟨v0, p0, _, q0⟩ := e.get (i := 0) rfl
    obtain ⟨a', c', rfl, hs⟩ := strs_of_rep q0
    refine ⟨[.slice a' Q[i].length c'], fun j v hv => ?_, a', c', rfl, hs⟩
    rw [strsRep_n]
    rcases j with _ | j
    · cases hv; exact p0
    · simp at hv
end
theorem acf_ways {P : Program} {f : FuncId} {args : List AV} {Q : List (List ByteArray)} (h : ACF P f args 0 (rWays Q)) (w : World) (vs : List Value) (hargs : RepL w (pureC nil (fun k => k < w.heap.size) none) args vs) :
    Calls P f vs.toArray w fun e w' => ∃ v fp, e = .returned v ∧ Grow w w' ∧ FV pathsRep packO w' Q v fp ∧ Free w.heap.size w' fp := by
  refine (h.2 w nil (fun k => k < w.heap.size) none 0 vs (fun _ h => h.elim) (fun _ h => h) (fun _ h => by cases h) hargs).mono ?_
  rintro e w' ⟨v, r, S', rfl, hx, hS1, hS2, _, hr, ⟨g, ks, rfl, hnp, rfl⟩, hb⟩
  rw [at_ways] at hb
  have hg := Grow.ofNone hx
  refine ⟨v, _, rfl, hg, fv_of_ways hr, hnp, fun k hk => ?_⟩
  have hat := hr.at k (by rw [at_ways]; exact hk)
  refine ⟨hb k hk, ?_, hat.2⟩
  rcases hS2 k hat.1 with h | h
  · exact Nat.lt_of_lt_of_le h hg.size
  · exact h.2
theorem ac_ways {P : Program} {f : FuncId} {args : List AV} {Q : List (List ByteArray)} (h : AC P f args 0 (fun r => r = .view .loose 1 (pathsE Q))) (w : World) (vs : List Value) (hargs : RepL w (pureC nil (fun k => k < w.heap.size) none) args vs) :
    Calls P f vs.toArray w fun e w' => ∃ v, e = .returned v ∧ Grow w w' ∧ RV pathsRep packO w' Go.Proofs.YtfjaobfaepjfnaaDoor.any Q v := by
  refine (h.2 w nil (fun k => k < w.heap.size) none 0 vs (fun _ h => h.elim) (fun _ h => h) (fun _ h => by cases h) hargs).mono ?_
  rintro e w' ⟨v, r, S', rfl, hx, hS1, hS2, _, hr, rfl⟩
  exact ⟨v, rfl, Grow.ofNone hx, rv_of_ways hr⟩
mutual
theorem allS_dep : ∀ (n : Nd) (p : List ByteArray), p ∈ allS n → p.length + 1 ≤ n.depth
  | ⟨k, _, _, ns, ks⟩, p, h => by
    rw [allS, List.mem_cons] at h
    rw [Nd.depth]
    rcases h with rfl | h
    · simp
    · have := allL_dep k ns ks 0 p h; omega
theorem allL_dep (k : Int) (ns : List ByteArray) : ∀ (ks : List Nd) (i : Nat) (p : List ByteArray), p ∈ allL k ns ks i → p.length ≤ depthL ks
  | [], _, p, h => by rw [allL] at h; cases h
  | x :: xs, i, p, h => by
    rw [allL, List.mem_append] at h
    rw [depthL]
    rcases h with h | h
    · obtain ⟨q, hq, rfl⟩ := List.mem_map.1 h
      have := allS_dep x q hq
      rw [List.length_cons]
      omega
    · have := allL_dep k ns xs (i + 1) p h; omega
end
end Go.Proofs.YtfjaobfaepjfnaaDoor.Eng
namespace Go.Proofs.YtfjaobfaepjfnaaDoor
open Go.RowKit
theorem cntSS_short : ∀ (l : List (List ByteArray)), (∀ p ∈ l, p.length ≤ 5) → cntSS l ≤ 5 * l.length
  | [], _ => by simp [cntSS, cntR]
  | x :: l, h => by
    have h1 := h x (by simp)
    have h2 := cntSS_short l (fun y hy => h y (by simp [hy]))
    simp only [cntSS, cntR, List.map_cons, List.sum_cons, List.length_cons, cntS] at h2 ⊢
    omega
theorem wayS_cnt (n : Nd) : cntSS (Eng.wayS n) ≤ 200 := by
  unfold Eng.wayS
  cases h : validB n
  · simp [cntSS, cntR]
  · obtain ⟨_, hd, hc⟩ := Eng.valid_way h
    simp only [if_true]
    have := cntSS_short (Eng.allS n) (fun p hp => by have := Eng.allS_dep n p hp; omega)
    rw [Eng.allS_len] at this
    omega
theorem implAllPaths_ok (n : Nd) (v : Value) (w : World) (h : RV nodeRep packA w any n v) :
    Calls Tryd.prog 24 #[v] w fun e w' => ∃ r fp, e = .returned r ∧ Grow w w' ∧ FV pathsRep packO w' (Eng.wayS n) r fp ∧ Free w.heap.size w' fp :=
  Eng.acf_ways (Eng.AllPaths_ACF n) w [v] (Eng.args1 (Eng.arg_node h))
theorem specAllPaths_ok (n : Nd) (v : Value) (w : World) (h : RV nodeRep packA w any n v) :
    Calls Tryd.prog 22 #[v] w fun e w' => ∃ r, e = .returned r ∧ Grow w w' ∧ RV pathsRep packO w' any (Eng.wayS n) r :=
  Eng.ac_ways (Eng.specAllPaths_AC n) w [v] (Eng.args1 (Eng.arg_node h))
end Go.Proofs.YtfjaobfaepjfnaaDoor
namespace Go.Proofs.YtfjaobfaepjfnaaDoor
open Go.RowKit
theorem lawWay_big (n : Nd) (v0 : Value) (w : World) (h0 : RV nodeRep packA w any n v0) (hbig : ¬ costN n ≤ 1048576) :
    Calls Tryd.prog 4 #[v0] w fun e w' => e = .returned (.bool true) ∧ Grow w w' := by
  have HV0 := Lib.hid h0
  obtain ⟨na0, nc0, ka0, kc0, rfl⟩ := openV_node h0
  clear h0
  unfold nodeV at *
  by_cases c0 : (costN n : Int) ≤ 1048576
  rotate_left
  ·
    have Hs0 := Lib.hid (szR_neg (c := costN n) (left := 1048576) (by omega))
    clear c0 hbig
    have HB0 := Lib.hid (BoxN.new w [.int .i64 n.kind, .int .i64 n.num, .string n.text, .slice na0 n.names.length nc0, .slice ka0 n.kids.length kc0] 44)
    go_enter Tryd.func4, Tryd.ntmps4
    go_wp2_with fail
    refine (uSzN n _ _ _ (by omega) (by omega) (HV0.out.grow (by repeat (first | with_reducible exact Ext.refl _ _ | with_reducible refine Ext.trans ?_ (by assumption) | with_reducible refine Ext.drew ?_ | with_reducible refine Ext.drewN ?_ _ | with_reducible refine Ext.alloc ?_ _ | with_reducible refine Ext.setNew ?_ (by simp; done) _ | with_reducible refine Ext.setNew ?_ (by simp; omega) _)))).mono ?_
    rintro e w1 ⟨rfl, hg1⟩
    simp only [Hs0.out]
    have z1 := hg1.size
    try simp only [World.size_alloc] at z1
    go_wp2_with fail
    go_ret
    exact ⟨by simp, (by repeat (first | with_reducible exact Ext.refl _ _ | with_reducible refine Ext.trans ?_ (by assumption) | with_reducible refine Ext.drew ?_ | with_reducible refine Ext.drewN ?_ _ | with_reducible refine Ext.alloc ?_ _ | with_reducible refine Ext.setNew ?_ (by simp; done) _ | with_reducible refine Ext.setNew ?_ (by simp; omega) _))⟩
  have Hs0 := Lib.hid (szR_pos (c := costN n) (left := 1048576) (by omega))
  omega
theorem lawWay_main (n : Nd) (v0 : Value) (w : World) (h0 : RV nodeRep packA w any n v0) (hcost : costN n ≤ 1048576) :
    Calls Tryd.prog 4 #[v0] w fun e w' => e = .returned (.bool true) ∧ Grow w w' := by
  have HV0 := Lib.hid h0
  obtain ⟨na0, nc0, ka0, kc0, rfl⟩ := openV_node h0
  clear h0
  unfold nodeV at *
  have Hs0 := Lib.hid (szR_pos (c := costN n) (left := 1048576) (by omega))
  have C0 : Hid (costN n ≤ 1048576) := Lib.hid (by omega)
  have HB0 := Lib.hid (BoxN.new w [.int .i64 n.kind, .int .i64 n.num, .string n.text, .slice na0 n.names.length nc0, .slice ka0 n.kids.length kc0] 44)
  go_enter Tryd.func4, Tryd.ntmps4
  go_wp2_with fail
  refine (uSzN n _ _ _ (by omega) (by omega) (HV0.out.grow (by repeat (first | with_reducible exact Ext.refl _ _ | with_reducible refine Ext.trans ?_ (by assumption) | with_reducible refine Ext.drew ?_ | with_reducible refine Ext.drewN ?_ _ | with_reducible refine Ext.alloc ?_ _ | with_reducible refine Ext.setNew ?_ (by simp; done) _ | with_reducible refine Ext.setNew ?_ (by simp; omega) _)))).mono ?_
  rintro e w1 ⟨rfl, hg1⟩
  simp only [Hs0.out]
  have z1 := hg1.size
  try simp only [World.size_alloc] at z1
  have pB := HB0.out.grow (w' := w1) (by repeat (first | with_reducible exact Ext.refl _ _ | with_reducible refine Ext.trans ?_ (by assumption) | with_reducible refine Ext.drew ?_ | with_reducible refine Ext.drewN ?_ _ | with_reducible refine Ext.alloc ?_ _ | with_reducible refine Ext.setNew ?_ (by simp; done) _ | with_reducible refine Ext.setNew ?_ (by simp; omega) _))
  have p0 := pB.cell 0 _ rfl; have p1 := pB.cell 1 _ rfl; have p2 := pB.cell 2 _ rfl; have p3 := pB.cell 3 _ rfl; have p4 := pB.cell 4 _ rfl
  go_wp2_with fail
  refine (uToN n _ _ C0.out (HV0.out.grow (by repeat (first | with_reducible exact Ext.refl _ _ | with_reducible refine Ext.trans ?_ (by assumption) | with_reducible refine Ext.drew ?_ | with_reducible refine Ext.drewN ?_ _ | with_reducible refine Ext.alloc ?_ _ | with_reducible refine Ext.setNew ?_ (by simp; done) _ | with_reducible refine Ext.setNew ?_ (by simp; omega) _)))).mono ?_
  rintro e w2 ⟨us, fs, rfl, hg2, hF, hfr⟩
  have z2 := hg2.size
  try simp only [World.size_alloc] at z2
  have RUs := Lib.hid hF.rv
  clear hF hfr p0 p1 p2 p3 p4 pB
  go_wp2_with fail
  refine (specAllPaths_ok n _ _  RUs.out).mono ?_
  rintro e w3 ⟨rs, rfl, hg3, hR⟩
  have z3 := hg3.size
  try simp only [World.size_alloc] at z3
  have RW := Lib.hid hR.under
  clear hR
  have ys : w3.heap.size ≤ w3.heap.size := Nat.le_refl _
  have hpB := HB0.out.grow (w' := w3) (by repeat (first | with_reducible exact Ext.refl _ _ | with_reducible refine Ext.trans ?_ (by assumption) | with_reducible refine Ext.drew ?_ | with_reducible refine Ext.drewN ?_ _ | with_reducible refine Ext.alloc ?_ _ | with_reducible refine Ext.setNew ?_ (by simp; done) _ | with_reducible refine Ext.setNew ?_ (by simp; omega) _))
  have p0 := hpB.cell 0 _ rfl; have p1 := hpB.cell 1 _ rfl; have p2 := hpB.cell 2 _ rfl; have p3 := hpB.cell 3 _ rfl; have p4 := hpB.cell 4 _ rfl; have pz := hpB.lt
  go_wp2_with fail
  refine (uToN n _ _ C0.out (HV0.out.grow (by repeat (first | with_reducible exact Ext.refl _ _ | with_reducible refine Ext.trans ?_ (by assumption) | with_reducible refine Ext.drew ?_ | with_reducible refine Ext.drewN ?_ _ | with_reducible refine Ext.alloc ?_ _ | with_reducible refine Ext.setNew ?_ (by simp; done) _ | with_reducible refine Ext.setNew ?_ (by simp; omega) _)))).mono ?_
  rintro e w4 ⟨y0, f0, rfl, hg4, hF, hfr⟩
  have z4 := hg4.size
  try simp only [World.size_alloc] at z4
  try simp only [World.size_alloc] at hfr
  have F0 := Lib.hid hF
  have S0 := Lib.hid (Seg.of hfr)
  obtain ⟨nax0, ncx0, kax0, kcx0, rfl⟩ := openV_node hF.rv
  unfold nodeV at *
  clear hF hfr p0 p1 p2 p3 p4 hpB pz
  have HBx0 := Lib.hid (BoxN.new w4 [.int .i64 n.kind, .int .i64 n.num, .string n.text, .slice nax0 n.names.length ncx0, .slice kax0 n.kids.length kcx0] 26)
  go_wp2_with fail
  refine (implAllPaths_ok n _ _  (F0.out.rv.grow (by repeat (first | with_reducible exact Ext.refl _ _ | with_reducible refine Ext.trans ?_ (by assumption) | with_reducible refine Ext.drew ?_ | with_reducible refine Ext.drewN ?_ _ | with_reducible refine Ext.alloc ?_ _ | with_reducible refine Ext.setNew ?_ (by simp; done) _ | with_reducible refine Ext.setNew ?_ (by simp; omega) _)))).mono ?_
  rintro e w5 ⟨rg, fg, rfl, hg5, hF, hfr⟩
  have z5 := hg5.size
  try simp only [World.size_alloc] at z5
  try simp only [World.size_alloc] at hfr
  have FG := Lib.hid hF
  have SG := Lib.hid (Seg.of hfr)
  clear hF hfr
  go_wp2_with fail
  refine (uEqSS ((Eng.wayS n)) _ _ _ (FG.out.rv.grow (by repeat (first | with_reducible exact Ext.refl _ _ | with_reducible refine Ext.trans ?_ (by assumption) | with_reducible refine Ext.drew ?_ | with_reducible refine Ext.drewN ?_ _ | with_reducible refine Ext.alloc ?_ _ | with_reducible refine Ext.setNew ?_ (by simp; done) _ | with_reducible refine Ext.setNew ?_ (by simp; omega) _))) (RW.out.any.grow (by repeat (first | with_reducible exact Ext.refl _ _ | with_reducible refine Ext.trans ?_ (by assumption) | with_reducible refine Ext.drew ?_ | with_reducible refine Ext.drewN ?_ _ | with_reducible refine Ext.alloc ?_ _ | with_reducible refine Ext.setNew ?_ (by simp; done) _ | with_reducible refine Ext.setNew ?_ (by simp; omega) _)))).mono ?_
  rintro e w6 ⟨rfl, hg6⟩
  have z6 := hg6.size
  try simp only [World.size_alloc] at z6
  go_wp2_with fail
  have pB := HBx0.out.grow (w' := w6) (by repeat (first | with_reducible exact Ext.refl _ _ | with_reducible refine Ext.trans ?_ (by assumption) | with_reducible refine Ext.drew ?_ | with_reducible refine Ext.drewN ?_ _ | with_reducible refine Ext.alloc ?_ _ | with_reducible refine Ext.setNew ?_ (by simp; done) _ | with_reducible refine Ext.setNew ?_ (by simp; omega) _))
  have p0 := pB.cell 0 _ rfl; have p1 := pB.cell 1 _ rfl; have p2 := pB.cell 2 _ rfl; have p3 := pB.cell 3 _ rfl; have p4 := pB.cell 4 _ rfl
  have qB := HB0.out.grow (w' := w6) (by repeat (first | with_reducible exact Ext.refl _ _ | with_reducible refine Ext.trans ?_ (by assumption) | with_reducible refine Ext.drew ?_ | with_reducible refine Ext.drewN ?_ _ | with_reducible refine Ext.alloc ?_ _ | with_reducible refine Ext.setNew ?_ (by simp; done) _ | with_reducible refine Ext.setNew ?_ (by simp; omega) _))
  have q0 := qB.cell 0 _ rfl; have q1 := qB.cell 1 _ rfl; have q2 := qB.cell 2 _ rfl; have q3 := qB.cell 3 _ rfl; have q4 := qB.cell 4 _ rfl
  refine wp_region_stab Grow (fun i => if i = 2 then some (fun v w' => RV nodeRep packA w' any n v) else if i = 3 then some (fun v _ => v = .bool true) else none) (by kernel_rfl) (by kernel_rfl) ⟨Ext.refl nil, fun _ _ h1 h2 => h2.trans h1, ?_⟩ ?_
  · intro i V hV v w1 w2 hr hv
    by_cases h1 : i = 2
    · simp only [h1, if_true, Option.some.injEq] at hV; subst hV; exact RV.grow hv hr
    · by_cases h3 : i = 3
      · simp [h3] at hV; subst hV; exact hv
      · simp [h1, h3] at hV
  (refine wpStab_quiet (by kernel_rfl) (by kernel_rfl) (by simp) ?_; intro K hK; go_big_quiet_op; go_big_quiet_on)
  (refine wpStab_quiet (by kernel_rfl) (by kernel_rfl) (by simp) ?_; intro K hK; go_big_quiet_op; go_big_quiet_on)
  refine wpStab_made (fun v w' => RV nodeRep packA w' any n v) ?_ ?_ ?_ ?_
  · go_simp
  · simp
  · intro y _
    refine stabAt_call (f := 23) (args := #[.agg #[.int .i64 n.kind, .int .i64 n.num, .string n.text, .slice na0 n.names.length nc0, .slice ka0 n.kids.length kc0]]) ?_ ?_
    · go_simp
    · refine (uToN n _ _ C0.out (HV0.out.grow (((by repeat (first | with_reducible exact Ext.refl _ _ | with_reducible refine Ext.trans ?_ (by assumption) | with_reducible refine Ext.drew ?_ | with_reducible refine Ext.drewN ?_ _ | with_reducible refine Ext.alloc ?_ _ | with_reducible refine Ext.setNew ?_ (by simp; done) _ | with_reducible refine Ext.setNew ?_ (by simp; omega) _)) : Grow w w6).trans (later_grow _ _)))).mono ?_
      rintro e w' ⟨v', fp, rfl, hg, hF, _⟩
      exact ⟨_, rfl, hg, hF.rv⟩
  intro vt
  go_frame
  refine wpStab_const (.bool true) ?_ ?_ ?_ ?_
  · go_simp
  · simp
  · intro y hE
    have Hr6 : RV nodeRep packA (later w6 y) any n vt := (hE ⟨2, .data⟩ (by simp) (by decide)).2 rfl
    clear hE
    refine stabAt_call (f := 26) (args := #[.agg #[.int .i64 n.kind, .int .i64 n.num, .string n.text, .slice nax0 n.names.length ncx0, .slice kax0 n.kids.length kcx0], vt]) ?_ ?_
    · go_simp
    · refine (uEqN n _ _ _ (F0.out.rv.grow (((by repeat (first | with_reducible exact Ext.refl _ _ | with_reducible refine Ext.trans ?_ (by assumption) | with_reducible refine Ext.drew ?_ | with_reducible refine Ext.drewN ?_ _ | with_reducible refine Ext.alloc ?_ _ | with_reducible refine Ext.setNew ?_ (by simp; done) _ | with_reducible refine Ext.setNew ?_ (by simp; omega) _)) : Grow _ w6).trans (later_grow _ _))) Hr6).mono ?_
      rintro e w' ⟨rfl, hg⟩
      exact ⟨_, rfl, hg, rfl⟩
  go_frame
  (refine wpStab_quiet (by kernel_rfl) (by kernel_rfl) (by simp) ?_; intro K hK; go_big_quiet_op; go_big_quiet_on)
  refine wpStab_end ?_
  intro w7 hg7
  clear p0 p1 p2 p3 p4 pB q0 q1 q2 q3 q4 qB
  have z7 := hg7.size
  replace F0 := Lib.hid (F0.out.grow S0.out (w' := w7) (by repeat (first | with_reducible exact Ext.refl _ _ | with_reducible refine Ext.trans ?_ (by assumption) | with_reducible refine Ext.drew ?_ | with_reducible refine Ext.drewN ?_ _ | with_reducible refine Ext.alloc ?_ _ | with_reducible refine Ext.setNew ?_ (by simp; done) _ | with_reducible refine Ext.setNew ?_ (by simp; omega) _)))
  replace S0 := Lib.hid (S0.out.grow (w' := w7) (by repeat (first | with_reducible exact Ext.refl _ _ | with_reducible refine Ext.trans ?_ (by assumption) | with_reducible refine Ext.drew ?_ | with_reducible refine Ext.drewN ?_ _ | with_reducible refine Ext.alloc ?_ _ | with_reducible refine Ext.setNew ?_ (by simp; done) _ | with_reducible refine Ext.setNew ?_ (by simp; omega) _)))
  replace FG := Lib.hid (FG.out.grow SG.out (w' := w7) (by repeat (first | with_reducible exact Ext.refl _ _ | with_reducible refine Ext.trans ?_ (by assumption) | with_reducible refine Ext.drew ?_ | with_reducible refine Ext.drewN ?_ _ | with_reducible refine Ext.alloc ?_ _ | with_reducible refine Ext.setNew ?_ (by simp; done) _ | with_reducible refine Ext.setNew ?_ (by simp; omega) _)))
  replace SG := Lib.hid (SG.out.grow (w' := w7) (by repeat (first | with_reducible exact Ext.refl _ _ | with_reducible refine Ext.trans ?_ (by assumption) | with_reducible refine Ext.drew ?_ | with_reducible refine Ext.drewN ?_ _ | with_reducible refine Ext.alloc ?_ _ | with_reducible refine Ext.setNew ?_ (by simp; done) _ | with_reducible refine Ext.setNew ?_ (by simp; omega) _)))
  replace RW := Lib.hid (RW.out.grow (w' := w7) (by repeat (first | with_reducible exact Ext.refl _ _ | with_reducible refine Ext.trans ?_ (by assumption) | with_reducible refine Ext.drew ?_ | with_reducible refine Ext.drewN ?_ _ | with_reducible refine Ext.alloc ?_ _ | with_reducible refine Ext.setNew ?_ (by simp; done) _ | with_reducible refine Ext.setNew ?_ (by simp; omega) _)))
  replace HB0 := Lib.hid (HB0.out.grow (w' := w7) (by repeat (first | with_reducible exact Ext.refl _ _ | with_reducible refine Ext.trans ?_ (by assumption) | with_reducible refine Ext.drew ?_ | with_reducible refine Ext.drewN ?_ _ | with_reducible refine Ext.alloc ?_ _ | with_reducible refine Ext.setNew ?_ (by simp; done) _ | with_reducible refine Ext.setNew ?_ (by simp; omega) _)))
  replace HBx0 := Lib.hid (HBx0.out.grow (w' := w7) (by repeat (first | with_reducible exact Ext.refl _ _ | with_reducible refine Ext.trans ?_ (by assumption) | with_reducible refine Ext.drew ?_ | with_reducible refine Ext.drewN ?_ _ | with_reducible refine Ext.alloc ?_ _ | with_reducible refine Ext.setNew ?_ (by simp; done) _ | with_reducible refine Ext.setNew ?_ (by simp; omega) _)))
  have lHB0 := HB0.out.lt
  have lHBx0 := HBx0.out.lt
  have hgA : Grow w w7 := (by repeat (first | with_reducible exact Ext.refl _ _ | with_reducible refine Ext.trans ?_ (by assumption) | with_reducible refine Ext.drew ?_ | with_reducible refine Ext.drewN ?_ _ | with_reducible refine Ext.alloc ?_ _ | with_reducible refine Ext.setNew ?_ (by simp; done) _ | with_reducible refine Ext.setNew ?_ (by simp; omega) _))
  clear hg1 hg2 hg3 hg4 hg5 hg6 hg7
  have m0 := cntT_le n
  have mg := wayS_cnt n
  have p0 := HBx0.out.cell 0 _ rfl; have p1 := HBx0.out.cell 1 _ rfl; have p2 := HBx0.out.cell 2 _ rfl; have p3 := HBx0.out.cell 3 _ rfl; have p4 := HBx0.out.cell 4 _ rfl
  go_wp2_with fail
  refine (uMarkN n _ f0 _ (1) _ _ (by rfl) F0.out S0.out.1 (by omega) (by omega)).mono ?_
  rintro e w8 ⟨rfl, hx, _, _⟩
  clear p0 p1 p2 p3 p4
  replace FG := Lib.hid (FG.out.keep (SG.out.keeps S0.out (by omega) hx))
  replace SG := Lib.hid (SG.out.ext S0.out (by omega) hx)
  replace HB0 := Lib.hid (S0.out.box HB0.out hx (by omega))
  replace HBx0 := Lib.hid (S0.out.box HBx0.out hx (by omega))
  replace RW := Lib.hid (S0.out.rv RW.out hx (by omega))
  replace hgA := S0.out.inner hgA hx (by omega)
  clear hx F0
  go_wp2_with fail
  refine (uEqSS ((Eng.wayS n)) _ _ _ FG.out.rv RW.out.any).mono ?_
  rintro e w9 ⟨rfl, hg⟩
  replace FG := Lib.hid (FG.out.grow SG.out hg)
  replace SG := Lib.hid (SG.out.grow hg)
  replace RW := Lib.hid (RW.out.grow hg)
  replace HB0 := Lib.hid (HB0.out.grow hg)
  replace HBx0 := Lib.hid (HBx0.out.grow hg)
  replace hgA := hgA.trans hg
  clear hg
  go_wp2_with fail
  refine (uMarkSS ((Eng.wayS n)) _ fg _ 1 _ _ (by rfl) FG.out SG.out.1 (by omega) (by omega)).mono ?_
  rintro e w10 ⟨rfl, hx, hfr, hF⟩
  replace HB0 := Lib.hid (SG.out.box HB0.out hx (by omega))
  replace HBx0 := Lib.hid (SG.out.box HBx0.out hx (by omega))
  replace RW := Lib.hid (SG.out.rv RW.out hx (by omega))
  replace hgA := SG.out.inner hgA hx (by omega)
  replace FG := Lib.hid hF
  replace SG := Lib.hid (SG.out.marked hfr)
  clear hx hfr hF
  go_wp2_with fail
  refine (uHeldSS ((Eng.wayS n)) _ 1 _ _ (by rfl) FG.out.rv (by omega) (by omega)).mono ?_
  rintro e w11 ⟨rfl, hg⟩
  replace FG := Lib.hid (FG.out.grow SG.out hg)
  replace SG := Lib.hid (SG.out.grow hg)
  replace RW := Lib.hid (RW.out.grow hg)
  replace HB0 := Lib.hid (HB0.out.grow hg)
  replace HBx0 := Lib.hid (HBx0.out.grow hg)
  replace hgA := hgA.trans hg
  clear hg
  have hbb : ((1 + cntSS ((Eng.wayS n)) : Nat) != (1 + cntSS ((Eng.wayS n)) : Nat)) = false := by simp
  have hgc := hgA
  have pB := HB0.out.grow (w' := w11) (by repeat (first | with_reducible exact Ext.refl _ _ | with_reducible refine Ext.trans ?_ (by assumption) | with_reducible refine Ext.drew ?_ | with_reducible refine Ext.drewN ?_ _ | with_reducible refine Ext.alloc ?_ _ | with_reducible refine Ext.setNew ?_ (by simp; done) _ | with_reducible refine Ext.setNew ?_ (by simp; omega) _))
  have p0 := pB.cell 0 _ rfl; have p1 := pB.cell 1 _ rfl; have p2 := pB.cell 2 _ rfl; have p3 := pB.cell 3 _ rfl; have p4 := pB.cell 4 _ rfl
  go_wp2_with fail
  refine (uToN n _ _ C0.out (HV0.out.grow (by repeat (first | with_reducible exact Ext.refl _ _ | with_reducible refine Ext.trans ?_ (by assumption) | with_reducible refine Ext.drew ?_ | with_reducible refine Ext.drewN ?_ _ | with_reducible refine Ext.alloc ?_ _ | with_reducible refine Ext.setNew ?_ (by simp; done) _ | with_reducible refine Ext.setNew ?_ (by simp; omega) _)))).mono ?_
  rintro e w12 ⟨uh, fh, rfl, hg12, hF, hfr⟩
  have z12 := hg12.size
  try simp only [World.size_alloc] at z12
  have RUh := Lib.hid hF.rv
  clear hF hfr p0 p1 p2 p3 p4 pB
  go_wp2_with fail
  refine (implAllPaths_ok n _ _  RUh.out).mono ?_
  rintro e w13 ⟨rh, fh, rfl, hg13, hF, hfr⟩
  have z13 := hg13.size
  try simp only [World.size_alloc] at z13
  have hR := hF.rv
  clear hF hfr
  have RH := Lib.hid hR
  clear hR
  go_wp2_with fail
  refine (uEqSS ((Eng.wayS n)) _ _ _ (RH.out.grow (by repeat (first | with_reducible exact Ext.refl _ _ | with_reducible refine Ext.trans ?_ (by assumption) | with_reducible refine Ext.drew ?_ | with_reducible refine Ext.drewN ?_ _ | with_reducible refine Ext.alloc ?_ _ | with_reducible refine Ext.setNew ?_ (by simp; done) _ | with_reducible refine Ext.setNew ?_ (by simp; omega) _))) (RW.out.any.grow (by repeat (first | with_reducible exact Ext.refl _ _ | with_reducible refine Ext.trans ?_ (by assumption) | with_reducible refine Ext.drew ?_ | with_reducible refine Ext.drewN ?_ _ | with_reducible refine Ext.alloc ?_ _ | with_reducible refine Ext.setNew ?_ (by simp; done) _ | with_reducible refine Ext.setNew ?_ (by simp; omega) _)))).mono ?_
  rintro e w14 ⟨rfl, hg14⟩
  have z14 := hg14.size
  try simp only [World.size_alloc] at z14
  go_wp2_with fail
  refine (uHeldSS ((Eng.wayS n)) _ 1 _ _ (by rfl) (FG.out.rv.grow (by repeat (first | with_reducible exact Ext.refl _ _ | with_reducible refine Ext.trans ?_ (by assumption) | with_reducible refine Ext.drew ?_ | with_reducible refine Ext.drewN ?_ _ | with_reducible refine Ext.alloc ?_ _ | with_reducible refine Ext.setNew ?_ (by simp; done) _ | with_reducible refine Ext.setNew ?_ (by simp; omega) _))) (by omega) (by omega)).mono ?_
  rintro e w15 ⟨rfl, hg15⟩
  have z15 := hg15.size
  try simp only [World.size_alloc] at z15
  go_wp2_with fail
  go_ret
  exact ⟨by simp, (by repeat (first | with_reducible exact Ext.refl _ _ | with_reducible refine Ext.trans ?_ (by assumption) | with_reducible refine Ext.drew ?_ | with_reducible refine Ext.drewN ?_ _ | with_reducible refine Ext.alloc ?_ _ | with_reducible refine Ext.setNew ?_ (by simp; done) _ | with_reducible refine Ext.setNew ?_ (by simp; omega) _))⟩
theorem lawWay_ok (n : Nd) (v0 : Value) (w : World) (h0 : RV nodeRep packA w any n v0) :
    Calls Tryd.prog 4 #[v0] w fun e w' => e = .returned (.bool true) ∧ Grow w w' := by
  by_cases hc : costN n ≤ 1048576
  · exact lawWay_main n v0 w h0 hc
  · exact lawWay_big n v0 w h0 hc
end Go.Proofs.YtfjaobfaepjfnaaDoor
namespace Go.Proofs.YtfjaobfaepjfnaaDoor
open Go.RowKit
end Go.Proofs.YtfjaobfaepjfnaaDoor
namespace Go.Proofs.YtfjaobfaepjfnaaDoor
open Go.RowKit
end Go.Proofs.YtfjaobfaepjfnaaDoor
namespace Go.Proofs.YtfjaobfaepjfnaaDoor
open Go.RowKit
end Go.Proofs.YtfjaobfaepjfnaaDoor
namespace Go.Proofs.YtfjaobfaepjfnaaDoor
open Go.RowKit
end Go.Proofs.YtfjaobfaepjfnaaDoor
namespace Go.Proofs.YtfjaobfaepjfnaaDoor
open Go.RowKit
end Go.Proofs.YtfjaobfaepjfnaaDoor
namespace Go.Proofs.YtfjaobfaepjfnaaDoor
open Go.RowKit Go.ChangeShapes Go.WideShapes Go.Deep
section
variable {H : Type} {enc : TypeId × Value → H} {W : World} {base : Nat} {sp : Nat → Bool} {held : Bool}
end
end Go.Proofs.YtfjaobfaepjfnaaDoor
namespace Go.Proofs.YtfjaobfaepjfnaaDoor
open Go.RowKit Go.ChangeShapes Go.WideShapes Go.Deep
section
variable {H : Type} {enc : TypeId × Value → H} {W : World} {base : Nat} {sp : Nat → Bool} {held : Bool}
end
end Go.Proofs.YtfjaobfaepjfnaaDoor
namespace Go.Proofs.YtfjaobfaepjfnaaDoor
open Go.RowKit
end Go.Proofs.YtfjaobfaepjfnaaDoor
namespace Go.Proofs.YtfjaobfaepjfnaaDoor
open Go.RowKit
end Go.Proofs.YtfjaobfaepjfnaaDoor
namespace Go.Proofs.YtfjaobfaepjfnaaDoor
open Go.RowKit
end Go.Proofs.YtfjaobfaepjfnaaDoor
namespace Go.Proofs.YtfjaobfaepjfnaaDoor
open Go.RowKit Go.ChangeShapes Go.WideShapes Go.Deep
section
variable {H : Type} {enc : TypeId × Value → H} {W : World} {base : Nat} {sp : Nat → Bool} {held : Bool}
theorem rv_node {fuel : Nat} {cs : Array Value} {x : DataW H × List MemPlace} (h : DataW.trod enc Tryd.prog W base sp held fuel 44 cs.toList = some x) : ∃ y, RV nodeRep packA W any y (.agg cs) := by
  obtain ⟨q, na, nc, ka, kc, e2, hq⟩ := open_node _ _ _ h
  exact ⟨q, cs.toList, rfl, na, nc, ka, kc, e2, hq⟩
end
end Go.Proofs.YtfjaobfaepjfnaaDoor
