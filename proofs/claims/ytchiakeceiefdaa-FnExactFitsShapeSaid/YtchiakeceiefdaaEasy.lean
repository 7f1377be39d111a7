/-
  Reading operations of a stab walk by the kit's quick step.
-/
import Derived.Test.YtchiakeceiefdaaStab
import Derived.BigQuiet
namespace Go.Proofs.Ytchiakeceiefdaa
open Go Go.RowKit

/-- An operation that enters no function. -/
def easy (o : Oper) : Bool :=
  match o.op with
  | .move _ | .assign _ | .pick _ _ _ | .load _ _ | .fieldAddr _ _ _ | .indexAddr _ _ _ | .index _ _ _ | .field _ _ _ | .extract _ _ | .binOp _ _ _ _ _ | .unOp _ _ _ | .convert _ _ _ | .slice _ _ _ _ _ | .build _ _ => true
  | .call { callee := .builtin .len, args := _, argTypes := _ } => true
  | _ => false

theorem pureVal_run {P : Program} (s : Sem Value) (w w' : World) (f : FuncId) (args : Array Value) : (do pure (Next.value (← s)) : Sem Next).run P w ≠ .ok (.enter f args) w' := by
  intro h
  have : (do pure (Next.value (← s)) : Sem Next).run P w = (s.run P w).andThen fun a w' => .ok (.value a) w' := by
    simp [Result.andThen]
  rw [this] at h
  cases hs : s.run P w with
  | ok a w1 => rw [hs] at h; simp [Result.andThen] at h
  | halt x w1 => rw [hs] at h; simp [Result.andThen] at h

theorem noEnter {P : Program} {o : Oper} (he : easy o = true) (ρ : Operand → Value) (w w' : World) (f : FuncId) (args : Array Value) : (execOp ρ o).run P w ≠ .ok (.enter f args) w' := by
  obtain ⟨dst, op, type, pos, after, guard⟩ := o
  cases op <;> simp only [easy, Bool.false_eq_true] at he
  case move x => intro h; simp [execOp] at h
  case assign x => intro h; simp [execOp] at h
  case pick c a b =>
    intro h
    have : (execOp ρ ⟨dst, .pick c a b, type, pos, after, guard⟩).run P w = ((asBool (ρ c)).run P w).andThen fun q w' => .ok (.value (if q then ρ a else ρ b)) w' := by
      simp [execOp, Result.andThen]
    rw [this] at h
    cases hs : (asBool (ρ c)).run P w with
    | ok a w1 => rw [hs] at h; simp [Result.andThen] at h
    | halt x w1 => rw [hs] at h; simp [Result.andThen] at h
  case load t a => exact pureVal_run _ _ _ _ _
  case fieldAddr => exact pureVal_run _ _ _ _ _
  case indexAddr => exact pureVal_run _ _ _ _ _
  case index => exact pureVal_run _ _ _ _ _
  case field => exact pureVal_run _ _ _ _ _
  case extract => exact pureVal_run _ _ _ _ _
  case binOp => exact pureVal_run _ _ _ _ _
  case unOp => exact pureVal_run _ _ _ _ _
  case convert => exact pureVal_run _ _ _ _ _
  case slice => exact pureVal_run _ _ _ _ _
  case build => exact pureVal_run _ _ _ _ _
  case call c =>
    obtain ⟨callee, args', tys⟩ := c
    cases callee with
    | value x => simp at he
    | invoke r m => simp at he
    | builtin b =>
      cases b <;> simp at he
      intro h
      simp [execOp, resolve, invoke, builtin] at h
      cases hs : (Builtin.len_ tys type (Array.map ρ args')).run P w with
      | ok a w1 => rw [hs] at h; simp [Result.andThen] at h
      | halt x w1 => rw [hs] at h; simp [Result.andThen] at h

section
variable {P : Program} {ops : Array Oper} {Vs : Nat → Option (Value → World → Prop)} {w : World} {Q : Act → World → Prop}

theorem wpStab_quiet {o : Oper} {rest : List Oper} {k : Nat} {a : Act} {E : Env} (he : easy o = true) (hw : Region.wanted o (yielded ops a.tmps) = true) (hV : Vs k = none)
    (h : ∀ K : Act → Prop, (∀ a, wpStab P ops Grow Vs (fun w' => Grow w.drew w') Q rest (k + 1) a E → K a) → o.quiet P a (fun w' => ∃ x, w' = later w x) K) :
    wpStab P ops Grow Vs (fun w' => Grow w.drew w') Q (o :: rest) k a E := by
  unfold wpStab
  rw [if_pos hw]
  unfold does
  rw [hV]
  obtain ⟨v, h1, h2⟩ := h _ (fun _ h => h)
  refine ⟨v, fun w' hc => ?_, h2⟩
  have h3 := h1 w' ⟨⟨w', drew_grow hc.1⟩, rfl⟩
  unfold Oper.quietAt at h3
  unfold valAt
  have hne := noEnter (P := P) he a.eval w'
  generalize (execOp a.eval o).run P w' = r at *
  cases r with
  | ok n w2 =>
    cases n <;> simp only [Oper.quietUpon] at h3 <;> simp only [valUpon]
    case value u => exact ⟨h3.2, by rw [h3.1]; exact Ext.refl _ _⟩
    case skip => exact ⟨h3.2, by rw [h3.1]; exact Ext.refl _ _⟩
    case enter f args => exact absurd rfl (hne w2 f args)
  | halt x w2 => simp only [Oper.quietUpon] at h3
end

end Go.Proofs.Ytchiakeceiefdaa
