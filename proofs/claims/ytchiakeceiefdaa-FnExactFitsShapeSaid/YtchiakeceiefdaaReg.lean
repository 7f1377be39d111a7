/-
  A region that draws its order: one walk of the order of the text serves every order, where each operation that makes memory or calls tells a fact that stays true while the world goes on.
-/
import Derived.WalkKit
import Derived.WalkSpells
import Derived.WalkLawsBesides
import Derived.BigQuiet
namespace Go.Proofs.Ytchiakeceiefdaa
open Go

section
variable {P : Program} {ops : Array Oper} {md : Region.Mode} {R : World → World → Prop} {Vs : Nat → Option (Value → World → Prop)} {C : World → Prop}

abbrev Env := Nat → World → Prop
def Env.upd (E : Env) (i : Nat) (F : World → Prop) : Env := fun k w => E k w ∧ (k = i → F w)

/-- An operation that runs by itself and hands back one value, the same in every world of the class. -/
def valUpon (R : World → World → Prop) (w : World) (c : Value) : Result Next → Prop
  | .ok (.value u) w' => u = c ∧ R w w'
  | .ok .skip w' => c = undef ∧ R w w'
  | _ => False

def stabUpon (P : Program) (R : World → World → Prop) (w : World) (V : Value → World → Prop) : Result Next → Prop
  | .ok (.value u) w' => R w w' ∧ V u w'
  | .ok .skip w' => R w w' ∧ V undef w'
  | .ok (.enter f args) w' => w' = w ∧ Calls P f args w (fun e w'' => ∃ v, e = .returned v ∧ R w w'' ∧ V v w'')
  | _ => False

def valAt (R : World → World → Prop) (P : Program) (o : Oper) (a : Act) (w : World) (c : Value) : Prop := valUpon R w c ((execOp a.eval o).run P w)
def stabAt (R : World → World → Prop) (P : Program) (o : Oper) (a : Act) (w : World) (V : Value → World → Prop) : Prop := stabUpon P R w V ((execOp a.eval o).run P w)

def cls (C : World → Prop) (o : Oper) (E : Env) (w : World) : Prop := C w ∧ ∀ e ∈ o.after, Region.binds .any e = true → E e.on w

/-- What operation 'o', number i, does in state (a, E). -/
def does (P : Program) (R : World → World → Prop) (Vs : Nat → Option (Value → World → Prop)) (C : World → Prop) (i : Nat) (o : Oper) (K : Act → Env → Prop) (a : Act) (E : Env) : Prop :=
  match Vs i with
  | none => ∃ c, (∀ w, cls C o E w → valAt R P o a w c) ∧ K (a.put o.dst c) E
  | some V => (∀ w, cls C o E w → stabAt R P o a w V) ∧ ∀ v w, C w → (∀ k, E k w) → V v w → K (a.put o.dst v) (E.upd i (V v))

def step (P : Program) (ops : Array Oper) (R : World → World → Prop) (Vs : Nat → Option (Value → World → Prop)) (C : World → Prop) (i : Nat) (K : Act → Env → Prop) (a : Act) (E : Env) : Prop :=
  match ops[i]? with
  | none => K a E
  | some o => if Region.wanted o (yielded ops a.tmps) then does P R Vs C i o K a E else K (a.put o.dst undef) E

/-- The lexical walk. -/
def wpStab (P : Program) (ops : Array Oper) (R : World → World → Prop) (Vs : Nat → Option (Value → World → Prop)) (C : World → Prop) (Q : Act → World → Prop) : List Oper → Nat → Act → Env → Prop
  | [], _, a, E => ∀ w, C w → (∀ k, E k w) → Q a w
  | o :: rest, k, a, E => if Region.wanted o (yielded ops a.tmps) then does P R Vs C k o (wpStab P ops R Vs C Q rest (k + 1)) a E else wpStab P ops R Vs C Q rest (k + 1) (a.put o.dst undef) E

def wpAnyT (P : Program) (md : Region.Mode) (ops : Array Oper) (R : World → World → Prop) (Vs : Nat → Option (Value → World → Prop)) (C : World → Prop) (Q : Act → World → Prop) : Nat → Array Bool → Act → Env → Prop
  | 0, listed, a, E => Region.ready md ops listed = [] ∧ ∀ w, C w → (∀ k, E k w) → Q a w
  | fuel + 1, listed, a, E =>
    (Region.ready md ops listed = [] → ∀ w, C w → (∀ k, E k w) → Q a w) ∧
    ∀ i ∈ Region.ready md ops listed, step P ops R Vs C i (wpAnyT P md ops R Vs C Q fuel (listed.setIfInBounds i true)) a E

theorem does_mono {i : Nat} {o : Oper} {K K' : Act → Env → Prop} {a : Act} {E : Env} (h : ∀ a E, K a E → K' a E) (hh : does P R Vs C i o K a E) : does P R Vs C i o K' a E := by
  unfold does at *
  split at hh
  · obtain ⟨c, h1, h2⟩ := hh; exact ⟨c, h1, h _ _ h2⟩
  · exact ⟨hh.1, fun v w h1 h2 h3 => h _ _ (hh.2 v w h1 h2 h3)⟩

theorem does_mono' {i : Nat} {o : Oper} {K K' : Act → Env → Prop} {a : Act} {E : Env} (hex : ∃ w, C w ∧ ∀ k, E k w)
    (h : ∀ a E, (∃ w, C w ∧ ∀ k, E k w) → K a E → K' a E) (hh : does P R Vs C i o K a E) : does P R Vs C i o K' a E := by
  unfold does at *
  split at hh
  · obtain ⟨c, h1, h2⟩ := hh; exact ⟨c, h1, h _ _ hex h2⟩
  · exact ⟨hh.1, fun v w h1 h2 h3 => h _ _ ⟨w, h1, fun k => ⟨h2 k, fun _ => h3⟩⟩ (hh.2 v w h1 h2 h3)⟩

theorem step_mono' {i : Nat} {K K' : Act → Env → Prop} {a : Act} {E : Env} (hex : ∃ w, C w ∧ ∀ k, E k w)
    (h : ∀ a E, (∃ w, C w ∧ ∀ k, E k w) → K a E → K' a E) (hh : step P ops R Vs C i K a E) : step P ops R Vs C i K' a E := by
  unfold step at *
  split
  · rename_i ho; simp only [ho] at hh; exact h _ _ hex hh
  · rename_i o ho
    simp only [ho] at hh
    split
    · rename_i hw; simp only [hw, if_true] at hh; exact does_mono' hex h hh
    · rename_i hw; simp only [hw] at hh; exact h _ _ hex hh

structure Closed (R : World → World → Prop) (C : World → Prop) (Vs : Nat → Option (Value → World → Prop)) : Prop where
  refl : ∀ w, R w w
  cl : ∀ w w', R w w' → C w → C w'
  st : ∀ i V, Vs i = some V → ∀ v w w', R w w' → V v w → V v w'

def EnvSt (R : World → World → Prop) (E : Env) : Prop := ∀ k w w', R w w' → E k w → E k w'

theorem EnvSt.upd {E : Env} (h : EnvSt R E) {i : Nat} {F : World → Prop} (hF : ∀ w w', R w w' → F w → F w') : EnvSt R (E.upd i F) :=
  fun k w w' hr hk => ⟨h k w w' hr hk.1, fun e => hF _ _ hr (hk.2 e)⟩

theorem wpOp_of_step (hc : Closed R C Vs) {i : Nat} {a : Act} {E : Env} {K : Act → Env → Prop} {K' : Act → World → Prop} {Q' : Exit → Act → World → Prop} {w : World}
    (hw : C w) (hE : ∀ k, E k w) (hs : EnvSt R E) (h : ∀ a E w', C w' → (∀ k, E k w') → EnvSt R E → K a E → K' a w') (hh : step P ops R Vs C i K a E) : wpOp P ops Q' i K' a w := by
  unfold step at hh
  unfold wpOp
  split
  · rename_i ho; simp only [ho] at hh; exact h _ _ _ hw hE hs hh
  · rename_i o ho
    simp only [ho] at hh
    split
    · rename_i hwt
      simp only [hwt, if_true] at hh
      refine .inl ?_
      unfold does at hh
      unfold Oper.wp
      cases hV : Vs i with
      | none =>
        simp only [hV] at hh
        obtain ⟨c, h1, h2⟩ := hh
        have h3 := h1 w ⟨hw, fun e _ _ => hE e.on⟩
        unfold valAt at h3
        generalize (execOp a.eval o).run P w = r at *
        cases r with
        | ok n w' =>
          cases n <;> simp only [valUpon] at h3 <;> simp only [Oper.upon]
          case value u =>
            obtain ⟨rfl, h4⟩ := h3
            exact h _ _ _ (hc.cl _ _ h4 hw) (fun k => hs k _ _ h4 (hE k)) hs h2
          case skip =>
            obtain ⟨rfl, h4⟩ := h3
            exact h _ _ _ (hc.cl _ _ h4 hw) (fun k => hs k _ _ h4 (hE k)) hs h2
        | halt x w' => simp only [valUpon] at h3
      | some V =>
        simp only [hV] at hh
        obtain ⟨h1, h2⟩ := hh
        have h3 := h1 w ⟨hw, fun e _ _ => hE e.on⟩
        have fin : ∀ v w', R w w' → V v w' → K' (a.put o.dst v) w' := fun v w' hr hv => by
          have hE' : ∀ k, (E.upd i (V v)) k w' := fun k => ⟨hs k _ _ hr (hE k), fun _ => hv⟩
          exact h _ _ _ (hc.cl _ _ hr hw) hE' (hs.upd fun _ _ => hc.st i V hV v _ _) (h2 v w' (hc.cl _ _ hr hw) (fun k => hs k _ _ hr (hE k)) hv)
        unfold stabAt at h3
        generalize (execOp a.eval o).run P w = r at *
        cases r with
        | ok n w' =>
          cases n <;> simp only [stabUpon] at h3 <;> simp only [Oper.upon]
          case value u => exact fin _ _ h3.1 h3.2
          case skip => exact fin _ _ h3.1 h3.2
          case enter f args =>
            obtain ⟨rfl, hcl⟩ := h3
            exact hcl.mono fun e w'' ⟨v, he, hr, hv⟩ => by subst he; exact fin _ _ hr hv
        | halt x w' => simp only [stabUpon] at h3
    · rename_i hwt; simp only [hwt] at hh; exact h _ _ _ hw hE hs hh

theorem wpAny_of_T (hc : Closed R C Vs) {Q : Act → World → Prop} {Q' : Exit → Act → World → Prop} (hQ : ∀ a w, Q a w → Q' .normal a w) :
    ∀ (fuel : Nat) (listed : Array Bool) (a : Act) (E : Env) (w : World), C w → (∀ k, E k w) → EnvSt R E → wpAnyT P md ops R Vs C Q fuel listed a E → wpAny P md ops Q' fuel listed a w
  | 0, _, _, _, _, hw, hE, _, h => ⟨h.1, hQ _ _ (h.2 _ hw hE)⟩
  | fuel + 1, _, _, _, _, hw, hE, hs, h => ⟨fun h0 => hQ _ _ (h.1 h0 _ hw hE), fun i hi => wpOp_of_step hc hw hE hs (fun a' E' w' hw' hE' hs' => wpAny_of_T hc hQ fuel _ a' E' w' hw' hE' hs') (h.2 i hi)⟩

theorem cls_upd {oj : Oper} {E : Env} {i : Nat} {F : World → Prop} (hno : ∀ e ∈ oj.after, Region.binds .any e = true → e.on ≠ i) (w : World) : cls C oj (E.upd i F) w ↔ cls C oj E w := by
  unfold cls Env.upd
  exact ⟨fun ⟨h1, h2⟩ => ⟨h1, fun e he hb => (h2 e he hb).1⟩, fun ⟨h1, h2⟩ => ⟨h1, fun e he hb => ⟨h2 e he hb, fun h => absurd h (hno e he hb)⟩⟩⟩

theorem upd_comm {E : Env} {i j : Nat} {F G : World → Prop} : (E.upd i F).upd j G = (E.upd j G).upd i F := by
  funext k w
  unfold Env.upd
  exact propext ⟨fun ⟨⟨h1, h2⟩, h3⟩ => ⟨⟨h1, h3⟩, h2⟩, fun ⟨⟨h1, h2⟩, h3⟩ => ⟨⟨h1, h3⟩, h2⟩⟩

theorem valAt_put {oj : Oper} (hsj : ∀ cs b, oj.op ≠ .select cs b) {a : Act} {d : Option Tmp} {v : Value} (h : ∀ t, d = some t → t ∉ oj.looksAt ops) {w : World} {c : Value} :
    valAt R P oj (a.put d v) w c = valAt R P oj a w c := by unfold valAt; rw [execOp_put oj hsj a d v h]
theorem stabAt_put {oj : Oper} (hsj : ∀ cs b, oj.op ≠ .select cs b) {a : Act} {d : Option Tmp} {v : Value} (h : ∀ t, d = some t → t ∉ oj.looksAt ops) {w : World} {V : Value → World → Prop} :
    stabAt R P oj (a.put d v) w V = stabAt R P oj a w V := by unfold stabAt; rw [execOp_put oj hsj a d v h]

theorem valAt_det {o : Oper} {a : Act} {w : World} {c c' : Value} (h : valAt R P o a w c) (h' : valAt R P o a w c') : c = c' := by
  unfold valAt at *
  generalize (execOp a.eval o).run P w = r at *
  cases r with
  | ok n w' => cases n <;> simp only [valUpon] at h h' <;> first | exact h.1.symm.trans h'.1 | exact h.1.trans h'.1.symm
  | halt x w' => simp only [valUpon] at h

theorem stab_some {o : Oper} {a : Act} {w : World} {V : Value → World → Prop} (h : stabAt R P o a w V) : ∃ v w', R w w' ∧ V v w' := by
  unfold stabAt at *
  generalize (execOp a.eval o).run P w = r at *
  cases r with
  | ok n w' =>
    cases n <;> simp only [stabUpon] at h
    case value u => exact ⟨_, _, h⟩
    case skip => exact ⟨_, _, h⟩
    case enter f args =>
      obtain ⟨rfl, hcl⟩ := h
      obtain ⟨e, w'', fr, ⟨v, he, hr, hv⟩, _⟩ := hcl []
      exact ⟨v, w'', hr, hv⟩
  | halt x w' => simp only [stabUpon] at h

/-- The two steps change places. -/
theorem exch (hc : Closed R C Vs) {i j : Nat} {oi oj : Oper} (hi : ops[i]? = some oi) (hj : ops[j]? = some oj) (hap : oi.apart ops oj = true)
    (hsi : ∀ cs b, oi.op ≠ .select cs b) (hsj : ∀ cs b, oj.op ≠ .select cs b)
    (hnj : ∀ e ∈ oj.after, Region.binds .any e = true → e.on ≠ i) (hni : ∀ e ∈ oi.after, Region.binds .any e = true → e.on ≠ j)
    {K : Act → Env → Prop} {a : Act} {E : Env} (hE : EnvSt R E) (hex : ∃ w, C w ∧ ∀ k, E k w)
    (h : step P ops R Vs C i (fun a' E' => step P ops R Vs C j K a' E') a E) : step P ops R Vs C j (fun a' E' => step P ops R Vs C i K a' E') a E := by
  obtain ⟨p1, p2, p3⟩ := Oper.apart_spec hap
  unfold step at *
  simp only [hi, hj] at *
  have wj : ∀ v, Region.wanted oj (yielded ops (a.put oi.dst v).tmps) = Region.wanted oj (yielded ops a.tmps) := fun v => wanted_put oj a oi.dst v p1
  have wi : ∀ v, Region.wanted oi (yielded ops (a.put oj.dst v).tmps) = Region.wanted oi (yielded ops a.tmps) := fun v => wanted_put oi a oj.dst v p3
  have pc : ∀ u v, (a.put oi.dst v).put oj.dst u = (a.put oj.dst u).put oi.dst v := fun u v => Act.put_comm a v u p2
  have vj : ∀ v w c, valAt R P oj (a.put oi.dst v) w c = valAt R P oj a w c := fun v w c => valAt_put hsj p1
  have vi : ∀ v w c, valAt R P oi (a.put oj.dst v) w c = valAt R P oi a w c := fun v w c => valAt_put hsi p3
  have sj : ∀ v w V, stabAt R P oj (a.put oi.dst v) w V = stabAt R P oj a w V := fun v w V => stabAt_put hsj p1
  have si : ∀ v w V, stabAt R P oi (a.put oj.dst v) w V = stabAt R P oi a w V := fun v w V => stabAt_put hsi p3
  cases hwi : Region.wanted oi (yielded ops a.tmps) <;> cases hwj : Region.wanted oj (yielded ops a.tmps)
  · simp only [hwi, hwj, wi, wj, Bool.false_eq_true, if_false] at h ⊢
    rw [← pc]; exact h
  · simp only [hwi, hwj, wj, if_true, Bool.false_eq_true, if_false] at h ⊢
    unfold does at *
    cases hVj : Vs j with
    | none =>
      simp only [hVj, vj, wi, hwi, Bool.false_eq_true, if_false] at h ⊢
      obtain ⟨c, h1, h2⟩ := h
      exact ⟨c, h1, by rw [← pc]; exact h2⟩
    | some V =>
      simp only [hVj, sj, wi, hwi, Bool.false_eq_true, if_false] at h ⊢
      obtain ⟨h1, h2⟩ := h
      exact ⟨h1, fun v w k1 k2 k3 => by rw [← pc]; exact h2 v w k1 k2 k3⟩
  · simp only [hwi, wi, if_true, Bool.false_eq_true, if_false] at h ⊢
    unfold does at *
    cases hVi : Vs i with
    | none =>
      simp only [hVi, vi, wj, hwj, Bool.false_eq_true, if_false] at h ⊢
      obtain ⟨c, h1, h2⟩ := h
      exact ⟨c, h1, by rw [← pc]; exact h2⟩
    | some V =>
      simp only [hVi, si, wj, hwj, Bool.false_eq_true, if_false] at h ⊢
      obtain ⟨h1, h2⟩ := h
      exact ⟨h1, fun v w k1 k2 k3 => by rw [← pc]; exact h2 v w k1 k2 k3⟩
  · simp only [hwi, if_true] at h ⊢
    unfold does at *
    cases hVi : Vs i with
    | none =>
      cases hVj : Vs j with
      | none =>
        simp only [hVi, hVj, vi, vj, wi, wj, hwi, hwj, if_true] at h ⊢
        obtain ⟨c, h1, d, h3, h4⟩ := h
        exact ⟨d, h3, c, h1, by rw [← pc]; exact h4⟩
      | some V' =>
        simp only [hVi, hVj, vi, sj, wi, wj, hwi, hwj, if_true] at h ⊢
        obtain ⟨c, h1, h3, h4⟩ := h
        exact ⟨h3, fun u w k1 k2 k3 => ⟨c, fun w' hw' => h1 w' ((cls_upd hni w').1 hw'), by rw [← pc]; exact h4 u w k1 k2 k3⟩⟩
    | some V =>
      cases hVj : Vs j with
      | none =>
        simp only [hVi, hVj, si, vj, wi, wj, hwi, hwj, if_true] at h ⊢
        obtain ⟨h1, h2⟩ := h
        obtain ⟨w0, hw0, hE0⟩ := hex
        obtain ⟨v0, w1, hr, hv0⟩ := stab_some (R := R) (h1 w0 ⟨hw0, fun e _ _ => hE0 e.on⟩)
        have hw1 := hc.cl _ _ hr hw0
        have hE1 : ∀ k, E k w1 := fun k => hE k _ _ hr (hE0 k)
        obtain ⟨d, h4, h5⟩ := h2 v0 w1 hw1 hE1 hv0
        have h4' : ∀ w, cls C oj E w → valAt R P oj a w d := fun w hw => h4 w ((cls_upd hnj w).2 hw)
        refine ⟨d, h4', h1, fun v w k1 k2 k3 => ?_⟩
        obtain ⟨d', h6, h7⟩ := h2 v w k1 k2 k3
        have hw' : cls C oj E w := ⟨k1, fun e _ _ => k2 e.on⟩
        have e1 := h6 w ((cls_upd hnj w).2 hw')
        rw [← valAt_det e1 (h4' w hw')]
        rw [← pc]; exact h7
      | some V' =>
        simp only [hVi, hVj, si, sj, wi, wj, hwi, hwj, if_true] at h ⊢
        obtain ⟨h1, h2⟩ := h
        obtain ⟨w0, hw0, hE0⟩ := hex
        obtain ⟨v0, w1, hr, hv0⟩ := stab_some (R := R) (h1 w0 ⟨hw0, fun e _ _ => hE0 e.on⟩)
        have hw1 := hc.cl _ _ hr hw0
        have hE1 : ∀ k, E k w1 := fun k => hE k _ _ hr (hE0 k)
        obtain ⟨h4, h5⟩ := h2 v0 w1 hw1 hE1 hv0
        refine ⟨fun w hw => h4 w ((cls_upd hnj w).2 hw), fun u w k1 k2 k3 => ⟨fun w' hw' => h1 w' ((cls_upd hni w').1 hw'), fun v w' q1 q2 q3 => ?_⟩⟩
        have := (h2 v w' q1 (fun k => (q2 k).1) q3).2 u w' q1 (fun k => ⟨(q2 k).1, fun _ => q3⟩) ((q2 j).2 rfl)
        rw [← pc, upd_comm]; exact this

theorem step_some (hc : Closed R C Vs) {i : Nat} {K : Act → Env → Prop} {a : Act} {E : Env} (hE : EnvSt R E) (hex : ∃ w, C w ∧ ∀ k, E k w)
    (h : step P ops R Vs C i K a E) : ∃ a' E', (∃ w, C w ∧ ∀ k, E' k w) ∧ K a' E' := by
  unfold step at h
  split at h
  · exact ⟨_, _, hex, h⟩
  · split at h
    · unfold does at h
      split at h
      · obtain ⟨c, _, h2⟩ := h; exact ⟨_, _, hex, h2⟩
      · obtain ⟨w0, hw0, hE0⟩ := hex
        obtain ⟨v0, w1, hr, hv0⟩ := stab_some (R := R) (h.1 w0 ⟨hw0, fun e _ _ => hE0 e.on⟩)
        have hw1 := hc.cl _ _ hr hw0
        have hE1 : ∀ k, E k w1 := fun k => hE k _ _ hr (hE0 k)
        exact ⟨_, _, ⟨w1, hw1, fun k => ⟨hE1 k, fun _ => hv0⟩⟩, h.2 v0 w1 hw1 hE1 hv0⟩
    · exact ⟨_, _, hex, h⟩

/-- Being stable goes along with a step. -/
theorem step_mono_st (hc : Closed R C Vs) {i : Nat} {K K' : Act → Env → Prop} {a : Act} {E : Env} (hE : EnvSt R E) (hex : ∃ w, C w ∧ ∀ k, E k w)
    (h : ∀ a E, EnvSt R E → (∃ w, C w ∧ ∀ k, E k w) → K a E → K' a E) (hh : step P ops R Vs C i K a E) : step P ops R Vs C i K' a E := by
  unfold step at *
  split
  · rename_i ho; simp only [ho] at hh; exact h _ _ hE hex hh
  · rename_i o ho
    simp only [ho] at hh
    split
    · rename_i hw
      simp only [hw, if_true] at hh
      unfold does at *
      split at hh
      · obtain ⟨c, h1, h2⟩ := hh; exact ⟨c, h1, h _ _ hE hex h2⟩
      · rename_i V hV
        exact ⟨hh.1, fun v w h1 h2 h3 => h _ _ (hE.upd fun _ _ => hc.st i V hV v _ _) ⟨w, h1, fun k => ⟨h2 k, fun _ => h3⟩⟩ (hh.2 v w h1 h2 h3)⟩
    · rename_i hw; simp only [hw] at hh; exact h _ _ hE hex hh

theorem wpAnyT_first (hc : Closed R C Vs) {Q : Act → World → Prop} {i : Nat} {oi : Oper} (hi : ops[i]? = some oi) (hsel : ∀ (j : Nat) (o : Oper) cs b, ops[j]? = some o → o.op ≠ .select cs b) :
    ∀ (fuel : Nat) (listed : Array Bool) (a : Act) (E : Env),
      (∀ j oj, ops[j]? = some oj → j ≠ i → listed.getD j true = false → (∀ e ∈ oj.after, Region.binds .any e = true → e.on ≠ i) → oi.apart ops oj = true) →
      i ∈ Region.ready .any ops listed → EnvSt R E → (∃ w, C w ∧ ∀ k, E k w) →
      step P ops R Vs C i (wpAnyT P .any ops R Vs C Q fuel (listed.setIfInBounds i true)) a E → wpAnyT P .any ops R Vs C Q (fuel + 1) listed a E := by
  intro fuel
  induction fuel with
  | zero =>
    intro listed a E _ hr hE hex H
    refine ⟨fun h => (by rw [h] at hr; cases hr), fun j hj => ?_⟩
    by_cases hji : j = i
    · subst hji; exact H
    · obtain ⟨a', E', _, h⟩ := step_some hc hE hex H
      have := ready_mono hj hji
      rw [h.1] at this
      cases this
  | succ fuel ih =>
    intro listed a E hfree hr hE hex H
    refine ⟨fun h => (by rw [h] at hr; cases hr), fun j hj => ?_⟩
    by_cases hji : j = i
    · subst hji; exact H
    · obtain ⟨hjun, oj, hoj, hall⟩ := mem_ready.1 hj
      have key : ∀ (k : Nat), listed.getD k true = false → ∀ e : Edge, listed.getD e.on false = true → e.on ≠ k := fun k hk e he heq => by
        rw [heq] at he
        rcases Nat.lt_or_ge k listed.size with h' | h'
        · simp [h'] at hk he; rw [hk] at he; cases he
        · simp [Array.getElem?_eq_none h'] at he
      have hnot : ∀ e ∈ oj.after, Region.binds .any e = true → e.on ≠ i := fun e he hb => key i (mem_ready.1 hr).1 e (hall e he hb)
      have hnoti : ∀ e ∈ oi.after, Region.binds .any e = true → e.on ≠ j := fun e he hb => by
        obtain ⟨_, oi', hoi', halli⟩ := mem_ready.1 hr
        rw [hi] at hoi'; cases hoi'
        exact key j hjun e (halli e he hb)
      have h1 : step P ops R Vs C i (fun a' E' => step P ops R Vs C j (wpAnyT P .any ops R Vs C Q fuel ((listed.setIfInBounds i true).setIfInBounds j true)) a' E') a E :=
        step_mono' hex (fun a' E' _ h => h.2 j (ready_mono hj hji)) H
      have h2 := exch hc hi hoj (hfree j oj hoj hji hjun hnot) (fun cs b => hsel i oi cs b hi) (fun cs b => hsel j oj cs b hoj) hnot hnoti hE hex h1
      have hfree' : ∀ k ok, ops[k]? = some ok → k ≠ i → (listed.setIfInBounds j true).getD k true = false →
          (∀ e ∈ ok.after, Region.binds .any e = true → e.on ≠ i) → oi.apart ops ok = true := fun k ok hk hki hun hno => by
        refine hfree k ok hk hki ?_ hno
        by_cases hjk : j = k
        · subst hjk; exact hjun
        · rw [getD_set_ne true hjk] at hun; exact hun
      refine step_mono_st hc hE hex (fun a' E' hE' hex' h3 => ih (listed.setIfInBounds j true) a' E' hfree' (ready_mono hr (Ne.symm hji)) hE' hex' ?_) h2
      rw [Array.setIfInBounds_comm _ _ hji]
      exact h3

theorem wpAnyT_lex (hc : Closed R C Vs) {Q : Act → World → Prop} (hs : Region.noSelect ops = true) : ∀ (l : List Oper) (k : Nat) (listed : Array Bool) (a : Act) (E : Env), (∀ j, l[j]? = ops[k + j]?) →
    Region.lexFrom .any ops l.length k listed = true → EnvSt R E → (∃ w, C w ∧ ∀ k, E k w) → wpStab P ops R Vs C Q l k a E → wpAnyT P .any ops R Vs C Q l.length listed a E
  | [], _, _, _, _, _, hB, _, _, h => ⟨by simpa [Region.lexFrom] using hB, h⟩
  | o :: l, k, listed, a, E, hl, hB, hE, hex, h => by
    have h0 : ops[k]? = some o := by simpa using (hl 0).symm
    simp only [List.length_cons, Region.lexFrom, Bool.and_eq_true] at hB
    obtain ⟨⟨hr, hf⟩, hB'⟩ := hB
    have hst : step P ops R Vs C k (wpStab P ops R Vs C Q l (k + 1)) a E := by unfold step; simp only [h0]; exact h
    exact wpAnyT_first hc h0 (Region.noSelect_spec hs) l.length listed a E (Region.free_spec h0 hf) (by simpa using hr) hE hex
      (step_mono_st hc hE hex (fun a' E' hE' hex' h' => wpAnyT_lex hc hs l (k + 1) _ _ _ (fun j => by have := hl (j + 1); simpa [Nat.add_assoc, Nat.add_comm 1 j] using this) hB' hE' hex' h') hst)

/-- One walk of the lexical order serves every order. -/
theorem wp_region_stab {id : Nat} {Q : Exit → Act → World → Prop} {a : Act} {w : World} {l : List Oper} (R : World → World → Prop) (Vs : Nat → Option (Value → World → Prop))
    (hm : P.follows .mixedOrders = true) (hB : Region.lexB .any l.toArray = true) (hc : Closed R (fun w' => R w.drew w') Vs)
    (h : wpStab P l.toArray R Vs (fun w' => R w.drew w') (fun a' w' => Q .normal a' w') l 0 a (fun _ _ => True)) : (Code.region id l.toArray true).wp P Q a w := by
  simp only [Region.lexB, Bool.and_eq_true] at hB
  have hE : EnvSt R (fun _ _ => True) := fun _ _ _ _ _ => trivial
  refine wp_region_any hm (wpAny_of_T (C := fun w' => R w.drew w') hc (fun _ _ h => h) _ _ _ (fun _ _ => True) _ (hc.refl _) (fun _ => trivial) hE ?_)
  have := wpAnyT_lex (P := P) (ops := l.toArray) hc hB.1 l 0 (Array.replicate l.toArray.size false) a _ (by simp) (by simpa using hB.2) hE ⟨_, hc.refl _, fun _ => trivial⟩ h
  simpa using this

end
end Go.Proofs.Ytchiakeceiefdaa
