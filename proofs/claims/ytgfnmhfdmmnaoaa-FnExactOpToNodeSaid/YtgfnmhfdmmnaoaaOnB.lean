/-
  Texts of this claim, joined.
-/
import Derived.Test.YtgfnmhfdmmnaoaaOnA

set_option linter.unusedSimpArgs false
set_option linter.unusedVariables false
set_option linter.unnecessarySimpa false
set_option maxRecDepth 100000
set_option maxHeartbeats 16000000
namespace Go.Proofs.Ytgfnmhfdmmnaoaa.Eng
open Go Go.RowKit
structure Dl where
  id : Nat
  v : Option Row
  nw : Bool
def ASt.app (s : ASt) : Option Dl → ASt
  | none => s
  | some d => { s with rows := upd s.rows d.id d.v, used := if d.nw then upd s.used d.id true else s.used }
def foot (o : Oper) (s : ASt) : List Nat :=
  match o.op with
  | .load _ x => idOf (aev s x)
  | .store _ p _ => idOf (aev s p)
  | .box _ _ | .alloc _ | .buildSlice _ _ _ => o.dst.toList
  | .call { callee := .builtin .append, args := ⟨[x, y]⟩, argTypes := _ } => idOf (aev s x) ++ idOf (aev s y) ++ o.dst.toList
  | _ => []
theorem at_loc {dr : Bool} {s t : ASt} {x : AV} (h : ∀ id ∈ idOf x, t.rows id = s.rows id) : t.at dr x = s.at dr x := by
  unfold ASt.at
  cases x <;> try rfl
  rename_i bx sz n id i j
  simp only [h id (by simp [idOf])]
theorem asrc_loc {s t : ASt} {i : TI} {y : AV} (h : ∀ id ∈ idOf y, t.rows id = s.rows id) : asrc t i y = asrc s i y := by
  unfold asrc
  cases y <;> try rfl
  rename_i id n
  simp only [h id (by simp [idOf])]
theorem upd_upd {α : Type} (f : Nat → α) (k : Nat) (v u : α) : upd (upd f k v) k u = upd f k u := by
  funext x; unfold upd; split <;> rfl
theorem aps_loc {s t : ASt} {ps : Array (Nat × Operand)} (h : ∀ x ∈ (ps.toList.map (·.2)).toArray, aev t x = aev s x) : aps t ps = aps s ps := by
  unfold aps
  apply List.map_congr_left
  intro p hp
  rw [h p.2 (by simp; exact ⟨p.1, by simpa using hp⟩)]
def Kd (o : Oper) (s : ASt) (d : Dl) : Prop :=
  match o.op with
  | .box _ _ | .alloc _ | .buildSlice _ _ _ => o.dst = some d.id ∧ s.used d.id = false
  | .store _ _ _ => ∃ r, s.rows d.id = some r
  | .call _ => (o.dst = some d.id ∧ s.used d.id = false) ∨ ((∃ r, s.rows d.id = some r ∧ r.bx = false) ∧ ∀ r, d.v = some r → r.bx = false)
  | _ => False
theorem ado_loc {T : Tab} {dr : Bool} {md : List Nat} {o : Oper} {s s' : ASt} {c : AV} (e : ado T dr md o s = some (c, s')) :
    ∃ δ : Option Dl, s' = s.app δ ∧ (∀ d, δ = some d → d.id ∈ foot o s ∧ Kd o s d) ∧ ∀ t : ASt, (∀ x ∈ o.op.operands, aev t x = aev s x) → (∀ id ∈ foot o s, t.rows id = s.rows id ∧ t.used id = s.used id) → ado T dr md o t = some (c, t.app δ) := by
  obtain ⟨dst, op, type, pos, after, guard⟩ := o
  unfold ado at e
  split at e
  all_goals (rename_i heq; dsimp only at heq)
  · rename_i x
    subst heq; cases e
    exact ⟨none, rfl, (fun d h => by cases h), fun t ho _ => by unfold ado; simp only [ho x (by simp [Op.operands, Call.operands]), ASt.app]⟩
  · rename_i x
    subst heq; cases e
    exact ⟨none, rfl, (fun d h => by cases h), fun t ho _ => by unfold ado; simp only [ho x (by simp [Op.operands, Call.operands]), ASt.app]⟩
  · rename_i pc px py
    subst heq
    simp only [Option.map_eq_some_iff] at e
    obtain ⟨c', e, he⟩ := e; cases he
    exact ⟨none, rfl, (fun d h => by cases h), fun t ho _ => by unfold ado; simp only [ho pc (by simp [Op.operands, Call.operands]), ho px (by simp [Op.operands, Call.operands]), ho py (by simp [Op.operands, Call.operands]), e, Option.map_some, ASt.app]⟩
  · rename_i ty x
    subst heq
    simp only [Option.map_eq_some_iff] at e
    obtain ⟨c', e, he⟩ := e; cases he
    refine ⟨none, rfl, (fun d h => by cases h), fun t ho hf => ?_⟩
    unfold ado
    simp only [ho x (by simp [Op.operands, Call.operands])]
    have : aloadD T dr md t ty (aev s x) = aloadD T dr md s ty (aev s x) := by
      unfold aloadD aload; rw [at_loc (fun id hid => (hf id hid).1)]
    rw [this, e]; rfl
  · rename_i bo ty x y _
    subst heq
    simp only [Option.map_eq_some_iff] at e
    obtain ⟨c', e, he⟩ := e; cases he
    exact ⟨none, rfl, (fun d h => by cases h), fun t ho _ => by unfold ado; simp only [ho x (by simp [Op.operands, Call.operands]), ho y (by simp [Op.operands, Call.operands]), e, Option.map_some, ASt.app]⟩
  · rename_i uo _ x
    subst heq
    simp only [Option.map_eq_some_iff] at e
    obtain ⟨c', e, he⟩ := e; cases he
    exact ⟨none, rfl, (fun d h => by cases h), fun t ho _ => by unfold ado; simp only [ho x (by simp [Op.operands, Call.operands]), e, Option.map_some, ASt.app]⟩
  · rename_i t1 t2 x
    subst heq
    simp only [Option.map_eq_some_iff] at e
    obtain ⟨c', e, he⟩ := e; cases he
    exact ⟨none, rfl, (fun d h => by cases h), fun t ho _ => by unfold ado; simp only [ho x (by simp [Op.operands, Call.operands]), e, Option.map_some, ASt.app]⟩
  · rename_i ty x f
    subst heq
    simp only [Option.map_eq_some_iff] at e
    obtain ⟨c', e, he⟩ := e; cases he
    exact ⟨none, rfl, (fun d h => by cases h), fun t ho _ => by unfold ado; simp only [ho x (by simp [Op.operands, Call.operands]), e, Option.map_some, ASt.app]⟩
  · rename_i ty x f
    subst heq
    simp only [Option.map_eq_some_iff] at e
    obtain ⟨c', e, he⟩ := e; cases he
    exact ⟨none, rfl, (fun d h => by cases h), fun t ho _ => by unfold ado; simp only [ho x (by simp [Op.operands, Call.operands]), e, Option.map_some, ASt.app]⟩
  · rename_i ty x i
    subst heq
    simp only [Option.map_eq_some_iff] at e
    obtain ⟨c', e, he⟩ := e; cases he
    exact ⟨none, rfl, (fun d h => by cases h), fun t ho _ => by unfold ado; simp only [ho x (by simp [Op.operands, Call.operands]), ho i (by simp [Op.operands, Call.operands]), e, Option.map_some, ASt.app]⟩
  · rename_i ty x i
    subst heq
    simp only [Option.map_eq_some_iff] at e
    obtain ⟨c', e, he⟩ := e; cases he
    exact ⟨none, rfl, (fun d h => by cases h), fun t ho _ => by unfold ado; simp only [ho x (by simp [Op.operands, Call.operands]), ho i (by simp [Op.operands, Call.operands]), e, Option.map_some, ASt.app]⟩
  · rename_i x i
    subst heq
    simp only [Option.map_eq_some_iff] at e
    obtain ⟨c', e, he⟩ := e; cases he
    exact ⟨none, rfl, (fun d h => by cases h), fun t ho _ => by unfold ado; simp only [ho x (by simp [Op.operands, Call.operands]), e, Option.map_some, ASt.app]⟩
  · rename_i x
    subst heq
    simp only [Option.map_eq_some_iff] at e
    obtain ⟨c', e, he⟩ := e; cases he
    exact ⟨none, rfl, (fun d h => by cases h), fun t ho _ => by unfold ado; simp only [ho x (by simp [Op.operands, Call.operands]), e, Option.map_some, ASt.app]⟩
  · rename_i ty x lo hi
    subst heq
    simp only [Option.map_eq_some_iff] at e
    obtain ⟨c', e, he⟩ := e; cases he
    refine ⟨none, rfl, (fun d h => by cases h), fun t ho _ => ?_⟩
    have h1 : lo.map (aev t) = lo.map (aev s) := by cases lo <;> simp; exact ho _ (by simp [Op.operands, Call.operands])
    have h2 : hi.map (aev t) = hi.map (aev s) := by cases hi <;> simp; exact ho _ (by simp [Op.operands, Call.operands])
    unfold ado; simp only [ho x (by simp [Op.operands, Call.operands]), h1, h2, e, Option.map_some, ASt.app]
  · rename_i ty ps
    subst heq
    simp only [Option.map_eq_some_iff] at e
    obtain ⟨c', e, he⟩ := e; cases he
    refine ⟨none, rfl, (fun d h => by cases h), fun t ho _ => ?_⟩
    have h1 : aps t ps = aps s ps := aps_loc (fun x hx => ho x (by simpa [Op.operands] using hx))
    unfold ado; simp only [h1, e, Option.map_some, ASt.app]
  · rename_i ty n ps
    subst heq
    split at e
    rotate_left
    · cases e
    rename_i d hd
    dsimp only at hd; subst hd
    split at e
    · cases e
    rename_i hu
    have hu' : ((dr || md.contains (2000 + d)) && s.used d) = false := by simpa using hu
    split at e
    · rename_i hmd
      have hid : s.used d = false := by
        cases hs : s.used d with
        | false => rfl
        | true => exact absurd (by rw [hmd, hs]; simp) hu
      unfold abuildOwn at e
      split at e
      · rename_i szt by' el z hty
        split at e
        · rename_i sz es hb
          cases e
          refine ⟨some ⟨d, some ⟨false, el, sz, es⟩, true⟩, rfl, (fun q h => by cases h; exact ⟨by simp [foot], rfl, hid⟩), fun t ho hf => ?_⟩
          have h1 : aps t ps = aps s ps := aps_loc (fun x hx => ho x (by simpa [Op.operands] using hx))
          unfold ado
          dsimp only
          rw [(hf d (by simp [foot])).2, if_neg (by rw [hu']; simp), if_pos hmd, h1]
          unfold abuildOwn
          rw [hty]
          dsimp only
          rw [hb]
          rfl
        · cases e
      · cases e
    rename_i hmd
    simp only [Option.map_eq_some_iff] at e
    obtain ⟨c', e, he⟩ := e; cases he
    refine ⟨none, rfl, (fun d h => by cases h), fun t ho hf => ?_⟩
    have h1 : aps t ps = aps s ps := aps_loc (fun x hx => ho x (by simpa [Op.operands] using hx))
    unfold ado
    dsimp only
    rw [(hf d (by simp [foot])).2, if_neg (by rw [hu']; simp), if_neg hmd, h1, e]
    rfl
  · rename_i ty x
    subst heq
    split at e
    · rename_i d hd
      dsimp only at hd; subst hd
      have e0 := e
      unfold abox at e
      split at e
      · rename_i i cs hi hcs
        split at e
        · rename_i hc
          cases e
          refine ⟨some ⟨d, some ⟨true, ty, i.size, [cs]⟩, true⟩, rfl, (fun q h => by cases h; exact ⟨by simp [foot], rfl, hc.2⟩), fun t ho hf => ?_⟩
          unfold ado
          simp only [ho x (by simp [Op.operands, Call.operands])]
          unfold abox
          simp only [hi, hcs, (hf d (by simp [foot])).2, hc.1, hc.2, and_self, if_true]
          rfl
        · cases e
      · cases e
    · cases e
  · rename_i ty
    subst heq
    split at e
    · rename_i d hd
      dsimp only at hd; subst hd
      unfold aalloc at e
      split at e
      · rename_i i hi
        split at e
        · rename_i hc
          cases e
          refine ⟨some ⟨d, some ⟨true, ty, i.size, [i.z.map ZK.av]⟩, true⟩, rfl, (fun q h => by cases h; exact ⟨by simp [foot], rfl, hc.2.2⟩), fun t ho hf => ?_⟩
          unfold ado
          unfold aalloc
          simp only [hi, (hf d (by simp [foot])).2, hc.2.2]
          rw [if_pos ⟨hc.1, hc.2.1, trivial⟩]
          rfl
        · cases e
      · cases e
    · cases e
  · rename_i ty p x
    subst heq
    simp only [Option.map_eq_some_iff] at e
    obtain ⟨s1, e, he⟩ := e; cases he
    have e0 := e
    replace e := astoreD_some e
    have hcd : ¬ ((dr && md.contains 5000 && !(idOf (aev s p)).all (fun id => md.contains (6000 + id))) = true) := fun hc => by unfold astoreD at e0; rw [if_pos hc] at e0; cases e0
    clear e0
    unfold astore at e
    split at e
    · rename_i ti bx sz n id i j xs hi hp hxs
      split at e
      · rename_i r hr
        split at e
        · rename_i hc
          split at e
          · rename_i el hel
            cases e
            refine ⟨some ⟨id, some { r with es := r.es.set i (over el j xs) }, false⟩, rfl, (fun q h => by cases h; exact ⟨by simp [foot, hp, idOf], r, hr⟩), fun t ho hf => ?_⟩
            unfold ado
            simp only [ho p (by simp [Op.operands, Call.operands]), ho x (by simp [Op.operands, Call.operands])]
            unfold astoreD
            rw [if_neg hcd]
            unfold astore
            have hrt : t.rows id = some r := by rw [(hf id (by simp [foot, hp, idOf])).1]; exact hr
            simp only [hi, hp, hxs, hrt, if_pos hc, hel]
            rfl
          · cases e
        · cases e
      · cases e
    · cases e
  · rename_i x ty
    subst heq
    simp only [Option.map_eq_some_iff] at e
    obtain ⟨c', e, he⟩ := e; cases he
    exact ⟨none, rfl, (fun d h => by cases h), fun t ho _ => by unfold ado; simp only [ho x (by simp [Op.operands, Call.operands]), e, Option.map_some, ASt.app]⟩
  · rename_i x y ty ty'
    subst heq
    split at e
    · rename_i htt; subst htt
      split at e
      · rename_i d hd
        dsimp only at hd; subst hd
        split at e
        · rename_i id r s1 hap
          have key : ∃ nw, s1 = s.app (some ⟨id, some r, nw⟩) ∧ id ∈ idOf (aev s x) ++ idOf (aev s y) ++ [d] ∧ ((d = id ∧ s.used id = false) ∨ ((∃ r, s.rows id = some r ∧ r.bx = false) ∧ r.bx = false)) ∧ ∀ t : ASt, aev t x = aev s x → aev t y = aev s y → (∀ id ∈ idOf (aev s x) ++ idOf (aev s y) ++ [d], t.rows id = s.rows id ∧ t.used id = s.used id) →
              aappend T ty d t (aev s x) (aev s y) = some (id, r, t.app (some ⟨id, some r, nw⟩)) := by
            unfold aappend at hap
            split at hap
            · rename_i _ _ el _ hi
              split at hap
              · rename_i i hi2
                split at hap
                · rename_i ys hys
                  split at hap
                  · rename_i idb nb hx
                    split at hap
                    · rename_i r0 hr0
                      split at hap
                      · rename_i hc
                        cases hap
                        have hin : id ∈ idOf (aev s x) ++ idOf (aev s y) ++ [d] := by rw [hx]; simp [idOf]
                        refine ⟨false, rfl, hin, .inr ⟨⟨r0, hr0, hc.2.1⟩, rfl⟩, fun t h1 h2 hf => ?_⟩
                        have hrt : t.rows id = some r0 := by rw [(hf id hin).1]; exact hr0
                        have hyt : asrc t i (aev s y) = some ys := by rw [asrc_loc (fun id hid => (hf id (by simp [hid])).1)]; exact hys
                        unfold aappend
                        simp only [hi, hi2, hyt, hx, hrt]
                        rw [if_pos hc]
                        rfl
                      · cases hap
                    · cases hap
                  · rename_i szb esb hx
                    split at hap
                    · rename_i hc
                      cases hap
                      refine ⟨true, rfl, by simp, .inl ⟨rfl, hc.2.2.2.2⟩, fun t h1 h2 hf => ?_⟩
                      have hyt : asrc t i (aev s y) = some ys := by rw [asrc_loc (fun id hid => (hf id (by simp [hid])).1)]; exact hys
                      have hu := (hf d (by simp)).2
                      unfold aappend
                      simp only [hi, hi2, hyt, hx, hu]
                      rw [if_pos hc]
                      rfl
                    · cases hap
                  · cases hap
                · cases hap
              · cases hap
            · cases hap
          obtain ⟨nw, hs1, hmem, hkd, hloc⟩ := key
          split at e
          · rename_i hmd
            cases e
            refine ⟨some ⟨id, none, nw⟩, ?_, (fun q h => by cases h; exact ⟨by simpa [foot] using hmem, hkd.imp (fun ⟨h1, h2⟩ => ⟨by rw [h1], h2⟩) (fun ⟨h1, _⟩ => ⟨h1, fun r hr => by cases hr⟩)⟩), fun t ho hf => ?_⟩
            · rw [hs1]
              simp only [ASt.kill, ASt.app, upd_upd]
            · unfold ado
              have h1 := ho x (by simp [Op.operands, Call.operands])
              have h2 := ho y (by simp [Op.operands, Call.operands])
              simp only [h1, h2, if_true, hloc t h1 h2 (fun k hk => hf k (by simpa [foot] using hk))]
              rw [if_pos hmd]
              simp only [ASt.kill, ASt.app, upd_upd]
          · rename_i hmd
            cases e
            refine ⟨some ⟨id, some r, nw⟩, hs1, (fun q h => by cases h; exact ⟨by simpa [foot] using hmem, hkd.imp (fun ⟨h1, h2⟩ => ⟨by rw [h1], h2⟩) (fun ⟨h1, h2⟩ => ⟨h1, fun r hr => by cases hr; exact h2⟩)⟩), fun t ho hf => ?_⟩
            unfold ado
            have h1 := ho x (by simp [Op.operands, Call.operands])
            have h2 := ho y (by simp [Op.operands, Call.operands])
            simp only [h1, h2, if_true, hloc t h1 h2 (fun k hk => hf k (by simpa [foot] using hk))]
            rw [if_neg hmd]
        · cases e
      · cases e
    · cases e
  · rename_i x y _
    subst heq
    simp only [Option.map_eq_some_iff] at e
    obtain ⟨c', e, he⟩ := e; cases he
    exact ⟨none, rfl, (fun d h => by cases h), fun t ho _ => by unfold ado; simp only [ho x (by simp [Op.operands, Call.operands]), ho y (by simp [Op.operands, Call.operands]), e, Option.map_some, ASt.app]⟩
  · rename_i x y _
    subst heq
    simp only [Option.map_eq_some_iff] at e
    obtain ⟨c', e, he⟩ := e; cases he
    exact ⟨none, rfl, (fun d h => by cases h), fun t ho _ => by unfold ado; simp only [ho x (by simp [Op.operands, Call.operands]), ho y (by simp [Op.operands, Call.operands]), e, Option.map_some, ASt.app]⟩
  · rename_i f cs
    subst heq
    cases e
    refine ⟨none, rfl, (fun d h => by cases h), fun t ho _ => ?_⟩
    have q : cs.toList.map (aev t) = cs.toList.map (aev s) := List.map_congr_left (fun x hx => ho x (by
      simp only [Op.operands, Array.mem_append]
      exact .inr (by simpa using hx)))
    unfold ado
    simp only [q, ASt.app]
  · cases e
end Go.Proofs.Ytgfnmhfdmmnaoaa.Eng
namespace Go.Proofs.Ytgfnmhfdmmnaoaa.Eng
open Go Go.RowKit
mutual
def AV.In (U : Nat → Bool) : AV → Prop
  | .own id _ => U id = true
  | .ptr _ _ _ id _ _ => U id = true
  | .agg cs => AV.InL U cs
  | .tup cs => AV.InL U cs
  | .fn _ cs => AV.InL U cs
  | .view _ _ es => AV.InE U es
  | .eptr _ cs => AV.InL U cs
  | _ => True
def AV.InL (U : Nat → Bool) : List AV → Prop
  | [] => True
  | c :: cs => AV.In U c ∧ AV.InL U cs
def AV.InE (U : Nat → Bool) : List (List AV) → Prop
  | [] => True
  | e :: es => AV.InL U e ∧ AV.InE U es
end
theorem inL_iff {U : Nat → Bool} : ∀ {cs : List AV}, AV.InL U cs ↔ ∀ c ∈ cs, AV.In U c
  | [] => by unfold AV.InL; simp
  | c :: cs => by unfold AV.InL; rw [inL_iff]; simp
theorem inE_iff {U : Nat → Bool} : ∀ {es : List (List AV)}, AV.InE U es ↔ ∀ e ∈ es, AV.InL U e
  | [] => by unfold AV.InE; simp
  | e :: es => by unfold AV.InE; rw [inE_iff]; simp
theorem in_agg {U : Nat → Bool} {cs : List AV} : AV.In U (.agg cs) ↔ ∀ c ∈ cs, AV.In U c := by
  conv => lhs; unfold AV.In
  exact inL_iff
theorem in_tup {U : Nat → Bool} {cs : List AV} : AV.In U (.tup cs) ↔ ∀ c ∈ cs, AV.In U c := by
  conv => lhs; unfold AV.In
  exact inL_iff
theorem in_fn {U : Nat → Bool} {f : FuncId} {cs : List AV} : AV.In U (.fn f cs) ↔ ∀ c ∈ cs, AV.In U c := by
  conv => lhs; unfold AV.In
  exact inL_iff
theorem in_eptr {U : Nat → Bool} {t : VC} {cs : List AV} : AV.In U (.eptr t cs) ↔ ∀ c ∈ cs, AV.In U c := by
  conv => lhs; unfold AV.In
  exact inL_iff
theorem in_view {U : Nat → Bool} {t : VC} {sz : Nat} {es : List (List AV)} : AV.In U (.view t sz es) ↔ ∀ e ∈ es, ∀ c ∈ e, AV.In U c := by
  conv => lhs; unfold AV.In
  rw [inE_iff]
  exact ⟨fun h e he => inL_iff.1 (h e he), fun h e he => inL_iff.2 (h e he)⟩
theorem in_own {U : Nat → Bool} {id n : Nat} : AV.In U (.own id n) ↔ U id = true := by unfold AV.In; exact Iff.rfl
theorem in_ptr {U : Nat → Bool} {bx : Bool} {sz n id i j : Nat} : AV.In U (.ptr bx sz n id i j) ↔ U id = true := by unfold AV.In; exact Iff.rfl
theorem in_any {U : Nat → Bool} : AV.In U .any := by unfold AV.In; trivial
theorem in_int {U : Nat → Bool} {k : IntKind} {n : Int} : AV.In U (.int k n) := by unfold AV.In; trivial
theorem in_bool {U : Nat → Bool} {b : Bool} : AV.In U (.bool b) := by unfold AV.In; trivial
theorem in_str {U : Nat → Bool} {b : ByteArray} : AV.In U (.str b) := by unfold AV.In; trivial
theorem in_rdr {U : Nat → Bool} : AV.In U .rdr := by unfold AV.In; trivial
mutual
theorem AV.In.mono {U V : Nat → Bool} (h : ∀ id, U id = true → V id = true) : ∀ {c : AV}, AV.In U c → AV.In V c
  | .any, _ => in_any
  | .int _ _, _ => in_int
  | .bool _, _ => in_bool
  | .str _, _ => in_str
  | .rdr, _ => in_rdr
  | .own id n, hc => in_own.2 (h id (in_own.1 hc))
  | .ptr _ _ _ id _ _, hc => in_ptr.2 (h id (in_ptr.1 hc))
  | .agg cs, hc => by unfold AV.In at *; exact AV.InL.mono h hc
  | .tup cs, hc => by unfold AV.In at *; exact AV.InL.mono h hc
  | .fn _ cs, hc => by unfold AV.In at *; exact AV.InL.mono h hc
  | .eptr _ cs, hc => by unfold AV.In at *; exact AV.InL.mono h hc
  | .view _ _ es, hc => by unfold AV.In at *; exact AV.InE.mono h hc
theorem AV.InL.mono {U V : Nat → Bool} (h : ∀ id, U id = true → V id = true) : ∀ {cs : List AV}, AV.InL U cs → AV.InL V cs
  | [], _ => by unfold AV.InL; trivial
  | c :: cs, hc => by unfold AV.InL at *; exact ⟨AV.In.mono h hc.1, AV.InL.mono h hc.2⟩
theorem AV.InE.mono {U V : Nat → Bool} (h : ∀ id, U id = true → V id = true) : ∀ {es : List (List AV)}, AV.InE U es → AV.InE V es
  | [], _ => by unfold AV.InE; trivial
  | e :: es, hc => by unfold AV.InE at *; exact ⟨AV.InL.mono h hc.1, AV.InE.mono h hc.2⟩
end
section
variable {w : World} {ρ : Cx} {U : Nat → Bool}
mutual
theorem Rep.in (hU : ∀ id, ρ.U id → U id = true) : ∀ {c : AV} {v : Value}, Rep w ρ c v → AV.In U c
  | .any, _, _ => in_any
  | .int _ _, _, _ => in_int
  | .bool _, _, _ => in_bool
  | .str _, _, _ => in_str
  | .rdr, _, _ => in_rdr
  | .own id n, _, h => in_own.2 (hU id (rep_own.1 h).1)
  | .ptr _ _ _ id _ _, _, h => in_ptr.2 (hU id (rep_ptr.1 h).1)
  | .agg cs, _, h => by unfold AV.In; obtain ⟨vs, _, _, h3⟩ := rep_agg.1 h; exact RepL.in hU h3
  | .tup cs, _, h => by unfold AV.In; obtain ⟨vs, _, h3⟩ := rep_tup.1 h; exact RepL.in hU h3
  | .fn _ cs, _, h => by unfold AV.In; obtain ⟨vs, _, h3⟩ := rep_fn.1 h; exact RepL.in hU h3
  | .eptr _ cs, _, h => by unfold AV.In; obtain ⟨b, o, _, _, h3⟩ := rep_eptr.1 h; exact RepC.in hU h3
  | .view _ _ [], _, _ => by unfold AV.In AV.InE; trivial
  | .view _ _ (e :: es), _, h => by
    unfold AV.In
    obtain ⟨a, c, _, _, _, _, _, h6⟩ := rep_view.1 h
    rcases h6 with h6 | ⟨b, o, _, _, h6⟩
    · cases h6
    · exact RepE.in hU h6
theorem RepL.in (hU : ∀ id, ρ.U id → U id = true) : ∀ {cs : List AV} {vs : List Value}, RepL w ρ cs vs → AV.InL U cs
  | [], _, _ => by unfold AV.InL; trivial
  | c :: cs, _, h => by
    unfold RepL at h
    obtain ⟨v, vs', _, h2, h3⟩ := h
    unfold AV.InL
    exact ⟨Rep.in hU h2, RepL.in hU h3⟩
theorem RepC.in (hU : ∀ id, ρ.U id → U id = true) {b : Nat} : ∀ {cs : List AV} {o : Nat}, RepC w ρ b o cs → AV.InL U cs
  | [], _, _ => by unfold AV.InL; trivial
  | c :: cs, _, h => by
    unfold RepC at h
    obtain ⟨⟨v, _, _, h2⟩, h3⟩ := h
    unfold AV.InL
    exact ⟨Rep.in hU h2, RepC.in hU h3⟩
theorem RepE.in (hU : ∀ id, ρ.U id → U id = true) {b : Nat} : ∀ {es : List (List AV)} {o : Nat}, RepE w ρ b o es → AV.InE U es
  | [], _, _ => by unfold AV.InE; trivial
  | e :: es, _, h => by
    unfold RepE at h
    unfold AV.InE
    exact ⟨RepC.in hU h.1, RepE.in hU h.2⟩
end
end
structure Inv (s : ASt) : Prop where
  tm : ∀ c ∈ s.tmps, AV.In s.used c
  rw : ∀ id r, s.rows id = some r → s.used id = true ∧ ∀ e ∈ r.es, ∀ c ∈ e, AV.In s.used c
theorem SR.inv {P : Program} {w0 : W0} {S0 : Nat → Prop} {rd0 : Option Nat} {k0 : Nat} {w : World} {a : Act} {s : ASt} {ρ : Cx} (h : SR P w0 S0 rd0 k0 w a s ρ) : Inv s := by
  have hU : ∀ id, ρ.U id → s.used id = true := fun id hid => (h.us id).1 hid
  refine ⟨fun c hc => inL_iff.1 (h.tm.in hU) c hc, fun id r hr => ?_⟩
  obtain ⟨h1, u, _, _, _, _, _, xs, _, h3, _⟩ := h.rw id r hr
  refine ⟨h1, fun e he c hc => inL_iff.1 (h3.in hU) c (List.mem_flatten.2 ⟨e, he, hc⟩)⟩
theorem ofVal_in {U : Nat → Bool} (v : Value) : AV.In U (ofVal v) := by
  have h0 : ∀ v, AV.In U (ofVal0 v) := fun v => by
    unfold ofVal0
    split
    · exact in_int
    · exact in_bool
    · split
      · exact in_str
      · exact in_any
    · exact in_view.2 (fun e he => by cases he)
    · exact in_any
  unfold ofVal
  split
  · split
    · refine in_agg.2 (fun c hc => ?_)
      rw [List.mem_map] at hc
      obtain ⟨v, _, rfl⟩ := hc
      exact h0 v
    · exact in_any
  · exact h0 _
theorem aev_in {s : ASt} (h : Inv s) (x : Operand) : AV.In s.used (aev s x) := by
  cases x with
  | tmp t =>
    unfold aev
    cases ht : s.tmps[t]? with
    | none => simp only [ht, Option.getD_none]; exact in_any
    | some c => simp only [ht, Option.getD_some]; exact h.tm c (List.mem_of_getElem? ht)
  | const v => exact ofVal_in v
  | global g => exact in_any
  | func f => exact in_fn.2 (fun c hc => by cases hc)
def NoId (r : AV) : Prop := AV.In (fun _ => false) r
end Go.Proofs.Ytgfnmhfdmmnaoaa.Eng
namespace Go.Proofs.Ytgfnmhfdmmnaoaa.Eng
open Go Go.RowKit
def pureC (L S : Nat → Prop) (rb : Option Nat) : Cx := ⟨S, L, fun _ => False, fun _ => none, fun _ => 0, rb⟩
def oneC (S : Nat → Prop) (id : Nat) (u : Value) (n : Nat) : Cx := ⟨S, nil, fun k => k = id, fun k => if k = id then some u else none, fun k => if k = id then n else 0, none⟩
def Clo (c : AV) : Prop := ∀ w ρ v, Rep w ρ c v → Rep w (pureC ρ.L ρ.S ρ.rd) c v
def Enters (P : Program) (f : FuncId) : Prop := ∀ «as» w, (callFunc f «as»).run P w = .ok (.enter f «as») w
def AC (P : Program) (f : FuncId) (args : List AV) (c : Nat) (Post : AV → Prop) : Prop :=
  Enters P f ∧ ∀ (w : World) (L S : Nat → Prop) (rb : Option Nat) (k : Nat) (vs : List Value), (∀ b, L b → b < w.heap.size ∧ rb ≠ some b) → (∀ b, S b → b < w.heap.size) → (∀ b, rb = some b → ¬ S b ∧ RdOk w S b (k + c)) → RepL w (pureC L S rb) args vs →
    Calls P f vs.toArray w fun e w' => ∃ v r S', e = .returned v ∧ Ext (fun b => rb = some b) w w' ∧ (∀ b, S b → S' b) ∧ (∀ b, S' b → S b ∨ (w.heap.size ≤ b ∧ b < w'.heap.size)) ∧
      (∀ b, rb = some b → RdOk w' S' b k) ∧ Rep w' (pureC nil S' none) r v ∧ Post r
theorem AC.mono {P : Program} {f : FuncId} {args : List AV} {c : Nat} {Q R : AV → Prop} (h : AC P f args c Q) (hq : ∀ r, Q r → R r) : AC P f args c R :=
  ⟨h.1, fun w L S rb k vs h0 h1 h2 h3 => (h.2 w L S rb k vs h0 h1 h2 h3).mono fun e w' ⟨v, r, S', k1, k2, k3, k4, k5, k6, k7⟩ => ⟨v, r, S', k1, k2, k3, k4, k5, k6, hq r k7⟩⟩
def ACV (P : Program) (A : Nat → Prop) (f : FuncId) (args : List AV) (c : Nat) (Post : AV → Prop) : Prop :=
  Enters P f ∧ ∀ (w : World) (L S : Nat → Prop) (rb : Option Nat) (k : Nat) (vs : List Value), (∀ b, A b → b < w.heap.size) → (∀ b, L b → b < w.heap.size ∧ rb ≠ some b) → (∀ b, S b → b < w.heap.size) → (∀ b, rb = some b → ¬ S b ∧ RdOk w S b (k + c)) → RepL w (pureC L S rb) args vs →
    Calls P f vs.toArray w fun e w' => ∃ v r S', e = .returned v ∧ Ext (fun b => rb = some b) w w' ∧ (∀ b, S b → S' b) ∧ (∀ b, S' b → S b ∨ (w.heap.size ≤ b ∧ b < w'.heap.size)) ∧
      (∀ b, rb = some b → RdOk w' S' b k) ∧ Rep w' (pureC nil S' none) r v ∧ Post r
theorem AC.toV {P : Program} {A : Nat → Prop} {f : FuncId} {args : List AV} {c : Nat} {Q : AV → Prop} (h : AC P f args c Q) : ACV P A f args c Q := ⟨h.1, fun w L S rb k vs _ => h.2 w L S rb k vs⟩
def AC0 (P : Program) (f : FuncId) (args : List AV) (Post : AV → Prop) : Prop :=
  Enters P f ∧ ∀ (w : World) (L S : Nat → Prop) (vs : List Value), (∀ b, L b → b < w.heap.size) → (∀ b, S b → b < w.heap.size) → RepL w (pureC L S none) args vs →
    Calls P f vs.toArray w fun e w' => ∃ v r S', e = .returned v ∧ Grow w w' ∧ (∀ b, S b → S' b) ∧ (∀ b, S' b → S b ∨ (w.heap.size ≤ b ∧ b < w'.heap.size)) ∧ Rep w' (pureC nil S' none) r v ∧ Post r
theorem Grow.ofNone {w w' : World} (h : Ext (fun b => (none : Option Nat) = some b) w w') : Grow w w' := h.mono (fun b hb => by cases hb)
theorem AC.zero {P : Program} {f : FuncId} {args : List AV} {c : Nat} {Q : AV → Prop} (h : AC P f args c Q) : AC0 P f args Q :=
  ⟨h.1, fun w L S vs h0 h1 h3 => (h.2 w L S none 0 vs (fun b hb => ⟨h0 b hb, fun h => by cases h⟩) h1 (fun b hb => by cases hb) h3).mono fun e w' ⟨v, r, S', k1, k2, k3, k4, _, k6, k7⟩ => ⟨v, r, S', k1, Grow.ofNone k2, k3, k4, k6, k7⟩⟩
theorem AC0.mono {P : Program} {f : FuncId} {args : List AV} {Q R : AV → Prop} (h : AC0 P f args Q) (hq : ∀ r, Q r → R r) : AC0 P f args R :=
  ⟨h.1, fun w L S vs h0 h1 h3 => (h.2 w L S vs h0 h1 h3).mono fun e w' ⟨v, r, S', k1, k2, k3, k4, k6, k7⟩ => ⟨v, r, S', k1, k2, k3, k4, k6, hq r k7⟩⟩
def ACN (P : Program) (f : FuncId) (args : List AV) (n : Nat) : Prop :=
  Enters P f ∧ ∀ (w : World) (L S : Nat → Prop) (vs : List Value), (∀ b, L b → b < w.heap.size) → (∀ b, S b → b < w.heap.size) → RepL w (pureC L S none) args vs →
    Calls P f vs.toArray w fun e w' => ∃ rb, e = .returned (.pointer (some ⟨rb, 0, none⟩)) ∧ Grow w w' ∧ w.heap.size ≤ rb ∧ RdOk w' S rb n
def ACR (P : Program) (f : FuncId) (args : List AV) (c : Nat) (Post0 : AV → Prop) (Post : (Nat → AV) → Row → Prop) : Prop :=
  Enters P f ∧ ∀ (w : World) (L S : Nat → Prop) (rb : Option Nat) (k : Nat) (vs : List Value), (∀ b, L b → b < w.heap.size ∧ rb ≠ some b) → (∀ b, S b → b < w.heap.size) → (∀ b, rb = some b → ¬ S b ∧ RdOk w S b (k + c)) → RepL w (pureC L S rb) args vs →
    Calls P f vs.toArray w fun e w' => ∃ v S', e = .returned v ∧ Ext (fun b => rb = some b) w w' ∧ (∀ b, S b → S' b) ∧ (∀ b, S' b → S b ∨ (w.heap.size ≤ b ∧ b < w'.heap.size)) ∧
      (∀ b, rb = some b → RdOk w' S' b k) ∧ ((∃ r, Rep w' (pureC nil S' none) r v ∧ Post0 r) ∨
        ∃ r R u, (∀ id, Rep w' (oneC S' id u R.es.length) (r id) v) ∧ RowOk P w' (pureC nil S' none) (fun g => w.heap.size ≤ g) R u ∧ (∀ g, blk u = some g → ¬ S' g) ∧ Post r R)
theorem ACR.mono {P : Program} {f : FuncId} {args : List AV} {c : Nat} {Q0 R0 : AV → Prop} {Q R : (Nat → AV) → Row → Prop} (h : ACR P f args c Q0 Q) (h0 : ∀ r, Q0 r → R0 r) (hq : ∀ r o, Q r o → R r o) : ACR P f args c R0 R :=
  ⟨h.1, fun w L S rb k vs g0 h1 h2 h3 => (h.2 w L S rb k vs g0 h1 h2 h3).mono fun e w' ⟨v, S', k1, k2, k3, k4, k5, k6⟩ => ⟨v, S', k1, k2, k3, k4, k5, by
    rcases k6 with ⟨r, q1, q2⟩ | ⟨r, o, u, q1, q2, q3, q4⟩
    · exact .inl ⟨r, q1, h0 r q2⟩
    · exact .inr ⟨r, o, u, q1, q2, q3, hq r o q4⟩⟩⟩
def rowsOf : List (Nat × Row) → Nat → Option Row
  | [], _ => none
  | (k, r) :: l, id => if id = k then some r else rowsOf l id
theorem rowsOf_nil (id : Nat) : rowsOf [] id = none := rfl
theorem rowsOf_cons (k : Nat) (r : Row) (l : List (Nat × Row)) (id : Nat) : rowsOf ((k, r) :: l) id = if id = k then some r else rowsOf l id := rfl
theorem rowsOf_some : ∀ {l : List (Nat × Row)} {id : Nat} {r : Row}, rowsOf l id = some r → (id, r) ∈ l
  | [], _, _, h => by cases h
  | (k, r') :: l, id, r, h => by
    unfold rowsOf at h
    split at h
    · rename_i e; subst e; cases h; simp
    · simp [rowsOf_some h]
theorem rowsOf_mem {l : List (Nat × Row)} {id : Nat} (h : id ∈ l.map (·.1)) : ∃ r, rowsOf l id = some r := by
  induction l with
  | nil => cases h
  | cons p l ih =>
    obtain ⟨k, r⟩ := p
    rw [rowsOf_cons]
    by_cases e : id = k
    · rw [if_pos e]; exact ⟨r, rfl⟩
    · rw [if_neg e]
      rcases List.mem_cons.1 h with h | h
      · exact absurd h e
      · exact ih h
theorem rowsOf_key {l : List (Nat × Row)} {id : Nat} {r : Row} (h : rowsOf l id = some r) : id ∈ l.map (·.1) := List.mem_map.2 ⟨_, rowsOf_some h, rfl⟩
def blks (ρ : Cx) (b : Nat) : Prop := ∃ id u, ρ.row id = some u ∧ blk u = some b
structure Rows (P : Program) (w : World) (own : Nat → Prop) (rows : Nat → Option Row) (ρ : Cx) : Prop where
  us : ∀ id r, rows id = some r → ρ.U id
  rw : ∀ id r, rows id = some r → ∃ u, ρ.row id = some u ∧ ρ.len id = r.es.length ∧ RowOk P w ρ own r u
  rn : ∀ id, rows id = none → ρ.row id = none
  dj : ∀ id id' u u' g, ρ.row id = some u → ρ.row id' = some u' → blk u = some g → blk u' = some g → id = id'
  ns : ∀ id u g, ρ.row id = some u → blk u = some g → ¬ ρ.S g
def ACG (P : Program) (f : FuncId) (args : List AV) (rows0 : List (Nat × Row)) (c : Nat) (Post : AV → List (Nat × Row) → Prop) : Prop :=
  Enters P f ∧ (∀ p ∈ rows0, 1000 ≤ p.1) ∧ ∀ (w : World) (ρ : Cx) (k : Nat) (vs : List Value), (∀ b, ρ.L b → b < w.heap.size ∧ ρ.rd ≠ some b ∧ ¬ blks ρ b) → (∀ b, ρ.S b → b < w.heap.size) → (∀ b, ρ.rd = some b → ¬ ρ.S b ∧ ¬ blks ρ b ∧ RdOk w ρ.S b (k + c)) →
      (∀ id, ρ.U id ↔ 1000 ≤ id) → Rows P w (fun _ => True) (rowsOf rows0) ρ → RepL w ρ args vs →
    Calls P f vs.toArray w fun e w' => ∃ v r l ρ', e = .returned v ∧ Ext (fun b => ρ.rd = some b ∨ blks ρ b) w w' ∧ (∀ b, ρ.S b → ρ'.S b) ∧ (∀ b, ρ'.S b → ρ.S b ∨ ((w.heap.size ≤ b ∨ blks ρ b) ∧ b < w'.heap.size)) ∧ (∀ b, ρ.rd = some b → RdOk w' ρ'.S b k) ∧
      ρ'.L = nil ∧ ρ'.rd = none ∧ Rows P w' (fun g => w.heap.size ≤ g ∨ blks ρ g) (rowsOf l) ρ' ∧ (∀ id r, rowsOf rows0 id = some r → r.bx = true → ∀ u, ρ'.row id = some u → ρ.row id = some u) ∧ Rep w' ρ' r v ∧ Post r l
def ACGW (P : Program) (f : FuncId) (args : List AV) (rows0 : List (Nat × Row)) (c : Nat) (Post : World → AV → List (Nat × Row) → Prop) : Prop :=
  Enters P f ∧ (∀ p ∈ rows0, 1000 ≤ p.1) ∧ ∀ (w : World) (ρ : Cx) (k : Nat) (vs : List Value), (∀ b, ρ.L b → b < w.heap.size ∧ ρ.rd ≠ some b ∧ ¬ blks ρ b) → (∀ b, ρ.S b → b < w.heap.size) → (∀ b, ρ.rd = some b → ¬ ρ.S b ∧ ¬ blks ρ b ∧ RdOk w ρ.S b (k + c)) →
      (∀ id, ρ.U id ↔ 1000 ≤ id) → Rows P w (fun _ => True) (rowsOf rows0) ρ → RepL w ρ args vs →
    Calls P f vs.toArray w fun e w' => ∃ v r l ρ', e = .returned v ∧ Ext (fun b => ρ.rd = some b ∨ blks ρ b) w w' ∧ (∀ b, ρ.S b → ρ'.S b) ∧ (∀ b, ρ'.S b → ρ.S b ∨ ((w.heap.size ≤ b ∨ blks ρ b) ∧ b < w'.heap.size)) ∧ (∀ b, ρ.rd = some b → RdOk w' ρ'.S b k) ∧
      ρ'.L = nil ∧ ρ'.rd = none ∧ Rows P w' (fun g => w.heap.size ≤ g ∨ blks ρ g) (rowsOf l) ρ' ∧ (∀ id r, rowsOf rows0 id = some r → r.bx = true → ∀ u, ρ'.row id = some u → ρ.row id = some u) ∧ Rep w' ρ' r v ∧ Post w r l
def ACGV (P : Program) (A : Nat → Prop) (f : FuncId) (args : List AV) (rows0 : List (Nat × Row)) (c : Nat) (Post : AV → List (Nat × Row) → Prop) : Prop :=
  Enters P f ∧ (∀ p ∈ rows0, 1000 ≤ p.1) ∧ ∀ (w : World) (ρ : Cx) (k : Nat) (vs : List Value), (∀ b, A b → b < w.heap.size) → (∀ b, ρ.L b → b < w.heap.size ∧ ρ.rd ≠ some b ∧ ¬ blks ρ b) → (∀ b, ρ.S b → b < w.heap.size) → (∀ b, ρ.rd = some b → ¬ ρ.S b ∧ ¬ blks ρ b ∧ RdOk w ρ.S b (k + c)) →
      (∀ id, ρ.U id ↔ 1000 ≤ id) → Rows P w (fun _ => True) (rowsOf rows0) ρ → RepL w ρ args vs →
    Calls P f vs.toArray w fun e w' => ∃ v r l ρ', e = .returned v ∧ Ext (fun b => ρ.rd = some b ∨ blks ρ b) w w' ∧ (∀ b, ρ.S b → ρ'.S b) ∧ (∀ b, ρ'.S b → ρ.S b ∨ ((w.heap.size ≤ b ∨ blks ρ b) ∧ b < w'.heap.size)) ∧ (∀ b, ρ.rd = some b → RdOk w' ρ'.S b k) ∧
      ρ'.L = nil ∧ ρ'.rd = none ∧ Rows P w' (fun g => w.heap.size ≤ g ∨ blks ρ g) (rowsOf l) ρ' ∧ (∀ id r, rowsOf rows0 id = some r → r.bx = true → ∀ u, ρ'.row id = some u → ρ.row id = some u) ∧ Rep w' ρ' r v ∧ Post r l
theorem ACG.toV {P : Program} {A : Nat → Prop} {f : FuncId} {args : List AV} {rows0 : List (Nat × Row)} {c : Nat} {Q : AV → List (Nat × Row) → Prop} (h : ACG P f args rows0 c Q) : ACGV P A f args rows0 c Q := ⟨h.1, h.2.1, fun w ρ k vs _ => h.2.2 w ρ k vs⟩
theorem ACG.mono {P : Program} {f : FuncId} {args : List AV} {rows0 : List (Nat × Row)} {c : Nat} {Q R : AV → List (Nat × Row) → Prop} (h : ACG P f args rows0 c Q) (hq : ∀ r l, Q r l → R r l) : ACG P f args rows0 c R :=
  ⟨h.1, h.2.1, fun w ρ k vs g0 g1 g2 g3 g4 g5 => (h.2.2 w ρ k vs g0 g1 g2 g3 g4 g5).mono fun e w' ⟨v, r, l, ρ', k1, k2, k3, k4, k5, k6, k7, k8, k9, k10, k11⟩ => ⟨v, r, l, ρ', k1, k2, k3, k4, k5, k6, k7, k8, k9, k10, hq r l k11⟩⟩
def Pur (c : AV) : Prop := ∀ w ρ v, Rep w ρ c v → Rep w (pureC nil ρ.S none) c v
def ASt.put (s : ASt) (d : Option Tmp) (v : AV) : ASt := match d with | some t => { s with tmps := s.tmps.set t v } | none => s
def ASt.pay (s : ASt) (c : Nat) : ASt := { s with rd := s.rd.map (· - c) }
def ASt.can (s : ASt) (c : Nat) : Prop := ∀ j, s.rd = some j → c ≤ j
section
variable {P : Program} {w0 : W0} {S0 : Nat → Prop} {rd0 : Option Nat} {k0 : Nat} {w : World} {a : Act} {s : ASt} {ρ : Cx} {T : Tab}
theorem SR.putS (h : SR P w0 S0 rd0 k0 w a s ρ) (d : Option Tmp) {c : AV} {v : Value} (hc : Rep w ρ c v) : SR P w0 S0 rd0 k0 w (a.put d v) (s.put d c) ρ := by
  have := h.put d hc
  cases d <;> exact this
theorem SR.new2 (h : SR P w0 S0 rd0 k0 w a s ρ) (id : Nat) (hid : s.used id = false) (r : Row) (u : Value) (hu : ∀ g, blk u = some g → ¬ ρ.S g ∧ ρ.rd ≠ some g ∧ ∀ id' u', ρ.row id' = some u' → blk u' ≠ some g) (hok : RowOk P w ρ w0.Own r u) :
    SR P w0 S0 rd0 k0 w a (s.add id r) (ρ.add id u r.es.length) ∧ Cx.Le w ρ w (ρ.add id u r.es.length) := by
  have n0 : ρ.row id = none := by
    cases hs : s.rows id with
    | none => exact h.rn id hs
    | some r => have := (h.rw id r hs).1; rw [hid] at this; cases this
  refine h.step nil (fun k => k = id) (Ext.refl nil w) (fun _ h => h.elim) (fun _ h => h) (fun _ h => .inl h) rfl rfl rfl rfl (fun k => ?_) (fun k hk => by
    simp only [ASt.add, upd]
    by_cases e : k = id
    · simp [e]
    · simp [e, hk]) (fun k hk => ?_) (fun k u' g hk h1 h2 => ⟨fun h => h, (h.ns k u' g h1 h2).1⟩) (fun k hk hu => ?_) (fun k r' hk h1 => ?_) (fun k hk h1 => ?_) (fun k u' g hk h1 h2 => ?_) (fun k hk => .inl (by rw [hk]; exact h.k_none hid))
  · simp only [Cx.add, ASt.add, upd, h.us]
    by_cases e : k = id
    · simp [e]
    · simp [e]
  · simp only [Cx.add, ASt.add]
    rw [upd_ne _ _ hk, upd_ne _ _ hk, upd_ne _ _ hk]; exact ⟨rfl, rfl, rfl⟩
  · subst hk; rw [hid] at hu; cases hu
  · subst hk
    simp only [ASt.add, upd_same, Option.some.injEq] at h1
    subst h1
    exact ⟨by simp [ASt.add, upd_same], u, by simp [Cx.add, upd_same], by simp [Cx.add, upd_same], fun le => by
      obtain ⟨g0, g1, g2, xs, g3, g4, g5⟩ := hok
      exact ⟨g0, g1, g2, xs, g3, g4.le le, g5⟩⟩
  · subst hk; simp [ASt.add, upd_same] at h1
  · subst hk
    simp only [Cx.add, upd_same, Option.some.injEq] at h1
    subst h1
    obtain ⟨q1, q2, q3⟩ := hu g h2
    refine ⟨q1, q2, fun k' u2 h3 h4 => ?_⟩
    by_cases k3 : k' = k
    · exact k3
    · simp only [Cx.add] at h3
      rw [upd_ne _ _ k3] at h3
      exact absurd h4 (q3 k' u2 h3)
theorem SR.called (h : SR P w0 S0 rd0 k0 w a s ρ) {w' : World} {S' : Nat → Prop} (c : Nat) (hx : Ext (fun b => ρ.rd = some b) w w') (h1 : ∀ b, ρ.S b → S' b)
    (h2 : ∀ b, S' b → ρ.S b ∨ (w.heap.size ≤ b ∧ b < w'.heap.size)) (hr : ∀ j rb, s.rd = some j → ρ.rd = some rb → RdOk w' S' rb (k0 + (j - c))) :
    SR P w0 S0 rd0 k0 w' a (s.pay c) { ρ with S := S' } ∧ ∀ r v, Rep w' (pureC nil S' none) r v → Rep w' { ρ with S := S' } r v := by
  have hrd : ∀ rb, ρ.rd = some rb → rd0 = some rb ∨ w0.wd.heap.size ≤ rb := fun rb hrb => by
    cases hs : s.rd with
    | none => rw [h.rdn hs] at hrb; cases hrb
    | some j =>
      obtain ⟨rb', k1, _, _, k4⟩ := h.rdk j hs
      rw [hrb] at k1; cases k1; exact k4
  have le : Cx.Le w ρ w' { ρ with S := S' } :=
    ⟨fun b hb => ⟨h1 b hb, fun o => ext_look hx (p := ⟨b, o, none⟩) (h.sl b hb).1 (fun e => (h.rl b e).2 hb)⟩,
     fun b hb => ⟨hb, fun o => ext_look hx (p := ⟨b, o, none⟩) (Nat.lt_of_lt_of_le (h.ll b hb).1 h.ext.size) (fun e => h.l_rd hb e)⟩, fun id hid => ⟨hid, Nat.le_refl _, fun _ h _ => h⟩, fun _ h => h⟩
  have hnS : ∀ b, b < w.heap.size → ¬ ρ.S b → ¬ S' b := fun b hb hn hs => by
    rcases h2 b hs with h | h
    · exact hn h
    · omega
  refine ⟨⟨h.tm.le le, h.df, ?_, fun b hb => h1 b (h.s0 b hb), fun b hb => ?_, h.us, fun id r hr' => ?_, h.rn, h.dj, fun id u g k1 k2 => ?_, fun rb hrb => ?_, fun j hj => ?_, fun hj => ?_, fun rb hrb => ⟨(h.r0 rb hrb).1, by have := (h.r0 rb hrb).2; simpa [ASt.pay] using this⟩, h.ll, h.kp, h.rv, fun b hb => Nat.lt_of_lt_of_le (h.av b hb) hx.size⟩, fun r v hrv => ?_⟩
  · refine ⟨hx.os.trans h.ext.os, hx.tape.trans h.ext.tape, hx.output.trans h.ext.output, Nat.le_trans h.ext.size hx.size, fun k hk hn => ?_⟩
    refine (hx.block k (Nat.lt_of_lt_of_le hk h.ext.size) (fun e => ?_)).trans (h.ext.block k hk hn)
    rcases hrd k e with h5 | h5
    · exact hn (.inl h5)
    · omega
  · rcases h2 b hb with hb | hb
    · have := h.sl b hb; exact ⟨Nat.lt_of_lt_of_le this.1 hx.size, this.2⟩
    · exact ⟨hb.2, .inr (.inl (Nat.le_trans h.ext.size hb.1))⟩
  · obtain ⟨q1, u, q2, q3, q4⟩ := h.rw id r hr'
    exact ⟨q1, u, q2, q3, q4.moved le hx (fun g hg e => (h.ns id u g q2 hg).2 e)⟩
  · exact ⟨hnS g (h.row_lt k1 k2).2 (h.ns id u g k1 k2).1, (h.ns id u g k1 k2).2⟩
  · exact ⟨Nat.lt_of_lt_of_le (h.rl rb hrb).1 hx.size, hnS rb (h.rl rb hrb).1 (h.rl rb hrb).2⟩
  · simp only [ASt.pay, Option.map_eq_some_iff] at hj
    obtain ⟨j0, hj0, rfl⟩ := hj
    obtain ⟨rb, q1, q2, q3, q4⟩ := h.rdk j0 hj0
    exact ⟨rb, q1, hr j0 rb hj0 q1, hnS rb (h.rl rb q1).1 q3, q4⟩
  · simp only [ASt.pay, Option.map_eq_none_iff] at hj
    exact h.rdn hj
  · exact Rep.le (ρ := pureC nil S' none) (ρ' := { ρ with S := S' }) ⟨fun b hb => ⟨hb, fun _ => rfl⟩, fun b hb => False.elim hb, fun id hid => False.elim hid, fun _ h => by cases h⟩ hrv
theorem rep_undef : Rep w ρ (.tup []) undef := rep_tup.2 ⟨[], rfl, by unfold RepL; rfl⟩
def acall : Op → Option (FuncId × List Operand)
  | .call { callee := .value (.func f), args, argTypes := _ } => some (f, args.toList)
  | _ => none
def awant (ops : Array Oper) (o : Oper) (s : ASt) : Option Bool :=
  match o.guard with
  | none => some true
  | some (j, want) =>
    match (ops[j]?).bind (·.dst) with
    | some d => (match s.tmps[d]? with | some (.bool b) => some (b == want) | some (.tup _) => some false | _ => none)
    | none => none
theorem awant_ok (h : SR P w0 S0 rd0 k0 w a s ρ) {ops : Array Oper} {o : Oper} {b : Bool} (e : awant ops o s = some b) : Region.wanted o (yielded ops a.tmps) = b := by
  unfold awant at e
  unfold Region.wanted
  split at e
  · rename_i hg; rw [hg]; cases e; rfl
  · rename_i j want hg
    rw [hg]
    dsimp only
    split at e
    · rename_i d hd
      split at e
      · rename_i b' hb
        cases e
        obtain ⟨v, hv, hr⟩ := h.tm.get hb
        rw [rep_bool] at hr; subst hr
        rw [Array.getElem?_toList] at hv
        unfold yielded
        rw [hd]
        simp only [Option.bind_some]
        rw [show (a.tmps[d]?) = some (Value.bool b') from hv]
        cases b' <;> cases want <;> rfl
      · rename_i cs hb
        cases e
        obtain ⟨v, hv, hr⟩ := h.tm.get hb
        obtain ⟨vs, rfl, _⟩ := rep_tup.1 hr
        rw [Array.getElem?_toList] at hv
        unfold yielded
        rw [hd]
        simp only [Option.bind_some]
        rw [show (a.tmps[d]?) = some (Value.tuple vs.toArray) from hv]
        rfl
      · cases e
    · cases e
theorem exec_call {o : Oper} {f : FuncId} {xs : List Operand} (he : Enters P f) (ha : acall o.op = some (f, xs)) : (execOp a.eval o).run P w = .ok (.enter f (xs.map a.eval).toArray) w := by
  unfold acall at ha
  split at ha
  · rename_i f' args tys ho
    cases ha
    unfold execOp
    simp only [ho, resolve, Act.eval, Deferred.ofValue, Sem.run_bind, Sem.run_pure, Result.andThen_ok, invoke]
    have q : (#[] ++ Array.map a.eval args ++ #[]) = (args.toList.map a.eval).toArray := by apply Array.ext'; simp
    rw [← q]
    exact he _ _
  · cases ha
def lentL (ρ : Cx) (b : Nat) : Prop := ρ.L b ∨ ∃ id u, ρ.row id = some u ∧ blk u = some b
def Lend (P : Program) (s : ASt) (c d : AV) : Prop := ∀ w0 S0 rd0 k0 w a ρ v, SR P w0 S0 rd0 k0 w a s ρ → Rep w ρ c v → Rep w (pureC (lentL ρ) ρ.S ρ.rd) d v
def LendL (P : Program) (s : ASt) : List AV → List AV → Prop
  | [], [] => True
  | c :: cs, d :: ds => Lend P s c d ∧ LendL P s cs ds
  | _, _ => False
theorem le_lent (w : World) (ρ : Cx) : Cx.Le w (pureC ρ.L ρ.S ρ.rd) w (pureC (lentL ρ) ρ.S ρ.rd) :=
  ⟨fun _ h => ⟨h, fun _ => rfl⟩, fun _ h => ⟨.inl h, fun _ => rfl⟩, fun _ h => False.elim h, fun _ h => h⟩
def CloTo (c d : AV) : Prop := ∀ w ρ v, Rep w ρ c v → Rep w (pureC ρ.L ρ.S ρ.rd) d v
theorem Lend.clo {c d : AV} (h : CloTo c d) : Lend P s c d := fun _ _ _ _ w _ ρ v _ hr => (h w ρ v hr).le (le_lent w ρ)
theorem LendL.rep (h : SR P w0 S0 rd0 k0 w a s ρ) : ∀ {cs ds : List AV} {vs : List Value}, LendL P s cs ds → RepL w ρ cs vs → RepL w (pureC (lentL ρ) ρ.S ρ.rd) ds vs
  | [], [], _, _, hr => by unfold RepL at *; exact hr
  | c :: cs, d :: ds, _, hl, hr => by
    unfold RepL at *
    obtain ⟨v, vs', rfl, h2, h3⟩ := hr
    exact ⟨v, vs', rfl, hl.1 _ _ _ _ _ _ _ _ h h2, LendL.rep h hl.2 h3⟩
  | [], _ :: _, _, hl, _ => hl.elim
  | _ :: _, [], _, hl, _ => hl.elim
theorem Lend.agg {cs ds : List AV} (h : LendL P s cs ds) : Lend P s (.agg cs) (.agg ds) := fun _ _ _ _ w _ ρ v hS hr => by
  obtain ⟨vs, h1, h2, h3⟩ := rep_agg.1 hr
  exact rep_agg.2 ⟨vs, h1, h2, LendL.rep hS h h3⟩
theorem Lend.own {id n : Nat} {r : Row} (hr : s.rows id = some r) (hn : r.es.length = n) (hc : ∀ e ∈ r.es, ∀ c ∈ e, Clo c) : Lend P s (.own id n) (.view .lent r.sz r.es) := fun w0 S0 rd0 k0 w a ρ v hS hv => by
  obtain ⟨_, u, hu, hln, h0, hlen, hbx, xs, hat, hrep, hone⟩ := hS.rw id r hr
  obtain ⟨_, _, _, hvu⟩ := rep_own.1 hv
  have := hvu u hu (by omega)
  subst this
  have hat0 := hat
  rcases hat with ⟨hn0, rfl, a0, rfl⟩ | ⟨g, cap, cur, rfl, hp, hb, hg, hn0, hcap, hcs, htk, hl⟩
  · have he : r.es = [] := List.length_eq_zero_iff.1 hn0
    exact rep_view.2 ⟨a0, 0, by rw [he]; rfl, fun _ => by rw [he]; rfl, by rw [he]; exact Nat.le_refl _, by rw [he]; exact Nat.zero_le _, hlen, .inl he⟩
  · refine rep_view.2 ⟨_, cap, rfl, (fun h => by cases h), hn0, by unfold maxLen at hcap; unfold big; omega, hlen, .inr ⟨g, 0, rfl, .inr ⟨id, _, hu, blk_slice _ _ _ hp⟩, RepE.of_get hlen (fun i e he => RepC.of_get (fun j c hc' => ?_))⟩⟩
    have hlt : j < r.sz := by rw [← hlen e (List.mem_of_getElem? he)]; exact (List.getElem?_eq_some_iff.1 hc').1
    have hf := flat_get hlen he hlt
    rw [hc'] at hf
    obtain ⟨v, hv, hrv⟩ := hrep.get hf
    refine ⟨v, ?_, hone v (List.mem_of_getElem? hv), (hc e (List.mem_of_getElem? he) c (List.mem_of_getElem? hc') _ _ _ hrv).le (le_lent w ρ)⟩
    rw [Nat.zero_add]
    exact hat0.cells _ _ hv
inductive Lnd0 (rows : Nat → Option Row) : AV → AV → Prop
  | clo {c d : AV} (h : CloTo c d) : Lnd0 rows c d
  | own {id n : Nat} {r : Row} (hr : rows id = some r) (hn : r.es.length = n) (hc : ∀ e ∈ r.es, ∀ c ∈ e, Clo c) : Lnd0 rows (.own id n) (.view .lent r.sz r.es)
inductive LndL0 (rows : Nat → Option Row) : List AV → List AV → Prop
  | nil : LndL0 rows [] []
  | cons {c d : AV} {cs ds : List AV} (h : Lnd0 rows c d) (t : LndL0 rows cs ds) : LndL0 rows (c :: cs) (d :: ds)
inductive Lnd (rows : Nat → Option Row) : AV → AV → Prop
  | base {c d : AV} (h : Lnd0 rows c d) : Lnd rows c d
  | agg {cs ds : List AV} (h : LndL0 rows cs ds) : Lnd rows (.agg cs) (.agg ds)
inductive LndL (rows : Nat → Option Row) : List AV → List AV → Prop
  | nil : LndL rows [] []
  | cons {c d : AV} {cs ds : List AV} (h : Lnd rows c d) (t : LndL rows cs ds) : LndL rows (c :: cs) (d :: ds)
theorem Lnd0.lend {c d : AV} (h : Lnd0 s.rows c d) : Lend P s c d := by
  cases h with
  | clo h => exact Lend.clo h
  | own hr hn hc => exact Lend.own hr hn hc
theorem LndL0.lend {cs ds : List AV} (h : LndL0 s.rows cs ds) : LendL P s cs ds := by
  induction h with
  | nil => trivial
  | cons h _ ih => exact ⟨h.lend, ih⟩
theorem Lnd.lend {c d : AV} (h : Lnd s.rows c d) : Lend P s c d := by
  cases h with
  | base h => exact h.lend
  | agg h => exact Lend.agg h.lend
theorem LndL.lend {cs ds : List AV} (h : LndL s.rows cs ds) : LendL P s cs ds := by
  induction h with
  | nil => trivial
  | cons h _ ih => exact ⟨h.lend, ih⟩
theorem Lnd0.moved {rows rows' : Nat → Option Row} {U : Nat → Bool} (hr : ∀ id, U id = true → rows' id = rows id) {c d : AV} (h : Lnd0 rows c d) (hc : AV.In U c) : Lnd0 rows' c d := by
  cases h with
  | clo h => exact .clo h
  | own h1 h2 h3 => exact .own ((hr _ (in_own.1 hc)).trans h1) h2 h3
theorem LndL0.moved {rows rows' : Nat → Option Row} {U : Nat → Bool} (hr : ∀ id, U id = true → rows' id = rows id) {cs ds : List AV} (h : LndL0 rows cs ds) (hc : ∀ c ∈ cs, AV.In U c) : LndL0 rows' cs ds := by
  induction h with
  | nil => exact .nil
  | cons h _ ih => exact .cons (h.moved hr (hc _ (by simp))) (ih (fun c h => hc c (by simp [h])))
theorem Lnd.moved {rows rows' : Nat → Option Row} {U : Nat → Bool} (hr : ∀ id, U id = true → rows' id = rows id) {c d : AV} (h : Lnd rows c d) (hc : AV.In U c) : Lnd rows' c d := by
  cases h with
  | base h => exact .base (h.moved hr hc)
  | agg h => exact .agg (h.moved hr (in_agg.1 hc))
theorem LndL.moved {rows rows' : Nat → Option Row} {U : Nat → Bool} (hr : ∀ id, U id = true → rows' id = rows id) {cs ds : List AV} (h : LndL rows cs ds) (hc : ∀ c ∈ cs, AV.In U c) : LndL rows' cs ds := by
  induction h with
  | nil => exact .nil
  | cons h _ ih => exact .cons (h.moved hr (hc _ (by simp))) (ih (fun c h => hc c (by simp [h])))
theorem lendL_clo : ∀ {cs : List AV}, (∀ c ∈ cs, Clo c) → LendL P s cs cs
  | [], _ => trivial
  | c :: cs, h => ⟨Lend.clo (h c (by simp)), lendL_clo (fun d hd => h d (by simp [hd]))⟩
theorem lendL_ops {xs : List Operand} (h : ∀ x ∈ xs, Clo (aev s x)) : LendL P s (xs.map (aev s)) (xs.map (aev s)) := lendL_clo (fun c hc => by
  obtain ⟨x, hx, rfl⟩ := List.mem_map.1 hc
  exact h x hx)
theorem lentL_ok (h : SR P w0 S0 rd0 k0 w a s ρ) (b : Nat) (hb : lentL ρ b) : b < w.heap.size ∧ ρ.rd ≠ some b := by
  rcases hb with hb | ⟨id, u, h1, h2⟩
  · exact ⟨Nat.lt_of_lt_of_le (h.ll b hb).1 h.ext.size, fun e => h.l_rd hb e⟩
  · exact ⟨(h.row_lt h1 h2).2, (h.ns id u b h1 h2).2⟩
theorem args_rep (h : SR P w0 S0 rd0 k0 w a s ρ) {xs : List Operand} {args : List AV} (hl : LendL P s (xs.map (aev s)) args) : RepL w (pureC (lentL ρ) ρ.S ρ.rd) args (xs.map a.eval) :=
  hl.rep h (RepL.of_get (by simp) (fun i c v h1 h2 => by
    rw [List.getElem?_map] at h1 h2
    cases hx : xs[i]? with
    | none => rw [hx] at h1; cases h1
    | some x => rw [hx] at h1 h2; cases h1; cases h2; exact aev_rep h x))
theorem callE_ok (h : SR P w0 S0 rd0 k0 w a s ρ) {o : Oper} {f : FuncId} {vs : List Value} (hex : Enters P f → (execOp a.eval o).run P w = .ok (.enter f vs.toArray) w) {A : Nat → Prop} (hA : ∀ b, A b → w0.A b) {args : List AV} {c : Nat} {Post : AV → Prop} (hac : ACV P A f args c Post) (hargs : RepL w (pureC (lentL ρ) ρ.S ρ.rd) args vs) (hcan : s.can c)
    {next : Act → World → Prop} {Q : Exit → Act → World → Prop} (hK : ∀ r v w' ρ', Post r → NoId r → SR P w0 S0 rd0 k0 w' (a.put o.dst v) ((s.pay c).put o.dst r) ρ' → next (a.put o.dst v) w') : o.wp P a w next Q := by
  unfold Oper.wp
  rw [hex hac.1]
  have hk : ∀ rb, ρ.rd = some rb → ∃ j, s.rd = some j ∧ RdOk w ρ.S rb (k0 + j) := fun rb hrb => by
    cases hs : s.rd with
    | none => rw [h.rdn hs] at hrb; cases hrb
    | some j =>
      obtain ⟨rb', q1, q2, _⟩ := h.rdk j hs
      rw [hrb] at q1; cases q1; exact ⟨j, rfl, q2⟩
  refine (hac.2 w (lentL ρ) ρ.S ρ.rd (k0 + (s.rd.getD 0 - c)) vs (fun b hb => h.av b (hA b hb)) (lentL_ok h) (fun b hb => (h.sl b hb).1) (fun b hb => ⟨(h.rl b hb).2, ?_⟩) hargs).mono ?_
  · obtain ⟨j, hj, hok⟩ := hk b hb
    have := hcan j hj
    rw [hj, Option.getD_some, show k0 + (j - c) + c = k0 + j by omega]
    exact hok
  · rintro e w' ⟨v, r, S', rfl, hx, h1, h2, h3, h4, h5⟩
    obtain ⟨q1, q2⟩ := h.called (w' := w') (S' := S') c hx h1 h2 (fun j rb hj hrb => by
      have := h3 rb hrb
      rw [hj, Option.getD_some] at this
      exact this)
    exact hK r v w' _ h5 (Rep.in (fun _ hid => False.elim hid) h4) (q1.putS o.dst (q2 r v h4))
theorem callV_ok (h : SR P w0 S0 rd0 k0 w a s ρ) {o : Oper} {f : FuncId} {xs : List Operand} (ha : acall o.op = some (f, xs)) {A : Nat → Prop} (hA : ∀ b, A b → w0.A b) {args : List AV} {c : Nat} {Post : AV → Prop} (hac : ACV P A f args c Post) (hclo : LendL P s (xs.map (aev s)) args) (hcan : s.can c)
    {next : Act → World → Prop} {Q : Exit → Act → World → Prop} (hK : ∀ r v w' ρ', Post r → NoId r → SR P w0 S0 rd0 k0 w' (a.put o.dst v) ((s.pay c).put o.dst r) ρ' → next (a.put o.dst v) w') : o.wp P a w next Q :=
  callE_ok h (fun he => exec_call he ha) hA hac (args_rep h hclo) hcan hK
theorem call_ok (h : SR P w0 S0 rd0 k0 w a s ρ) {o : Oper} {f : FuncId} {xs : List Operand} (ha : acall o.op = some (f, xs)) {args : List AV} {c : Nat} {Post : AV → Prop} (hac : AC P f args c Post) (hclo : LendL P s (xs.map (aev s)) args) (hcan : s.can c)
    {next : Act → World → Prop} {Q : Exit → Act → World → Prop} (hK : ∀ r v w' ρ', Post r → NoId r → SR P w0 S0 rd0 k0 w' (a.put o.dst v) ((s.pay c).put o.dst r) ρ' → next (a.put o.dst v) w') : o.wp P a w next Q :=
  callV_ok (A := fun _ => False) h ha (fun _ h => h.elim) hac.toV hclo hcan hK
theorem call0_ok (h : SR P w0 S0 rd0 k0 w a s ρ) {o : Oper} {f : FuncId} {xs : List Operand} (ha : acall o.op = some (f, xs)) {args : List AV} {Post : AV → Prop} (hac : AC0 P f args Post) (hclo : LendL P s (xs.map (aev s)) args) (hrd : s.rd = none)
    {next : Act → World → Prop} {Q : Exit → Act → World → Prop} (hK : ∀ r v w' ρ', Post r → NoId r → SR P w0 S0 rd0 k0 w' (a.put o.dst v) (s.put o.dst r) ρ' → next (a.put o.dst v) w') : o.wp P a w next Q := by
  unfold Oper.wp
  rw [exec_call hac.1 ha]
  have hn := h.rdn hrd
  have hargs := args_rep h hclo
  rw [hn] at hargs
  refine (hac.2 w (lentL ρ) ρ.S (xs.map a.eval) (fun b hb => (lentL_ok h b hb).1) (fun b hb => (h.sl b hb).1) hargs).mono ?_
  rintro e w' ⟨v, r, S', rfl, hx, h1, h2, h4, h5⟩
  obtain ⟨q1, q2⟩ := h.called (w' := w') (S' := S') 0 (hx.mono (fun b hb => hb.elim)) h1 h2 (fun j rb hj hrb => by rw [hrd] at hj; cases hj)
  have e1 : s.pay 0 = s := by cases s; simp only [ASt.pay] at *; rw [hrd]; rfl
  rw [e1] at q1
  exact hK r v w' _ h5 (Rep.in (fun _ hid => False.elim hid) h4) (q1.putS o.dst (q2 r v h4))
theorem callN_ok (h : SR P w0 S0 rd0 k0 w a s ρ) {o : Oper} {f : FuncId} {xs : List Operand} (ha : acall o.op = some (f, xs)) {args : List AV} {n : Nat} (hac : ACN P f args (k0 + n)) (hclo : LendL P s (xs.map (aev s)) args) (hrd : s.rd = none)
    {next : Act → World → Prop} {Q : Exit → Act → World → Prop} (hK : ∀ v w' ρ', SR P w0 S0 rd0 k0 w' (a.put o.dst v) (({ s with rd := some n } : ASt).put o.dst .rdr) ρ' → next (a.put o.dst v) w') : o.wp P a w next Q := by
  unfold Oper.wp
  rw [exec_call hac.1 ha]
  have hn := h.rdn hrd
  have hargs := args_rep h hclo
  rw [hn] at hargs
  refine (hac.2 w (lentL ρ) ρ.S (xs.map a.eval) (fun b hb => (lentL_ok h b hb).1) (fun b hb => (h.sl b hb).1) hargs).mono ?_
  rintro e w' ⟨rb, rfl, hg, hge, hok⟩
  obtain ⟨q1, q2⟩ := h.grow hg
  refine hK _ w' { ρ with rd := some rb } ?_
  have le : Cx.Le w' ρ w' { ρ with rd := some rb } := ⟨fun b hb => ⟨hb, fun _ => rfl⟩, fun b hb => ⟨hb, fun _ => rfl⟩, fun id hid => ⟨hid, Nat.le_refl _, fun _ h _ => h⟩, fun b hb => by rw [hn] at hb; cases hb⟩
  have hlt : rb < w'.heap.size := by obtain ⟨_, _, _, _, _, _, _, _, _, h6, _⟩ := hok; exact h6
  have hnS : ¬ ρ.S rb := fun hb => by have := (h.sl rb hb).1; omega
  have hw := h.ext.size
  have := SR.putS (s := { s with rd := some n }) (ρ := { ρ with rd := some rb }) ⟨q1.tm.le le, q1.df, q1.ext, q1.s0, q1.sl, q1.us, fun id r hr' => (by
      obtain ⟨p1, u, p2, p3, p4⟩ := q1.rw id r hr'
      exact ⟨p1, u, p2, p3, p4.moved le (Ext.refl nil _) (fun _ _ h => h)⟩), q1.rn, q1.dj, fun id u g k1 k2 => ⟨(q1.ns id u g k1 k2).1, fun e => by cases e; have := (h.row_lt k1 k2).2; omega⟩,
    fun rb' e => (by cases e; exact ⟨hlt, hnS⟩), fun j hj => (by cases hj; exact ⟨rb, rfl, hok, hnS, .inr (by omega)⟩), (fun h => by cases h), (fun rb' h0 => by have := (h.r0 rb' h0).2; rw [hrd] at this; cases this), h.ll, h.kp, h.rv, fun b hb => Nat.lt_of_lt_of_le (h.av b hb) hg.size⟩ o.dst (rep_rdr.2 ⟨rb, rfl, rfl⟩)
  exact this
def RIn (id : Nat) (r : Nat → AV) (R : Row) : Prop := AV.In (fun k => k == id) (r id) ∧ ∀ e ∈ R.es, ∀ c ∈ e, NoId c
theorem callR_ok (h : SR P w0 S0 rd0 k0 w a s ρ) {o : Oper} {f : FuncId} {xs : List Operand} (ha : acall o.op = some (f, xs)) {args : List AV} {c : Nat} {Post0 : AV → Prop} {Post : (Nat → AV) → Row → Prop} (hac : ACR P f args c Post0 Post) (hclo : LendL P s (xs.map (aev s)) args) (hcan : s.can c)
    {id : Nat} (hid : s.used id = false) {next : Act → World → Prop} {Q : Exit → Act → World → Prop} (hK0 : ∀ r v w' ρ', Post0 r → NoId r → SR P w0 S0 rd0 k0 w' (a.put o.dst v) ((s.pay c).put o.dst r) ρ' → next (a.put o.dst v) w')
    (hK : ∀ r R v w' ρ', Post r R → RIn id r R → SR P w0 S0 rd0 k0 w' (a.put o.dst v) (((s.pay c).add id R).put o.dst (r id)) ρ' → next (a.put o.dst v) w') : o.wp P a w next Q := by
  unfold Oper.wp
  rw [exec_call hac.1 ha]
  have hk : ∀ rb, ρ.rd = some rb → ∃ j, s.rd = some j ∧ RdOk w ρ.S rb (k0 + j) := fun rb hrb => by
    cases hs : s.rd with
    | none => rw [h.rdn hs] at hrb; cases hrb
    | some j =>
      obtain ⟨rb', q1, q2, _⟩ := h.rdk j hs
      rw [hrb] at q1; cases q1; exact ⟨j, rfl, q2⟩
  refine (hac.2 w (lentL ρ) ρ.S ρ.rd (k0 + (s.rd.getD 0 - c)) (xs.map a.eval) (lentL_ok h) (fun b hb => (h.sl b hb).1) (fun b hb => ⟨(h.rl b hb).2, ?_⟩) (args_rep h hclo)).mono ?_
  · obtain ⟨j, hj, hok⟩ := hk b hb
    have := hcan j hj
    rw [hj, Option.getD_some, show k0 + (j - c) + c = k0 + j by omega]
    exact hok
  · rintro e w' ⟨v, S', rfl, hx, h1, h2, h3, h4⟩
    obtain ⟨q1, q2⟩ := h.called (w' := w') (S' := S') c hx h1 h2 (fun j rb hj hrb => by
      have := h3 rb hrb
      rw [hj, Option.getD_some] at this
      exact this)
    rcases h4 with ⟨r, h4, h5⟩ | ⟨r, R, u, h4, h5, h6, h7⟩
    · exact hK0 r v w' _ h5 (Rep.in (fun _ hid => False.elim hid) h4) (q1.putS o.dst (q2 r v h4))
    · have hin : RIn id r R := ⟨Rep.in (fun k hk => by simpa [oneC] using hk) (h4 id), fun e he c hc => by
        obtain ⟨_, _, _, xs, _, hxs, _⟩ := h5
        exact inL_iff.1 (RepL.in (U := fun _ => false) (fun _ hid => False.elim hid) hxs) c (List.mem_flatten.2 ⟨e, he, hc⟩)⟩
      have hlt : ∀ g, blk u = some g → w.heap.size ≤ g := fun g hg => by
        exact (h5.lt g hg).1
      obtain ⟨p1, p2⟩ := q1.new2 id hid R u (fun g hg => ⟨h6 g hg, fun e => by have := (h.rl g e).1; have := hlt g hg; omega, fun id' u' k1 k2 => by have := (h.row_lt k1 k2).2; have := hlt g hg; omega⟩)
        (by
          obtain ⟨g0, g1, g2, xs, g3, g4, g5⟩ := h5
          refine RowOk.base ⟨g0, g1, g2, xs, g3, RepL.le (ρ := pureC nil S' none) (ρ' := { ρ with S := S' }) ⟨fun b hb => ⟨hb, fun _ => rfl⟩, fun b hb => False.elim hb, fun id hid => False.elim hid, fun _ h => by cases h⟩ g4, g5⟩ (fun g hg => .inl (Nat.le_trans h.ext.size hg)))
      have le : Cx.Le w' (oneC S' id u R.es.length) w' (Cx.add { ρ with S := S' } id u R.es.length) := ⟨fun b hb => ⟨hb, fun _ => rfl⟩, fun b hb => False.elim hb, fun id' hid' => (by
        have : id' = id := hid'
        subst this
        simp only [Cx.add, oneC, upd_same, if_true]
        exact ⟨.inr trivial, Nat.le_refl _, fun _ h _ => h⟩), fun _ h => by cases h⟩
      exact hK r R v w' _ h7 hin (p1.putS o.dst ((h4 id).le le))
end
end Go.Proofs.Ytgfnmhfdmmnaoaa.Eng
namespace Go.Proofs.Ytgfnmhfdmmnaoaa.Eng
open Go Go.RowKit
def mvC (ρ : Cx) (M : List Nat) (ν : Nat → Nat) : Cx :=
  ⟨ρ.S, fun b => ρ.L b ∨ ∃ id u, ρ.row id = some u ∧ blk u = some b ∧ ∀ k ∈ M, ν k ≠ id, fun id => 1000 ≤ id, fun k => if k ∈ M then ρ.row (ν k) else none, fun k => ρ.len (ν k), ρ.rd⟩
inductive Mv0 (rows : Nat → Option Row) (M : List Nat) (ν : Nat → Nat) : AV → AV → Prop
  | clo {c d : AV} (h : CloTo c d) : Mv0 rows M ν c d
  | lent {id n : Nat} {r : Row} (hr : rows id = some r) (hn : r.es.length = n) (hc : ∀ e ∈ r.es, ∀ c ∈ e, Clo c) (hne : ∀ k ∈ M, ν k ≠ id) : Mv0 rows M ν (.own id n) (.view .lent r.sz r.es)
  | own {id k n : Nat} (hk : k ∈ M) (he : id = ν k) : Mv0 rows M ν (.own id n) (.own k n)
  | ptr {bx : Bool} {sz n id k i j : Nat} (hk : k ∈ M) (he : id = ν k) : Mv0 rows M ν (.ptr bx sz n id i j) (.ptr bx sz n k i j)
inductive MvL0 (rows : Nat → Option Row) (M : List Nat) (ν : Nat → Nat) : List AV → List AV → Prop
  | nil : MvL0 rows M ν [] []
  | cons {c d : AV} {cs ds : List AV} (h : Mv0 rows M ν c d) (t : MvL0 rows M ν cs ds) : MvL0 rows M ν (c :: cs) (d :: ds)
inductive Mv (rows : Nat → Option Row) (M : List Nat) (ν : Nat → Nat) : AV → AV → Prop
  | base {c d : AV} (h : Mv0 rows M ν c d) : Mv rows M ν c d
  | agg {cs ds : List AV} (h : MvL0 rows M ν cs ds) : Mv rows M ν (.agg cs) (.agg ds)
inductive MvL (rows : Nat → Option Row) (M : List Nat) (ν : Nat → Nat) : List AV → List AV → Prop
  | nil : MvL rows M ν [] []
  | cons {c d : AV} {cs ds : List AV} (h : Mv rows M ν c d) (t : MvL rows M ν cs ds) : MvL rows M ν (c :: cs) (d :: ds)
inductive MvE (rows : Nat → Option Row) (M : List Nat) (ν : Nat → Nat) : List (List AV) → List (List AV) → Prop
  | refl {es : List (List AV)} (h : ∀ e ∈ es, ∀ c ∈ e, Clo c) : MvE rows M ν es es
  | box {cs ds : List AV} (h : MvL0 rows M ν cs ds) : MvE rows M ν [cs] [ds]
def MvR (rows : Nat → Option Row) (M : List Nat) (ν : Nat → Nat) (rows0 : List (Nat × Row)) : Prop :=
  ∀ p ∈ rows0, ∃ R, rows (ν p.1) = some R ∧ R.bx = p.2.bx ∧ R.e = p.2.e ∧ R.sz = p.2.sz ∧ MvE rows M ν R.es p.2.es
section
variable {P : Program} {w0 : W0} {S0 : Nat → Prop} {rd0 : Option Nat} {k0 : Nat} {w : World} {a : Act} {s : ASt} {ρ : Cx} {M : List Nat} {ν : Nat → Nat}
theorem le_mv (w : World) (ρ : Cx) : Cx.Le w (pureC ρ.L ρ.S ρ.rd) w (mvC ρ M ν) :=
  ⟨fun _ h => ⟨h, fun _ => rfl⟩, fun _ h => ⟨.inl h, fun _ => rfl⟩, fun _ h => False.elim h, fun _ h => h⟩
theorem Mv0.rep (h : SR P w0 S0 rd0 k0 w a s ρ) (hM : ∀ k ∈ M, 1000 ≤ k) {c d : AV} {v : Value} (hm : Mv0 s.rows M ν c d) (hv : Rep w ρ c v) : Rep w (mvC ρ M ν) d v := by
  cases hm with
  | clo hc => exact (hc w ρ v hv).le (le_mv w ρ)
  | @lent id n r hr hn hc hne =>
    obtain ⟨_, u, hu, hln, h0, hlen, hbx, xs, hat, hrep, hone⟩ := h.rw id r hr
    obtain ⟨_, _, _, hvu⟩ := rep_own.1 hv
    have := hvu u hu (by omega)
    subst this
    have hat0 := hat
    rcases hat with ⟨hn0, rfl, a0, rfl⟩ | ⟨g, cap, cur, rfl, hp, hb, hg, hn0, hcap, hcs, htk, hl⟩
    · have he : r.es = [] := List.length_eq_zero_iff.1 hn0
      exact rep_view.2 ⟨a0, 0, by rw [he]; rfl, fun _ => by rw [he]; rfl, by rw [he]; exact Nat.le_refl _, by rw [he]; exact Nat.zero_le _, hlen, .inl he⟩
    · refine rep_view.2 ⟨_, cap, rfl, (fun h => by cases h), hn0, by unfold maxLen at hcap; unfold big; omega, hlen, .inr ⟨g, 0, rfl, .inr ⟨id, _, hu, blk_slice _ _ _ hp, hne⟩, RepE.of_get hlen (fun i e he => RepC.of_get (fun j c hc' => ?_))⟩⟩
      have hlt : j < r.sz := by rw [← hlen e (List.mem_of_getElem? he)]; exact (List.getElem?_eq_some_iff.1 hc').1
      have hf := flat_get hlen he hlt
      rw [hc'] at hf
      obtain ⟨v, hv, hrv⟩ := hrep.get hf
      refine ⟨v, ?_, hone v (List.mem_of_getElem? hv), (hc e (List.mem_of_getElem? he) c (List.mem_of_getElem? hc') _ _ _ hrv).le (le_mv w ρ)⟩
      rw [Nat.zero_add]
      exact hat0.cells _ _ hv
  | @own id k n hk he =>
    subst he
    obtain ⟨h1, h2, h3, h4⟩ := rep_own.1 hv
    exact rep_own.2 ⟨hM k hk, h2, h3, fun u hu hn => h4 u (by simpa [mvC, hk] using hu) hn⟩
  | @ptr bx sz n id k i j hk he =>
    subst he
    obtain ⟨h1, h2, h3, h4⟩ := rep_ptr.1 hv
    exact rep_ptr.2 ⟨hM k hk, h2, h3, fun u hu hn => h4 u (by simpa [mvC, hk] using hu) hn⟩
theorem MvL0.rep (h : SR P w0 S0 rd0 k0 w a s ρ) (hM : ∀ k ∈ M, 1000 ≤ k) {cs ds : List AV} (hm : MvL0 s.rows M ν cs ds) : ∀ {vs : List Value}, RepL w ρ cs vs → RepL w (mvC ρ M ν) ds vs := by
  induction hm with
  | nil => intro vs hr; unfold RepL at *; exact hr
  | cons hc _ ih =>
    intro vs hr
    unfold RepL at hr ⊢
    obtain ⟨v, vs', rfl, h2, h3⟩ := hr
    exact ⟨v, vs', rfl, hc.rep h hM h2, ih h3⟩
theorem MvL0.length {rows : Nat → Option Row} {cs ds : List AV} (hm : MvL0 rows M ν cs ds) : cs.length = ds.length := by
  induction hm with
  | nil => rfl
  | cons _ _ ih => simp [ih]
theorem Mv.rep (h : SR P w0 S0 rd0 k0 w a s ρ) (hM : ∀ k ∈ M, 1000 ≤ k) {c d : AV} {v : Value} (hm : Mv s.rows M ν c d) (hv : Rep w ρ c v) : Rep w (mvC ρ M ν) d v := by
  cases hm with
  | base hb => exact hb.rep h hM hv
  | agg hl =>
    obtain ⟨vs, h1, h2, h3⟩ := rep_agg.1 hv
    exact rep_agg.2 ⟨vs, h1, h2, hl.rep h hM h3⟩
theorem MvL.rep (h : SR P w0 S0 rd0 k0 w a s ρ) (hM : ∀ k ∈ M, 1000 ≤ k) {cs ds : List AV} (hm : MvL s.rows M ν cs ds) : ∀ {vs : List Value}, RepL w ρ cs vs → RepL w (mvC ρ M ν) ds vs := by
  induction hm with
  | nil => intro vs hr; unfold RepL at *; exact hr
  | cons hc _ ih =>
    intro vs hr
    unfold RepL at hr ⊢
    obtain ⟨v, vs', rfl, h2, h3⟩ := hr
    exact ⟨v, vs', rfl, hc.rep h hM h2, ih h3⟩
theorem MvE.rep (h : SR P w0 S0 rd0 k0 w a s ρ) (hM : ∀ k ∈ M, 1000 ≤ k) {es ds : List (List AV)} (hm : MvE s.rows M ν es ds) {vs : List Value} (hv : RepL w ρ es.flatten vs) : RepL w (mvC ρ M ν) ds.flatten vs := by
  cases hm with
  | refl hc =>
    refine RepL.of_get hv.length (fun i c v h1 h2 => ?_)
    obtain ⟨u, hu, hr⟩ := hv.get h1
    rw [h2] at hu; cases hu
    obtain ⟨e, he, hce⟩ := List.mem_flatten.1 (List.mem_of_getElem? h1)
    exact (hc e he c hce w ρ _ hr).le (le_mv w ρ)
  | box hl =>
    simp only [List.flatten_cons, List.flatten_nil, List.append_nil] at hv ⊢
    exact hl.rep h hM hv
theorem MvE.lens {rows : Nat → Option Row} {es ds : List (List AV)} (hm : MvE rows M ν es ds) : es.length = ds.length ∧ ∀ sz : Nat, (∀ x ∈ es, x.length = sz) → ∀ x ∈ ds, x.length = sz := by
  cases hm with
  | refl hc => exact ⟨rfl, fun _ h => h⟩
  | box hl =>
    refine ⟨rfl, fun sz h x hx => ?_⟩
    have := h _ (List.mem_singleton.2 rfl)
    rw [List.mem_singleton.1 hx, ← hl.length]; exact this
theorem Mv0.moved {rows rows' : Nat → Option Row} {U : Nat → Bool} (hr : ∀ id, U id = true → rows' id = rows id) {c d : AV} (h : Mv0 rows M ν c d) (hc : AV.In U c) : Mv0 rows' M ν c d := by
  cases h with
  | clo h => exact .clo h
  | lent h1 h2 h3 h4 => exact .lent ((hr _ (in_own.1 hc)).trans h1) h2 h3 h4
  | own h1 h2 => exact .own h1 h2
  | ptr h1 h2 => exact .ptr h1 h2
theorem MvL0.moved {rows rows' : Nat → Option Row} {U : Nat → Bool} (hr : ∀ id, U id = true → rows' id = rows id) {cs ds : List AV} (h : MvL0 rows M ν cs ds) (hc : ∀ c ∈ cs, AV.In U c) : MvL0 rows' M ν cs ds := by
  induction h with
  | nil => exact .nil
  | cons h _ ih => exact .cons (h.moved hr (hc _ (by simp))) (ih (fun c h => hc c (by simp [h])))
theorem Mv.moved {rows rows' : Nat → Option Row} {U : Nat → Bool} (hr : ∀ id, U id = true → rows' id = rows id) {c d : AV} (h : Mv rows M ν c d) (hc : AV.In U c) : Mv rows' M ν c d := by
  cases h with
  | base h => exact .base (h.moved hr hc)
  | agg h => exact .agg (h.moved hr (in_agg.1 hc))
theorem MvL.moved {rows rows' : Nat → Option Row} {U : Nat → Bool} (hr : ∀ id, U id = true → rows' id = rows id) {cs ds : List AV} (h : MvL rows M ν cs ds) (hc : ∀ c ∈ cs, AV.In U c) : MvL rows' M ν cs ds := by
  induction h with
  | nil => exact .nil
  | cons h _ ih => exact .cons (h.moved hr (hc _ (by simp))) (ih (fun c h => hc c (by simp [h])))
theorem MvE.moved {rows rows' : Nat → Option Row} {U : Nat → Bool} (hr : ∀ id, U id = true → rows' id = rows id) {es ds : List (List AV)} (h : MvE rows M ν es ds) (hc : ∀ e ∈ es, ∀ c ∈ e, AV.In U c) : MvE rows' M ν es ds := by
  cases h with
  | refl h => exact .refl h
  | box h => exact .box (h.moved hr (hc _ (List.mem_singleton.2 rfl)))
theorem MvR.moved (hI : Inv s) {rows' : Nat → Option Row} (hr : ∀ id, s.used id = true → rows' id = s.rows id) {rows0 : List (Nat × Row)} (h : MvR s.rows M ν rows0) : MvR rows' M ν rows0 := by
  intro p hp
  obtain ⟨R, h1, h2, h3, h4, h5⟩ := h p hp
  have := hI.rw _ _ h1
  exact ⟨R, (hr _ this.1).trans h1, h2, h3, h4, h5.moved hr this.2⟩
theorem MvR.rows (h : SR P w0 S0 rd0 k0 w a s ρ) {rows0 : List (Nat × Row)} (hM : ∀ p ∈ rows0, 1000 ≤ p.1) (hinj : ∀ k ∈ rows0.map (·.1), ∀ k' ∈ rows0.map (·.1), ν k = ν k' → k = k') (hm : MvR s.rows (rows0.map (·.1)) ν rows0) :
    Rows P w (fun _ => True) (rowsOf rows0) (mvC ρ (rows0.map (·.1)) ν) := by
  have hM' : ∀ k ∈ rows0.map (·.1), 1000 ≤ k := fun k hk => by
    obtain ⟨p, hp, rfl⟩ := List.mem_map.1 hk
    exact hM p hp
  have hrow : ∀ k u, (mvC ρ (rows0.map (·.1)) ν).row k = some u → k ∈ rows0.map (·.1) ∧ ρ.row (ν k) = some u := fun k u hu => by
    simp only [mvC] at hu
    split at hu
    · rename_i hk; exact ⟨hk, hu⟩
    · cases hu
  refine ⟨fun id r hr => hM' id (rowsOf_key hr), fun id r hr => ?_, fun id hr => ?_, fun id id' u u' g h1 h2 h3 h4 => ?_, fun id u g h1 h2 => ?_⟩
  · obtain ⟨R, q1, q2, q3, q4, q5⟩ := hm (id, r) (rowsOf_some hr)
    obtain ⟨_, u, p2, p3, p0, p4, p5, xs, p6, p7, p8⟩ := h.rw _ R q1
    obtain ⟨l1, l2⟩ := q5.lens
    dsimp only at q2 q3 q4 q5 l1 l2
    refine ⟨u, by simp only [mvC, rowsOf_key hr, if_true]; exact p2, by simp only [mvC]; rw [p3, l1], ⟨by rw [← q3, ← q4]; exact p0.1, fun _ _ => trivial⟩, l2 r.sz (by rw [← q4]; exact p4), fun hb => by rw [← l1]; exact p5 (by rw [q2]; exact hb), xs, by rw [← q3, ← q4, ← l1]; exact p6, q5.rep h hM' p7, p8⟩
  · cases hrr : (mvC ρ (rows0.map (·.1)) ν).row id with
    | none => rfl
    | some u =>
      obtain ⟨r, q⟩ := rowsOf_mem (hrow id u hrr).1
      rw [hr] at q; cases q
  · obtain ⟨k1, e1⟩ := hrow id u h1
    obtain ⟨k2, e2⟩ := hrow id' u' h2
    exact hinj id k1 id' k2 (h.dj _ _ u u' g e1 e2 h3 h4)
  · exact (h.ns _ u g (hrow id u h1).2 h2).1
structure Mapped (μ : Nat → Nat) (N : List Nat) (ρ ρ' : Cx) : Prop where
  S : ∀ b, ρ.S b → ρ'.S b
  U : ∀ k ∈ N, ρ'.U (μ k)
  row : ∀ k ∈ N, ρ'.row (μ k) = ρ.row k
  len : ∀ k ∈ N, ρ'.len (μ k) = ρ.len k
inductive Bk0 (μ : Nat → Nat) (N : List Nat) : AV → AV → Prop
  | pur {c : AV} (h : Pur c) : Bk0 μ N c c
  | own {k id n : Nat} (hk : k ∈ N) (he : id = μ k) : Bk0 μ N (.own k n) (.own id n)
  | ptr {bx : Bool} {sz n k id i j : Nat} (hk : k ∈ N) (he : id = μ k) : Bk0 μ N (.ptr bx sz n k i j) (.ptr bx sz n id i j)
inductive BkL0 (μ : Nat → Nat) (N : List Nat) : List AV → List AV → Prop
  | nil : BkL0 μ N [] []
  | cons {c d : AV} {cs ds : List AV} (h : Bk0 μ N c d) (t : BkL0 μ N cs ds) : BkL0 μ N (c :: cs) (d :: ds)
inductive Bk1 (μ : Nat → Nat) (N : List Nat) : AV → AV → Prop
  | base {c d : AV} (h : Bk0 μ N c d) : Bk1 μ N c d
  | agg {cs ds : List AV} (h : BkL0 μ N cs ds) : Bk1 μ N (.agg cs) (.agg ds)
inductive BkL1 (μ : Nat → Nat) (N : List Nat) : List AV → List AV → Prop
  | nil : BkL1 μ N [] []
  | cons {c d : AV} {cs ds : List AV} (h : Bk1 μ N c d) (t : BkL1 μ N cs ds) : BkL1 μ N (c :: cs) (d :: ds)
inductive Bk (μ : Nat → Nat) (N : List Nat) : AV → AV → Prop
  | base {c d : AV} (h : Bk1 μ N c d) : Bk μ N c d
  | tup {cs ds : List AV} (h : BkL1 μ N cs ds) : Bk μ N (.tup cs) (.tup ds)
inductive BkE (μ : Nat → Nat) (N : List Nat) : List (List AV) → List (List AV) → Prop
  | refl {es : List (List AV)} (h : ∀ e ∈ es, ∀ c ∈ e, Pur c) : BkE μ N es es
  | box {cs ds : List AV} (h : BkL0 μ N cs ds) : BkE μ N [cs] [ds]
inductive BkR (μ : Nat → Nat) (N : List Nat) : List (Nat × Row) → List (Nat × Row) → Prop
  | nil : BkR μ N [] []
  | cons {k id : Nat} {r : Row} {es : List (List AV)} {l l' : List (Nat × Row)} (he : id = μ k) (h : BkE μ N r.es es) (t : BkR μ N l l') : BkR μ N ((k, r) :: l) ((id, { r with es := es }) :: l')
section
variable {μ : Nat → Nat} {N : List Nat} {ρ' : Cx}
theorem Bk0.rep (hm : Mapped μ N ρ ρ') {c d : AV} {v : Value} (h : Bk0 μ N c d) (hv : Rep w ρ c v) : Rep w ρ' d v := by
  cases h with
  | pur hp => exact Rep.le (ρ := pureC nil ρ.S none) ⟨fun b hb => ⟨hm.S b hb, fun _ => rfl⟩, fun _ h => False.elim h, fun _ h => False.elim h, fun _ h => by cases h⟩ (hp w ρ v hv)
  | @own k id n hk he =>
    subst he
    obtain ⟨h1, h2, h3, h4⟩ := rep_own.1 hv
    exact rep_own.2 ⟨hm.U k hk, by rw [hm.len k hk]; exact h2, h3, fun u hu hn => h4 u (by rw [← hm.row k hk]; exact hu) (by rw [← hm.len k hk]; exact hn)⟩
  | @ptr bx sz n k id i j hk he =>
    subst he
    obtain ⟨h1, h2, h3, h4⟩ := rep_ptr.1 hv
    exact rep_ptr.2 ⟨hm.U k hk, by rw [hm.len k hk]; exact h2, h3, fun u hu hn => h4 u (by rw [← hm.row k hk]; exact hu) (by rw [← hm.len k hk]; exact hn)⟩
theorem BkL0.rep (hm : Mapped μ N ρ ρ') {cs ds : List AV} (h : BkL0 μ N cs ds) : ∀ {vs : List Value}, RepL w ρ cs vs → RepL w ρ' ds vs := by
  induction h with
  | nil => intro vs hr; unfold RepL at *; exact hr
  | cons hc _ ih =>
    intro vs hr
    unfold RepL at hr ⊢
    obtain ⟨v, vs', rfl, h2, h3⟩ := hr
    exact ⟨v, vs', rfl, hc.rep hm h2, ih h3⟩
theorem BkL0.length {cs ds : List AV} (h : BkL0 μ N cs ds) : cs.length = ds.length := by
  induction h with
  | nil => rfl
  | cons _ _ ih => simp [ih]
theorem Bk1.rep (hm : Mapped μ N ρ ρ') {c d : AV} {v : Value} (h : Bk1 μ N c d) (hv : Rep w ρ c v) : Rep w ρ' d v := by
  cases h with
  | base h => exact h.rep hm hv
  | agg h =>
    obtain ⟨vs, h1, h2, h3⟩ := rep_agg.1 hv
    exact rep_agg.2 ⟨vs, h1, h2, h.rep hm h3⟩
theorem BkL1.rep (hm : Mapped μ N ρ ρ') {cs ds : List AV} (h : BkL1 μ N cs ds) : ∀ {vs : List Value}, RepL w ρ cs vs → RepL w ρ' ds vs := by
  induction h with
  | nil => intro vs hr; unfold RepL at *; exact hr
  | cons hc _ ih =>
    intro vs hr
    unfold RepL at hr ⊢
    obtain ⟨v, vs', rfl, h2, h3⟩ := hr
    exact ⟨v, vs', rfl, hc.rep hm h2, ih h3⟩
theorem Bk.rep (hm : Mapped μ N ρ ρ') {c d : AV} {v : Value} (h : Bk μ N c d) (hv : Rep w ρ c v) : Rep w ρ' d v := by
  cases h with
  | base h => exact h.rep hm hv
  | tup h =>
    obtain ⟨vs, h1, h3⟩ := rep_tup.1 hv
    exact rep_tup.2 ⟨vs, h1, h.rep hm h3⟩
theorem BkE.rep (hm : Mapped μ N ρ ρ') {es ds : List (List AV)} (h : BkE μ N es ds) {vs : List Value} (hv : RepL w ρ es.flatten vs) : RepL w ρ' ds.flatten vs := by
  cases h with
  | refl hp =>
    refine RepL.of_get hv.length (fun i c v h1 h2 => ?_)
    obtain ⟨u, hu, hr⟩ := hv.get h1
    rw [h2] at hu; cases hu
    obtain ⟨e, he, hce⟩ := List.mem_flatten.1 (List.mem_of_getElem? h1)
    exact Bk0.rep hm (.pur (hp e he c hce)) hr
  | box hl =>
    simp only [List.flatten_cons, List.flatten_nil, List.append_nil] at hv ⊢
    exact hl.rep hm hv
theorem BkE.lens {es ds : List (List AV)} (h : BkE μ N es ds) : es.length = ds.length ∧ ∀ sz : Nat, (∀ x ∈ es, x.length = sz) → ∀ x ∈ ds, x.length = sz := by
  cases h with
  | refl hc => exact ⟨rfl, fun _ h => h⟩
  | box hl =>
    refine ⟨rfl, fun sz h x hx => ?_⟩
    have := h _ (List.mem_singleton.2 rfl)
    rw [List.mem_singleton.1 hx, ← hl.length]; exact this
theorem BkR.get (hinj : ∀ k ∈ N, ∀ k' ∈ N, μ k = μ k' → k = k') {l l' : List (Nat × Row)} (h : BkR μ N l l') (hN : ∀ k ∈ l.map (·.1), k ∈ N) : ∀ {id : Nat} {R : Row}, rowsOf l' id = some R → ∃ k r, rowsOf l k = some r ∧ id = μ k ∧ BkE μ N r.es R.es ∧ R = { r with es := R.es } := by
  induction h with
  | nil => intro id R h; cases h
  | @cons k id0 r es l l' he h t ih =>
    intro id R hr
    rw [rowsOf_cons] at hr
    split at hr
    · rename_i e
      cases hr
      exact ⟨k, r, by rw [rowsOf_cons, if_pos rfl], by rw [e, he], h, rfl⟩
    · rename_i e
      obtain ⟨k2, r2, q1, q2, q3, q4⟩ := ih (fun k hk => hN k (by simp [hk])) hr
      refine ⟨k2, r2, ?_, q2, q3, q4⟩
      rw [rowsOf_cons, if_neg (fun e2 => e (by rw [q2, he, e2]))]; exact q1
theorem BkR.none {l l' : List (Nat × Row)} (h : BkR μ N l l') : ∀ {id : Nat}, rowsOf l' id = Option.none → ∀ k ∈ l.map (·.1), μ k ≠ id := by
  induction h with
  | nil => intro id _ k hk; cases hk
  | @cons k id0 r es l l' he h t ih =>
    intro id hr k' hk'
    rw [rowsOf_cons] at hr
    split at hr
    · cases hr
    · rename_i e
      simp only [List.map_cons, List.mem_cons] at hk'
      rcases hk' with rfl | hk'
      · exact fun e2 => e (by rw [← e2, he])
      · exact ih hr k' hk'
end
def ASt.killL : List Nat → ASt → ASt
  | [], s => s
  | k :: l, s => ASt.killL l (s.kill k)
def ASt.addL : List (Nat × Row) → ASt → ASt
  | [], s => s
  | p :: l, s => (ASt.addL l s).add p.1 p.2
theorem killL_rest : ∀ (l : List Nat) (s : ASt), (ASt.killL l s).tmps = s.tmps ∧ (ASt.killL l s).used = s.used ∧ (ASt.killL l s).rd = s.rd
  | [], s => ⟨rfl, rfl, rfl⟩
  | k :: l, s => killL_rest l (s.kill k)
theorem killL_rows : ∀ (l : List Nat) (s : ASt) (id : Nat), (ASt.killL l s).rows id = if id ∈ l then none else s.rows id
  | [], s, id => by simp [ASt.killL]
  | k :: l, s, id => by
    unfold ASt.killL
    rw [killL_rows l (s.kill k) id]
    by_cases h : id ∈ l
    · simp [h]
    · simp only [h, if_false, ASt.kill, upd, List.mem_cons, or_false]
theorem addL_rest : ∀ (l : List (Nat × Row)) (s : ASt), (ASt.addL l s).tmps = s.tmps ∧ (ASt.addL l s).rd = s.rd
  | [], s => ⟨rfl, rfl⟩
  | p :: l, s => addL_rest l s
theorem addL_rows : ∀ (l : List (Nat × Row)) (s : ASt) (id : Nat), (ASt.addL l s).rows id = match rowsOf l id with | some r => some r | none => s.rows id
  | [], s, id => rfl
  | (k, r) :: l, s, id => by
    unfold ASt.addL
    rw [rowsOf_cons]
    simp only [ASt.add, upd]
    split
    · rfl
    · exact addL_rows l s id
theorem addL_used : ∀ (l : List (Nat × Row)) (s : ASt) (id : Nat), (ASt.addL l s).used id = (s.used id || (rowsOf l id).isSome)
  | [], s, id => by simp [ASt.addL, rowsOf_nil]
  | (k, r) :: l, s, id => by
    unfold ASt.addL
    rw [rowsOf_cons]
    simp only [ASt.add, upd]
    split
    · simp
    · exact addL_used l s id
structure Back (s : ASt) (rows0 : List (Nat × Row)) (ν μ : Nat → Nat) (l l' : List (Nat × Row)) (r r' : AV) : Prop where
  inj : ∀ k ∈ l.map (·.1), ∀ k' ∈ l.map (·.1), μ k = μ k' → k = k'
  nm : ∀ k R, rowsOf l k = some R → (μ k = ν k ∧ R.bx = true ∧ ∃ r0, rowsOf rows0 k = some r0 ∧ r0.bx = true) ∨ s.used (μ k) = false
  rs : BkR μ (l.map (·.1)) l l'
  rr : Bk μ (l.map (·.1)) r r'
def ASt.back (s : ASt) (rows0 : List (Nat × Row)) (ν : Nat → Nat) (c : Nat) (l' : List (Nat × Row)) : ASt := ASt.addL l' (ASt.killL (rows0.map fun p => ν p.1) (s.pay c))
theorem callGV_ok (h : SR P w0 S0 rd0 k0 w a s ρ) {o : Oper} {f : FuncId} {xs : List Operand} (ha : acall o.op = some (f, xs)) {A : Nat → Prop} (hA : ∀ b, A b → w0.A b) {args : List AV} {rows0 : List (Nat × Row)} {c : Nat} {Post : AV → List (Nat × Row) → Prop} (hac : ACGV P A f args rows0 c Post)
    (ν : Nat → Nat) (hinj : ∀ k ∈ rows0.map (·.1), ∀ k' ∈ rows0.map (·.1), ν k = ν k' → k = k') (hrs : MvR s.rows (rows0.map (·.1)) ν rows0) (hargs : MvL s.rows (rows0.map (·.1)) ν (xs.map (aev s)) args) (hcan : s.can c)
    {next : Act → World → Prop} {Q : Exit → Act → World → Prop}
    (hK : ∀ r l v w', Post r l → (∀ μ l' r', Back s rows0 ν μ l l' r r' → ∃ ρ', SR P w0 S0 rd0 k0 w' (a.put o.dst v) ((s.back rows0 ν c l').put o.dst r') ρ') → next (a.put o.dst v) w') : o.wp P a w next Q := by
  unfold Oper.wp
  rw [exec_call hac.1 ha]
  obtain ⟨_, hM, hcall⟩ := hac
  have hM' : ∀ k ∈ rows0.map (·.1), 1000 ≤ k := fun k hk => by
    obtain ⟨p, hp, rfl⟩ := List.mem_map.1 hk
    exact hM p hp
  have hrow : ∀ k u, (mvC ρ (rows0.map (·.1)) ν).row k = some u → k ∈ rows0.map (·.1) ∧ ρ.row (ν k) = some u := fun k u hu => by
    simp only [mvC] at hu
    split at hu
    · rename_i hk; exact ⟨hk, hu⟩
    · cases hu
  have hblk : ∀ b, blks (mvC ρ (rows0.map (·.1)) ν) b → ∃ k u, k ∈ rows0.map (·.1) ∧ ρ.row (ν k) = some u ∧ blk u = some b := fun b ⟨k, u, h1, h2⟩ => ⟨k, u, (hrow k u h1).1, (hrow k u h1).2, h2⟩
  have hRows := hrs.rows h hM hinj
  have hk : ∀ rb, ρ.rd = some rb → ∃ j, s.rd = some j ∧ RdOk w ρ.S rb (k0 + j) := fun rb hrb => by
    cases hs : s.rd with
    | none => rw [h.rdn hs] at hrb; cases hrb
    | some j =>
      obtain ⟨rb', q1, q2, _⟩ := h.rdk j hs
      rw [hrb] at q1; cases q1; exact ⟨j, rfl, q2⟩
  have hargs' : RepL w (mvC ρ (rows0.map (·.1)) ν) args (xs.map a.eval) := hargs.rep h hM' (RepL.of_get (by simp) (fun i c v h1 h2 => by
    rw [List.getElem?_map] at h1 h2
    cases hx : xs[i]? with
    | none => rw [hx] at h1; cases h1
    | some x => rw [hx] at h1 h2; cases h1; cases h2; exact aev_rep h x))
  refine (hcall w (mvC ρ (rows0.map (·.1)) ν) (k0 + (s.rd.getD 0 - c)) (xs.map a.eval) (fun b hb => h.av b (hA b hb)) (fun b hb => ?_) (fun b hb => (h.sl b hb).1) (fun b hb => ⟨(h.rl b hb).2, fun hb2 => ?_, ?_⟩) (fun _ => Iff.rfl) hRows hargs').mono ?_
  · rcases hb with hb | ⟨id, u, h1, h2, h3⟩
    · refine ⟨Nat.lt_of_lt_of_le (h.ll b hb).1 h.ext.size, fun e => h.l_rd hb e, fun hb2 => ?_⟩
      obtain ⟨k, u, _, q2, q3⟩ := hblk b hb2
      rcases (h.row_lt q2 q3).1 with q4 | q4
      · have := (h.ll b hb).1; omega
      · exact (h.ll b hb).2.2 q4
    · refine ⟨(h.row_lt h1 h2).2, (h.ns id u b h1 h2).2, fun hb2 => ?_⟩
      obtain ⟨k, u', q1, q2, q3⟩ := hblk b hb2
      exact h3 k q1 (h.dj _ _ u' u b q2 h1 q3 h2)
  · obtain ⟨k, u, _, q2, q3⟩ := hblk b hb2
    exact (h.ns _ u b q2 q3).2 hb
  · obtain ⟨j, hj, hok⟩ := hk b hb
    have := hcan j hj
    rw [hj, Option.getD_some, show k0 + (j - c) + c = k0 + j by omega]
    exact hok
  rintro e w' ⟨v, r, l, ρc, rfl, hx, hS1, hS2, hrd, hLn, hrn, hR, hkept, hrep, hpost⟩
  refine hK r l v w' hpost fun μ l' r' hb => ?_
  have hN : ∀ k ∈ l.map (·.1), ∃ R, rowsOf l k = some R := fun k hk => rowsOf_mem hk
  let inv : Nat → Option Nat := fun id => (l.map (·.1)).find? (fun k => μ k == id)
  have inv1 : ∀ id k, inv id = some k → k ∈ l.map (·.1) ∧ μ k = id := fun id k hk => ⟨List.mem_of_find?_eq_some hk, by have := List.find?_some hk; simpa using this⟩
  have inv2 : ∀ k ∈ l.map (·.1), inv (μ k) = some k := fun k hk => by
    cases hi : inv (μ k) with
    | none =>
      have := List.find?_eq_none.1 hi k hk
      simp at this
    | some k' =>
      obtain ⟨q1, q2⟩ := inv1 _ _ hi
      rw [hb.inj k' q1 k hk q2]
  let D : List Nat := rows0.map fun p => ν p.1
  have hD : ∀ id, id ∈ D ↔ ∃ k ∈ rows0.map (·.1), ν k = id := fun id => by
    simp only [D, List.mem_map]
    constructor
    · rintro ⟨p, hp, rfl⟩; exact ⟨p.1, ⟨p, hp, rfl⟩, rfl⟩
    · rintro ⟨k, ⟨p, hp, rfl⟩, rfl⟩; exact ⟨p, hp, rfl⟩
  let ρ2 : Cx := { ρ with S := ρc.S, U := fun id => ρ.U id ∨ (inv id).isSome = true, row := fun id => match inv id with | some k => ρc.row k | none => if id ∈ D then none else ρ.row id, len := fun id => match inv id with | some k => ρc.len k | none => ρ.len id }
  have r2s : ∀ id k, inv id = some k → ρ2.row id = ρc.row k ∧ ρ2.len id = ρc.len k := fun id k hk => by simp only [ρ2, hk]; exact ⟨trivial, trivial⟩
  have r2n : ∀ id, inv id = none → ρ2.row id = (if id ∈ D then none else ρ.row id) ∧ ρ2.len id = ρ.len id := fun id hk => by simp only [ρ2, hk]; exact ⟨trivial, trivial⟩
  have l'n : ∀ id, inv id = none → rowsOf l' id = none := fun id hi => by
    cases hr : rowsOf l' id with
    | none => rfl
    | some R =>
      obtain ⟨k, r0, q1, q2, _⟩ := hb.rs.get hb.inj (fun _ h => h) hr
      rw [q2, inv2 k (rowsOf_key q1)] at hi; cases hi
  have l's : ∀ id k, inv id = some k → ∃ R, rowsOf l' id = some R := fun id k hi => by
    cases hr : rowsOf l' id with
    | some R => exact ⟨R, rfl⟩
    | none => exact absurd (inv1 id k hi).2 (hb.rs.none hr k (inv1 id k hi).1)
  have hmap : Mapped μ (l.map (·.1)) ρc ρ2 := ⟨fun _ h => h, fun k hk => .inr (by rw [inv2 k hk]; rfl), fun k hk => (r2s _ k (inv2 k hk)).1, fun k hk => (r2s _ k (inv2 k hk)).2⟩
  have hrd2 : ∀ id u g, ρc.row id = some u → blk u = some g → ρ.rd ≠ some g ∧ ((∃ k u, k ∈ rows0.map (·.1) ∧ ρ.row (ν k) = some u ∧ blk u = some g) ∨ w.heap.size ≤ g) := fun id u g h1 h2 => by
    cases hr : rowsOf l id with
    | none => rw [hR.rn id hr] at h1; cases h1
    | some R =>
      obtain ⟨u', q1, _, q3⟩ := hR.rw id R hr
      rw [h1] at q1; cases q1
      rcases (q3.lt g h2).1 with q | q
      · exact ⟨fun e => by have := (h.rl g e).1; omega, .inr q⟩
      · have q' := hblk g q
        obtain ⟨k, u2, p1, p2, p3⟩ := q'
        exact ⟨(h.ns _ u2 g p2 p3).2, .inl ⟨k, u2, p1, p2, p3⟩⟩
  have keep : ∀ id k, inv id = some k → s.used id = true → ∃ R r0, rowsOf l k = some R ∧ R.bx = true ∧ rowsOf rows0 k = some r0 ∧ r0.bx = true ∧ id = ν k := fun id k hi hu => by
    obtain ⟨q1, q2⟩ := inv1 id k hi
    obtain ⟨R, q3⟩ := hN k q1
    rcases hb.nm k R q3 with ⟨p1, p2, r0, p3, p4⟩ | p
    · exact ⟨R, r0, q3, p2, p3, p4, by rw [← q2, p1]⟩
    · rw [q2, hu] at p; cases p
  have kept2 : ∀ id k, inv id = some k → s.used id = true → ρ2.row id = ρ.row id ∧ ρ2.len id = ρ.len id := fun id k hi hu => by
    obtain ⟨R, r0, q1, q2, q3, q4, q5⟩ := keep id k hi hu
    obtain ⟨u, p1, p2, p3⟩ := hR.rw k R q1
    have q6 := hkept k r0 q3 q4 u p1
    have q7 : ρ.row (ν k) = some u := (hrow k u q6).2
    refine ⟨by rw [(r2s id k hi).1, p1, q5, q7], ?_⟩
    rw [(r2s id k hi).2, p2, p3.2.2.1 q2]
    obtain ⟨R0, m1, m2, m3, m4, m5⟩ := hrs (k, r0) (rowsOf_some q3)
    obtain ⟨_, u2, n1, n2, n3⟩ := h.rw _ R0 m1
    rw [q5, n2, n3.2.2.1 (by rw [m2]; exact q4)]
  obtain ⟨t1, t2, t3⟩ := killL_rest D (s.pay c)
  obtain ⟨t4, t5⟩ := addL_rest l' (ASt.killL D (s.pay c))
  have hsrd : (s.back rows0 ν c l').rd = s.rd.map (· - c) := t5.trans t3
  have hsus : ∀ id, (s.back rows0 ν c l').used id = (s.used id || (rowsOf l' id).isSome) := fun id => by
    unfold ASt.back; rw [addL_used]; congr 1; exact congrFun t2 id
  have hsrw : ∀ id, (s.back rows0 ν c l').rows id = match rowsOf l' id with | some r => some r | none => if id ∈ D then none else s.rows id := fun id => by
    unfold ASt.back; rw [addL_rows, killL_rows]; rfl
  obtain ⟨m1, m2⟩ := h.step2 (w' := w') (s' := s.back rows0 ν c l') (ρ' := ρ2) (blks (mvC ρ (rows0.map (·.1)) ν)) (fun id => id ∈ D ∨ (inv id).isSome = true) (hx.mono (fun b hb => hb.symm))
    (fun b hb => by
      obtain ⟨k, u, _, q2, q3⟩ := hblk b hb
      exact ⟨(h.ns _ u b q2 q3).1, (h.ns _ u b q2 q3).2, (h.row_lt q2 q3).1⟩)
    (fun b hb => hS1 b hb)
    (fun b hb => by
      rcases hS2 b hb with q | ⟨q | q, q'⟩
      · exact .inl q
      · exact .inr ⟨.inl (Nat.le_trans h.ext.size q), q', fun e => by have := (h.rl b e).1; omega⟩
      · obtain ⟨k, u, _, q2, q3⟩ := hblk b q
        exact .inr ⟨(h.row_lt q2 q3).1, q', (h.ns _ u b q2 q3).2⟩)
    rfl rfl (by rw [hsrd]; simp)
    (fun k rb hk' hrb => by
      rw [hsrd, Option.map_eq_some_iff] at hk'
      obtain ⟨j, hj, rfl⟩ := hk'
      have := hrd rb hrb
      rw [hj, Option.getD_some] at this
      exact this)
    (t4.trans t1)
    (fun id => by
      rw [hsus]
      simp only [ρ2, h.us, Bool.or_eq_true]
      refine or_congr Iff.rfl ⟨fun hi => ?_, fun hi => ?_⟩
      · obtain ⟨k, hk⟩ := Option.isSome_iff_exists.1 hi
        obtain ⟨R, hR⟩ := l's id k hk
        rw [hR]; rfl
      · cases hq : inv id with
        | none => rw [l'n id hq] at hi; cases hi
        | some k => rfl)
    (fun id hu => by rw [hsus, hu]; rfl)
    (fun id hT => by
      have hi : inv id = none := by
        cases hq : inv id with
        | none => rfl
        | some k => exact absurd (.inr (by rw [hq]; rfl)) hT
      have hd : ¬ id ∈ D := fun e => hT (.inl e)
      obtain ⟨q1, q2⟩ := r2n id hi
      rw [if_neg hd] at q1
      refine ⟨q1, ?_, q2⟩
      rw [hsrw, l'n id hi]
      simp only [hd, if_false])
    (fun id u g hT h1 h2 => by
      have hd : ¬ id ∈ D := fun e => hT (.inl e)
      refine ⟨fun hX => ?_, fun hS => ?_⟩
      · obtain ⟨k, u', q1, q2, q3⟩ := hblk g hX
        exact hd ((hD id).2 ⟨k, q1, h.dj _ _ u' u g q2 h1 q3 h2⟩)
      · rcases hS2 g hS with q | ⟨q | q, _⟩
        · exact (h.ns id u g h1 h2).1 q
        · have := (h.row_lt h1 h2).2; omega
        · obtain ⟨k, u', q1, q2, q3⟩ := hblk g q
          exact hd ((hD id).2 ⟨k, q1, h.dj _ _ u' u g q2 h1 q3 h2⟩))
    (fun id hT hu => by
      cases hq : inv id with
      | none =>
        obtain ⟨q1, q2⟩ := r2n id hq
        refine ⟨by rw [q2]; exact Nat.le_refl _, fun u hu2 _ => ?_⟩
        rw [q1] at hu2
        split at hu2
        · cases hu2
        · exact hu2
      | some k =>
        obtain ⟨q1, q2⟩ := kept2 id k hq hu
        exact ⟨by rw [q2]; exact Nat.le_refl _, fun u hu2 _ => by rw [q1] at hu2; exact hu2⟩)
    (fun id R' hT hr => by
      rw [hsrw] at hr
      cases hq : inv id with
      | none =>
        rw [l'n id hq] at hr
        dsimp only at hr
        split at hr
        · cases hr
        · rename_i hd
          rcases hT with hT | hT
          · exact absurd hT hd
          · rw [hq] at hT; cases hT
      | some k =>
        obtain ⟨R2, hR2⟩ := l's id k hq
        rw [hR2] at hr
        cases hr
        obtain ⟨k2, r0, p1, p2, p3, p4⟩ := hb.rs.get hb.inj (fun _ h => h) hR2
        have hkk : k2 = k := by
          have := inv2 k2 (rowsOf_key p1)
          rw [← p2, hq] at this; cases this; rfl
        subst hkk
        obtain ⟨u, n1, n2, n3, n4, n5, xs, n6, n7, n8⟩ := hR.rw k2 r0 p1
        obtain ⟨l1, l2⟩ := p3.lens
        refine ⟨by rw [hsus, hR2]; simp, u, by rw [(r2s id k2 hq).1]; exact n1, by rw [(r2s id k2 hq).2, n2, l1], fun le => ?_⟩
        have e1 : R'.e = r0.e := by rw [p4]
        have e2 : R'.sz = r0.sz := by rw [p4]
        have e3 : R'.bx = r0.bx := by rw [p4]
        refine ⟨⟨by rw [e1, e2]; exact n3.1, fun g hg => ?_⟩, l2 R'.sz (by rw [e2]; exact n4), fun hbx => by rw [← l1]; exact n5 (by rw [← e3]; exact hbx), xs, by rw [e1, e2, ← l1]; exact n6, p3.rep hmap n7, n8⟩
        rcases n3.2 g hg with q | q
        · exact .inl (Nat.le_trans h.ext.size q)
        · obtain ⟨k3, u3, _, q2, q3⟩ := hblk g q
          exact (h.row_lt q2 q3).1)
    (fun id hT hr => by
      rw [hsrw] at hr
      cases hq : inv id with
      | none =>
        rw [(r2n id hq).1]
        rcases hT with hT | hT
        · rw [if_pos hT]
        · rw [hq] at hT; cases hT
      | some k =>
        obtain ⟨R2, hR2⟩ := l's id k hq
        rw [hR2] at hr; cases hr)
    (fun id u g hT h1 h2 => by
      cases hq : inv id with
      | none =>
        rw [(r2n id hq).1] at h1
        rcases hT with hT | hT
        · rw [if_pos hT] at h1; cases h1
        · rw [hq] at hT; cases hT
      | some k =>
        rw [(r2s id k hq).1] at h1
        refine ⟨hR.ns k u g h1 h2, (hrd2 k u g h1 h2).1, fun id' u' k1 k2 => ?_⟩
        cases hq' : inv id' with
        | some k' =>
          rw [(r2s id' k' hq').1] at k1
          have := hR.dj k k' u u' g h1 k1 h2 k2
          subst this
          rw [← (inv1 id k hq).2, ← (inv1 id' k hq').2]
        | none =>
          rw [(r2n id' hq').1] at k1
          split at k1
          · cases k1
          · rename_i hd
            rcases (hrd2 k u g h1 h2).2 with ⟨k3, u3, q1, q2, q3⟩ | q
            · exact absurd ((hD id').2 ⟨k3, q1, h.dj _ _ u3 u' g q2 k1 q3 k2⟩) hd
            · have := (h.row_lt k1 k2).2; omega)
    (fun id hT => by
      cases hq : inv id with
      | none =>
        rcases hT with hT | hT
        · exact .inr (.inl (by rw [(r2n id hq).1, if_pos hT]))
        · rw [hq] at hT; cases hT
      | some k =>
        cases hu : s.used id with
        | false => exact .inl (h.k_none hu)
        | true =>
          obtain ⟨R, r0, q1, q2, q3, q4, q5⟩ := keep id k hq hu
          refine .inr (.inr ⟨(kept2 id k hq hu).1, fun ra rb ha hb' _ => ?_⟩)
          obtain ⟨R2, hR2⟩ := l's id k hq
          rw [hsrw, hR2] at hb'
          cases hb'
          obtain ⟨k2, r1, p1, p2, p3, p4⟩ := hb.rs.get hb.inj (fun _ h => h) hR2
          have hkk : k2 = k := by
            have := inv2 k2 (rowsOf_key p1)
            rw [← p2, hq] at this; cases this; rfl
          subst hkk
          rw [p1] at q1; cases q1
          rw [p4]; exact q2)
  exact ⟨ρ2, m1.putS o.dst (hb.rr.rep hmap hrep)⟩
theorem callG_ok (h : SR P w0 S0 rd0 k0 w a s ρ) {o : Oper} {f : FuncId} {xs : List Operand} (ha : acall o.op = some (f, xs)) {args : List AV} {rows0 : List (Nat × Row)} {c : Nat} {Post : AV → List (Nat × Row) → Prop} (hac : ACG P f args rows0 c Post)
    (ν : Nat → Nat) (hinj : ∀ k ∈ rows0.map (·.1), ∀ k' ∈ rows0.map (·.1), ν k = ν k' → k = k') (hrs : MvR s.rows (rows0.map (·.1)) ν rows0) (hargs : MvL s.rows (rows0.map (·.1)) ν (xs.map (aev s)) args) (hcan : s.can c)
    {next : Act → World → Prop} {Q : Exit → Act → World → Prop}
    (hK : ∀ r l v w', Post r l → (∀ μ l' r', Back s rows0 ν μ l l' r r' → ∃ ρ', SR P w0 S0 rd0 k0 w' (a.put o.dst v) ((s.back rows0 ν c l').put o.dst r') ρ') → next (a.put o.dst v) w') : o.wp P a w next Q :=
  callGV_ok (A := fun _ => False) h ha (fun _ h => h.elim) hac.toV ν hinj hrs hargs hcan hK
end
end Go.Proofs.Ytgfnmhfdmmnaoaa.Eng
namespace Go.Proofs.Ytgfnmhfdmmnaoaa.Eng
open Go Go.RowKit
section
variable {P : Program} {w0 : W0} {S0 : Nat → Prop} {rd0 : Option Nat} {k0 : Nat} {w : World} {a : Act} {s : ASt} {ρ : Cx} {T : Tab}
def gcall (P : Program) (f : FuncId) (xs : List Operand) (d : Option Tmp) (s : ASt) (K : ASt → Prop) : Prop :=
  ∃ args rows0 c Post ν, ACG P f args rows0 c Post ∧ (∀ k ∈ rows0.map (·.1), ∀ k' ∈ rows0.map (·.1), ν k = ν k' → k = k') ∧ MvR s.rows (rows0.map (·.1)) ν rows0 ∧ MvL s.rows (rows0.map (·.1)) ν (xs.map (aev s)) args ∧ s.can c ∧
    ∀ r l, Post r l → ∃ μ l' r', Back s rows0 ν μ l l' r r' ∧ K ((s.back rows0 ν c l').put d r')
def aop (P : Program) (T : Tab) (k0 : Nat) (md : List Nat) (o : Oper) (s : ASt) (K : ASt → Prop) : Prop :=
  match acall o.op with
  | some (f, xs) => gcall P f xs o.dst s K ∨ ∃ args, LendL P s (xs.map (aev s)) args ∧ ((∃ c Post, AC P f args c Post ∧ s.can c ∧ ∀ r, Post r → K ((s.pay c).put o.dst r)) ∨
      (∃ Post, AC0 P f args Post ∧ s.rd = none ∧ ∀ r, Post r → K (s.put o.dst r)) ∨
      (∃ n, ACN P f args (k0 + n) ∧ s.rd = none ∧ K (({ s with rd := some n } : ASt).put o.dst .rdr)) ∨
      ∃ c Post0 Post id, ACR P f args c Post0 Post ∧ s.can c ∧ s.used id = false ∧ (∀ r, Post0 r → K ((s.pay c).put o.dst r)) ∧ ∀ r R, Post r R → K (((s.pay c).add id R).put o.dst (r id)))
  | none => match ado T false md o s with
    | some (v, s') => K (s'.put o.dst v)
    | none => False
def arun (P : Program) (T : Tab) (k0 : Nat) (md : List Nat) (ops : Array Oper) (K : ASt → Prop) : List Oper → ASt → Prop
  | [], s => K s
  | o :: l, s =>
    match awant ops o s with
    | some true => aop P T k0 md o s (arun P T k0 md ops K l)
    | some false => arun P T k0 md ops K l (s.put o.dst (.tup []))
    | none => False
theorem leaves_wp {o : Oper} {c : AV} {s' : ASt} (h : Leaves P w0 S0 rd0 k0 o a w c s') {next : Act → World → Prop} {Q : Exit → Act → World → Prop} (hK : ∀ v w' ρ', SR P w0 S0 rd0 k0 w' (a.put o.dst v) (s'.put o.dst c) ρ' → next (a.put o.dst v) w') : o.wp P a w next Q := by
  obtain ⟨v, w', ρ', hr, h1, h2⟩ := h
  unfold Oper.wp
  rcases hr with hr | ⟨hr, rfl⟩
  · rw [hr]; exact hK v w' ρ' (h1.putS o.dst h2)
  · rw [hr]; exact hK undef w' ρ' (h1.putS o.dst h2)
theorem arun_ok (hT : Tab.Ok P T) {md : List Nat} {ops : Array Oper} {K : ASt → Prop} {Q : Exit → Act → World → Prop} (hQ : ∀ s w a ρ, SR P w0 S0 rd0 k0 w a s ρ → K s → Q .normal a w) :
    ∀ (l : List Oper) (k : Nat) (s : ASt) (w : World) (a : Act) (ρ : Cx), (∀ j, l[j]? = ops[k + j]?) → SR P w0 S0 rd0 k0 w a s ρ → arun P T k0 md ops K l s → wpOps P ops Q (List.range' k l.length) a w
  | [], k, s, w, a, ρ, _, h, hr => hQ s w a ρ h hr
  | o :: l, k, s, w, a, ρ, hl, h, hr => by
    have h0 : ops[k]? = some o := by simpa using (hl 0).symm
    have hl' : ∀ j, l[j]? = ops[k + 1 + j]? := fun j => by have := hl (j + 1); simpa [Nat.add_assoc, Nat.add_comm 1 j] using this
    simp only [List.length_cons, List.range'_succ]
    unfold wpOps
    simp only [h0]
    unfold arun at hr
    split at hr
    · rename_i hw
      rw [if_pos (awant_ok h hw)]
      refine .inl ?_
      unfold aop at hr
      split at hr
      · rename_i f xs ha
        rcases hr with hr | ⟨args, h2, hr⟩
        · obtain ⟨args, rows0, c, Post, ν, h1, h2, h3, h4, h5, h6⟩ := hr
          refine callG_ok h ha h1 ν h2 h3 h4 h5 (fun r l v w' hp hs => ?_)
          obtain ⟨μ, l', r', q1, q2⟩ := h6 r l hp
          obtain ⟨ρ', q3⟩ := hs μ l' r' q1
          exact arun_ok hT hQ _ (k + 1) _ w' _ ρ' hl' q3 q2
        rcases hr with ⟨c, Post, h1, h3, h4⟩ | ⟨Post, h1, h3, h4⟩ | ⟨n, h1, h3, h4⟩ | ⟨c, Post0, Post, id, h1, h3, h5, h4, h6⟩
        · exact call_ok h ha h1 h2 h3 (fun r v w' ρ' hp _ hs => arun_ok hT hQ l (k + 1) _ w' _ ρ' hl' hs (h4 r hp))
        · exact call0_ok h ha h1 h2 h3 (fun r v w' ρ' hp _ hs => arun_ok hT hQ l (k + 1) _ w' _ ρ' hl' hs (h4 r hp))
        · exact callN_ok h ha h1 h2 h3 (fun v w' ρ' hs => arun_ok hT hQ l (k + 1) _ w' _ ρ' hl' hs h4)
        · exact callR_ok h ha h1 h2 h3 h5 (fun r v w' ρ' hp _ hs => arun_ok hT hQ l (k + 1) _ w' _ ρ' hl' hs (h4 r hp)) (fun r R v w' ρ' hp _ hs => arun_ok hT hQ l (k + 1) _ w' _ ρ' hl' hs (h6 r R hp))
      · split at hr
        · rename_i v s' hd
          exact leaves_wp (ado_ok hT h hd) (fun v w' ρ' hs => arun_ok hT hQ l (k + 1) _ w' _ ρ' hl' hs hr)
        · exact hr.elim
    · rename_i hw
      rw [awant_ok h hw, if_neg (by simp)]
      exact arun_ok hT hQ l (k + 1) _ w _ ρ hl' (h.putS o.dst rep_undef) hr
    · exact hr.elim
theorem region_seq (hT : Tab.Ok P T) {md : List Nat} {id : Nat} {l : List Oper} {K : ASt → Prop} {Q : Exit → Act → World → Prop} (hQ : ∀ s w a ρ, SR P w0 S0 rd0 k0 w a s ρ → K s → Q .normal a w)
    (h : SR P w0 S0 rd0 k0 w a s ρ) (hr : arun P T k0 md l.toArray K l s) : (Code.region id l.toArray false).wp P Q a w := by
  refine wp_region ?_
  have := arun_ok (ops := l.toArray) hT hQ l 0 s w a ρ (by simp) h hr
  simpa [List.range_eq_range'] using this
end
end Go.Proofs.Ytgfnmhfdmmnaoaa.Eng
namespace Go.Proofs.Ytgfnmhfdmmnaoaa.Eng
open Go Go.RowKit
def frB : VC → Bool → List Nat
  | .fr g, false => [g]
  | _, _ => []
mutual
def atB : AV → List Nat
  | .agg cs => atL cs
  | .tup cs => atL cs
  | .fn _ cs => atL cs
  | .view t _ es => frB t es.isEmpty ++ atE es
  | .eptr t cs => frB t false ++ atL cs
  | _ => []
def atL : List AV → List Nat
  | [] => []
  | c :: cs => atB c ++ atL cs
def atE : List (List AV) → List Nat
  | [] => []
  | e :: es => atL e ++ atE es
end
theorem at_any : atB .any = [] := by unfold atB; rfl
theorem at_int {k : IntKind} {n : Int} : atB (.int k n) = [] := by unfold atB; rfl
theorem at_bool {b : Bool} : atB (.bool b) = [] := by unfold atB; rfl
theorem at_str {b : ByteArray} : atB (.str b) = [] := by unfold atB; rfl
theorem at_own {id n : Nat} : atB (.own id n) = [] := by unfold atB; rfl
theorem at_ptr {bx : Bool} {sz n id i j : Nat} : atB (.ptr bx sz n id i j) = [] := by unfold atB; rfl
theorem at_rdr : atB .rdr = [] := by unfold atB; rfl
theorem at_agg {cs : List AV} : atB (.agg cs) = atL cs := by unfold atB; rfl
theorem at_tup {cs : List AV} : atB (.tup cs) = atL cs := by unfold atB; rfl
theorem at_fn {f : FuncId} {cs : List AV} : atB (.fn f cs) = atL cs := by unfold atB; rfl
theorem at_view {t : VC} {sz : Nat} {es : List (List AV)} : atB (.view t sz es) = frB t es.isEmpty ++ atE es := by conv => lhs; unfold atB
theorem atL_nil : atL [] = [] := by unfold atL; rfl
theorem atL_cons {c : AV} {cs : List AV} : atL (c :: cs) = atB c ++ atL cs := by conv => lhs; unfold atL
theorem atE_nil : atE [] = [] := by unfold atE; rfl
theorem atE_cons {e : List AV} {es : List (List AV)} : atE (e :: es) = atL e ++ atE es := by conv => lhs; unfold atE
theorem frB_loose {b : Bool} : frB .loose b = [] := by cases b <;> rfl
theorem frB_tight {b : Bool} : frB .tight b = [] := by cases b <;> rfl
theorem frB_fr {g : Nat} {b : Bool} : frB (.fr g) b = if b then [] else [g] := by cases b <;> rfl
theorem atL_mem {b : Nat} : ∀ {cs : List AV}, b ∈ atL cs ↔ ∃ c ∈ cs, b ∈ atB c
  | [] => by rw [atL_nil]; simp
  | c :: cs => by rw [atL_cons, List.mem_append, atL_mem]; simp
theorem atE_mem {b : Nat} : ∀ {es : List (List AV)}, b ∈ atE es ↔ ∃ e ∈ es, b ∈ atL e
  | [] => by rw [atE_nil]; simp
  | e :: es => by rw [atE_cons, List.mem_append, atE_mem]; simp
theorem atE_app {es ds : List (List AV)} : atE (es ++ ds) = atE es ++ atE ds := by
  induction es with
  | nil => rw [atE_nil]; rfl
  | cons e es ih => rw [List.cons_append, atE_cons, atE_cons, ih, List.append_assoc]
section
variable {w : World} {ρ : Cx}
mutual
theorem Rep.at : ∀ {c : AV} {v : Value}, Rep w ρ c v → ∀ b ∈ atB c, ρ.S b ∧ ∀ o, w.frozen? ⟨b, o, none⟩ = false
  | .any, _, _, b, hb => by rw [at_any] at hb; cases hb
  | .int _ _, _, _, b, hb => by rw [at_int] at hb; cases hb
  | .bool _, _, _, b, hb => by rw [at_bool] at hb; cases hb
  | .str _, _, _, b, hb => by rw [at_str] at hb; cases hb
  | .own _ _, _, _, b, hb => by rw [at_own] at hb; cases hb
  | .ptr _ _ _ _ _ _, _, _, b, hb => by rw [at_ptr] at hb; cases hb
  | .rdr, _, _, b, hb => by rw [at_rdr] at hb; cases hb
  | .agg cs, _, h, b, hb => by
    rw [at_agg] at hb
    obtain ⟨vs, _, _, h3⟩ := rep_agg.1 h
    exact RepL.at h3 b hb
  | .tup cs, _, h, b, hb => by
    rw [at_tup] at hb
    obtain ⟨vs, _, h3⟩ := rep_tup.1 h
    exact RepL.at h3 b hb
  | .fn f cs, _, h, b, hb => by
    rw [at_fn] at hb
    obtain ⟨vs, _, h3⟩ := rep_fn.1 h
    exact RepL.at h3 b hb
  | .view t sz es, _, h, b, hb => by
    rw [at_view, List.mem_append] at hb
    obtain ⟨a, c, _, _, _, _, _, h6⟩ := rep_view.1 h
    rcases h6 with rfl | ⟨g, o, _, hg, he⟩
    · rcases hb with hb | hb
      · cases t <;> simp [frB] at hb
      · rw [atE_nil] at hb; cases hb
    · rcases hb with hb | hb
      · cases t <;> cases hem : es.isEmpty <;> rw [hem] at hb <;> simp [frB] at hb
        subst hb
        simp only [Cx.H] at hg
        obtain ⟨h1, rfl, h3⟩ := hg
        exact ⟨h1, h3⟩
      · exact RepE.at he b hb
  | .eptr t cs, _, h, b, hb => by
    unfold atB at hb
    rw [List.mem_append] at hb
    obtain ⟨g, o, _, hg, he⟩ := rep_eptr.1 h
    rcases hb with hb | hb
    · cases t <;> simp [frB] at hb
      subst hb
      simp only [Cx.H] at hg
      obtain ⟨h1, rfl, h3⟩ := hg
      exact ⟨h1, h3⟩
    · exact RepC.at he b hb
theorem RepL.at : ∀ {cs : List AV} {vs : List Value}, RepL w ρ cs vs → ∀ b ∈ atL cs, ρ.S b ∧ ∀ o, w.frozen? ⟨b, o, none⟩ = false
  | [], _, _, b, hb => by rw [atL_nil] at hb; cases hb
  | c :: cs, _, h, b, hb => by
    rw [atL_cons, List.mem_append] at hb
    unfold RepL at h
    obtain ⟨v, vs', _, h2, h3⟩ := h
    rcases hb with hb | hb
    · exact Rep.at h2 b hb
    · exact RepL.at h3 b hb
theorem RepC.at {g : Nat} : ∀ {cs : List AV} {o : Nat}, RepC w ρ g o cs → ∀ b ∈ atL cs, ρ.S b ∧ ∀ o, w.frozen? ⟨b, o, none⟩ = false
  | [], _, _, b, hb => by rw [atL_nil] at hb; cases hb
  | c :: cs, _, h, b, hb => by
    rw [atL_cons, List.mem_append] at hb
    unfold RepC at h
    obtain ⟨⟨v, _, _, h2⟩, h3⟩ := h
    rcases hb with hb | hb
    · exact Rep.at h2 b hb
    · exact RepC.at h3 b hb
theorem RepE.at {g : Nat} : ∀ {es : List (List AV)} {o : Nat}, RepE w ρ g o es → ∀ b ∈ atE es, ρ.S b ∧ ∀ o, w.frozen? ⟨b, o, none⟩ = false
  | [], _, _, b, hb => by rw [atE_nil] at hb; cases hb
  | e :: es, _, h, b, hb => by
    rw [atE_cons, List.mem_append] at hb
    unfold RepE at h
    rcases hb with hb | hb
    · exact RepC.at h.1 b hb
    · exact RepE.at h.2 b hb
end
end
def W0.note (w0 : W0) (l : List Nat) : W0 := { w0 with A := fun b => w0.A b ∨ b ∈ l }
theorem SR.noted {P : Program} {w0 : W0} {S0 : Nat → Prop} {rd0 : Option Nat} {k0 : Nat} {w : World} {a : Act} {s : ASt} {ρ : Cx} (h : SR P w0 S0 rd0 k0 w a s ρ) {l : List Nat} (hl : ∀ b ∈ l, b < w.heap.size) : SR P (w0.note l) S0 rd0 k0 w a s ρ :=
  ⟨h.tm, h.df, h.ext, h.s0, h.sl, h.us, h.rw, h.rn, h.dj, h.ns, h.rl, h.rdk, h.rdn, h.r0, h.ll, h.kp, h.rv, fun b hb => hb.elim (h.av b) (hl b)⟩
theorem SR.unnoted {P : Program} {w0 : W0} {S0 : Nat → Prop} {rd0 : Option Nat} {k0 : Nat} {w : World} {a : Act} {s : ASt} {ρ : Cx} {l : List Nat} (h : SR P (w0.note l) S0 rd0 k0 w a s ρ) : SR P w0 S0 rd0 k0 w a s ρ :=
  ⟨h.tm, h.df, h.ext, h.s0, h.sl, h.us, h.rw, h.rn, h.dj, h.ns, h.rl, h.rdk, h.rdn, h.r0, h.ll, h.kp, h.rv, fun b hb => h.av b (.inl hb)⟩
theorem SR.atL_lt {P : Program} {w0 : W0} {S0 : Nat → Prop} {rd0 : Option Nat} {k0 : Nat} {w : World} {a : Act} {s : ASt} {ρ : Cx} (h : SR P w0 S0 rd0 k0 w a s ρ) : ∀ b ∈ atL s.tmps, b < w.heap.size := fun b hb => (h.sl b (h.tm.at b hb).1).1
theorem nat_out (l : List Nat) : ∃ g, g ∉ l := by
  have : ∀ l : List Nat, ∃ B, ∀ b ∈ l, b < B := fun l => by
    induction l with
    | nil => exact ⟨0, fun b hb => by cases hb⟩
    | cons x l ih =>
      obtain ⟨B, hB⟩ := ih
      refine ⟨max B (x + 1), fun b hb => ?_⟩
      rcases List.mem_cons.1 hb with rfl | hb
      · omega
      · have := hB b hb; omega
  obtain ⟨B, hB⟩ := this l
  exact ⟨B, fun h => by have := hB B h; omega⟩
end Go.Proofs.Ytgfnmhfdmmnaoaa.Eng
namespace Go.Proofs.Ytgfnmhfdmmnaoaa.Eng
open Go Go.RowKit
def cls (o : Oper) : Nat :=
  match o.op with
  | .load _ _ => 1
  | .box _ _ | .alloc _ | .buildSlice _ _ _ => 2
  | .call { callee := .builtin .append, args := _, argTypes := _ } => 3
  | .call { callee := .value _, args := _, argTypes := _ } => 4
  | .store _ _ _ => 5
  | _ => 0
def compat (md : List Nat) (x y : Oper) : Bool :=
  !((md.contains 3000 && ((cls x == 1 && cls y == 3) || (cls x == 3 && cls y == 1))) || (cls x == 5 && ((!md.contains 5000 && cls y == 1) || cls y == 3 || cls y == 5)) || (cls y == 5 && ((!md.contains 5000 && cls x == 1) || cls x == 3)) || (cls x == 3 && cls y == 3))
inductive Anc (ops : Array Oper) : Nat → Nat → Prop
  | one {i : Nat} {o : Oper} (h : ops[i]? = some o) {e : Edge} (he : e ∈ o.after) (hb : Region.binds .any e = true) : Anc ops i e.on
  | more {i j : Nat} {o : Oper} (h : ops[i]? = some o) {e : Edge} (he : e ∈ o.after) (hb : Region.binds .any e = true) (t : Anc ops e.on j) : Anc ops i j
theorem before_spec (ops : Array Oper) : ∀ k j, ((Region.before ops).getD k 0).testBit j = true → Anc ops k j := by
  unfold Region.before
  have := Array.foldl_induction («as» := ops) (motive := fun n (acc : Array Nat) => acc.size = n ∧ ∀ k j, (acc.getD k 0).testBit j = true → Anc ops k j) (init := #[])
    (f := fun acc o => acc.push (o.after.foldl (fun s e => if Region.binds .any e then s ||| 2 ^ e.on ||| acc.getD e.on 0 else s) 0)) ⟨rfl, fun k j h => by simp at h⟩ (fun i acc ⟨h1, h2⟩ => ?_)
  · exact this.2
  · refine ⟨by simp [h1], fun k j h => ?_⟩
    rw [Array.getD_eq_getD_getElem?, Array.getElem?_push] at h
    split at h
    · rename_i hk
      have inner := Array.foldl_induction («as» := (ops[i]).after) (motive := fun _ (s : Nat) => ∀ j, s.testBit j = true → Anc ops k j) (init := 0)
        (f := fun s e => if Region.binds .any e then s ||| 2 ^ e.on ||| acc.getD e.on 0 else s) (fun j h => by simp at h) (fun m s ih j h => by
          have ho : ops[k]? = some ops[i] := by
            have hki : k = i.1 := by rw [hk, h1]
            have hii : ops[i.1]? = some ops[i] := Array.getElem?_eq_getElem i.2
            rw [← hii]; exact congrArg (fun x => ops[x]?) hki
          have hm : (ops[i]).after[m] ∈ (ops[i]).after := Array.getElem_mem _
          split at h
          · rename_i hb
            rw [Nat.testBit_or, Nat.testBit_or, Bool.or_eq_true, Bool.or_eq_true] at h
            rcases h with (h | h) | h
            · exact ih j h
            · rw [Nat.testBit_two_pow] at h
              simp at h
              rw [← h]; exact .one ho hm hb
            · exact .more ho hm hb (h2 _ _ h)
          · exact ih j h)
      exact inner j (by simpa using h)
    · rw [← Array.getD_eq_getD_getElem?] at h
      exact h2 k j h
def Closed (ops : Array Oper) (listed : Array Bool) : Prop := ∀ (i : Nat) (o : Oper), ops[i]? = some o → listed.getD i false = true → ∀ e ∈ o.after, Region.binds .any e = true → listed.getD e.on false = true
theorem Closed.anc {ops : Array Oper} {listed : Array Bool} (hc : Closed ops listed) {i j : Nat} (h : Anc ops i j) : (∀ o, ops[i]? = some o → ∀ e ∈ o.after, Region.binds .any e = true → listed.getD e.on false = true) → listed.getD j false = true := by
  induction h with
  | one h he hb => exact fun k => k _ h _ he hb
  | more h he hb _ ih => exact fun k => ih (fun o ho e' he' hb' => hc _ o ho (k _ h _ he hb) e' he' hb')
def cmpB (md : List Nat) (ops : Array Oper) : Bool :=
  (List.range ops.size).all fun i => (List.range ops.size).all fun j => i == j || ((Region.before ops).getD i 0).testBit j || ((Region.before ops).getD j 0).testBit i || compat md (ops.getD i default) (ops.getD j default)
theorem cmpB_spec {md : List Nat} {ops : Array Oper} (h : cmpB md ops = true) {i j : Nat} {oi oj : Oper} (hi : ops[i]? = some oi) (hj : ops[j]? = some oj) (hne : i ≠ j)
    (hij : ¬ Anc ops i j) (hji : ¬ Anc ops j i) : compat md oi oj = true := by
  unfold cmpB at h
  have li := (Array.getElem?_eq_some_iff.1 hi).1
  have lj := (Array.getElem?_eq_some_iff.1 hj).1
  have := List.all_eq_true.1 (List.all_eq_true.1 h i (List.mem_range.2 li)) j (List.mem_range.2 lj)
  have gi : ops.getD i default = oi := by rw [Array.getD_eq_getD_getElem?, hi]; rfl
  have gj : ops.getD j default = oj := by rw [Array.getD_eq_getD_getElem?, hj]; rfl
  rw [gi, gj] at this
  simp only [Bool.or_eq_true, beq_iff_eq] at this
  rcases this with ((h1 | h1) | h1) | h1
  · exact absurd h1 hne
  · exact absurd (before_spec ops i j h1) hij
  · exact absurd (before_spec ops j i h1) hji
  · exact h1
def inD (ls : List Nat) (d : Option Nat) : Bool := match d with | some t => ls.contains (10000 + t) | none => false
def cmpL (md ls : List Nat) (ops : Array Oper) : Bool :=
  ((cmpB md ops && (List.range ops.size).all fun i => (List.range ops.size).all fun j => i == j || ((Region.before ops).getD i 0).testBit j || ((Region.before ops).getD j 0).testBit i || !(ls.contains i) || ls.contains (2000 + i) || (!(ls.contains j) && (cls (ops.getD j default) == 0 || cls (ops.getD j default) == 2))) &&
  (List.range ops.size).all fun i => (List.range ops.size).all fun j => i == j || ((Region.before ops).getD i 0).testBit j || ((Region.before ops).getD j 0).testBit i || !(ls.contains (1000 + i)) || (!(ls.contains j) && !(ls.contains (1000 + j)) && cls (ops.getD j default) == 0)) &&
  (List.range ops.size).all fun i => (List.range ops.size).all fun j => i == j || ((Region.before ops).getD i 0).testBit j || ((Region.before ops).getD j 0).testBit i || !(ls.contains i && ls.contains (2000 + i)) || (!(ls.contains (1000 + j)) && ((ls.contains j && ls.contains (2000 + j)) || (!(ls.contains j) && (cls (ops.getD j default) == 0 || cls (ops.getD j default) == 1) && !(inD ls (ops.getD j default).dst))))
theorem cmpL_B {md ls : List Nat} {ops : Array Oper} (h : cmpL md ls ops = true) : cmpB md ops = true := by
  unfold cmpL at h
  rw [Bool.and_eq_true, Bool.and_eq_true, Bool.and_eq_true] at h
  exact h.1.1.1
theorem cmpL_spec {md ls : List Nat} {ops : Array Oper} (h : cmpL md ls ops = true) {i j : Nat} {oi oj : Oper} (hi : ops[i]? = some oi) (hj : ops[j]? = some oj) (hne : i ≠ j)
    (hij : ¬ Anc ops i j) (hji : ¬ Anc ops j i) (hl : ls.contains i = true) (hnf : ls.contains (2000 + i) = false) : ls.contains j = false ∧ (cls oj = 0 ∨ cls oj = 2) := by
  unfold cmpL at h
  rw [Bool.and_eq_true, Bool.and_eq_true, Bool.and_eq_true] at h
  have li := (Array.getElem?_eq_some_iff.1 hi).1
  have lj := (Array.getElem?_eq_some_iff.1 hj).1
  have := List.all_eq_true.1 (List.all_eq_true.1 h.1.1.2 i (List.mem_range.2 li)) j (List.mem_range.2 lj)
  have gj : ops.getD j default = oj := by rw [Array.getD_eq_getD_getElem?, hj]; rfl
  rw [gj] at this
  simp only [Bool.or_eq_true, beq_iff_eq] at this
  rcases this with ((((h1 | h1) | h1) | h1) | h1) | h1
  · exact absurd h1 hne
  · exact absurd (before_spec ops i j h1) hij
  · exact absurd (before_spec ops j i h1) hji
  · rw [hl] at h1; cases h1
  · rw [hnf] at h1; cases h1
  · simp only [Bool.and_eq_true, Bool.or_eq_true, beq_iff_eq, Bool.not_eq_true'] at h1
    exact h1
theorem cmpG_spec {md ls : List Nat} {ops : Array Oper} (h : cmpL md ls ops = true) {i j : Nat} {oi oj : Oper} (hi : ops[i]? = some oi) (hj : ops[j]? = some oj) (hne : i ≠ j)
    (hij : ¬ Anc ops i j) (hji : ¬ Anc ops j i) (hl : ls.contains (1000 + i) = true) : (ls.contains j = false ∧ ls.contains (1000 + j) = false) ∧ cls oj = 0 := by
  unfold cmpL at h
  rw [Bool.and_eq_true, Bool.and_eq_true] at h
  have li := (Array.getElem?_eq_some_iff.1 hi).1
  have lj := (Array.getElem?_eq_some_iff.1 hj).1
  have := List.all_eq_true.1 (List.all_eq_true.1 h.1.2 i (List.mem_range.2 li)) j (List.mem_range.2 lj)
  have gj : ops.getD j default = oj := by rw [Array.getD_eq_getD_getElem?, hj]; rfl
  rw [gj] at this
  simp only [Bool.or_eq_true, beq_iff_eq] at this
  rcases this with (((h1 | h1) | h1) | h1) | h1
  · exact absurd h1 hne
  · exact absurd (before_spec ops i j h1) hij
  · exact absurd (before_spec ops j i h1) hji
  · rw [hl] at h1; cases h1
  · simp only [Bool.and_eq_true, beq_iff_eq, Bool.not_eq_true'] at h1
    exact h1
theorem cmpF_spec {md ls : List Nat} {ops : Array Oper} (h : cmpL md ls ops = true) {i j : Nat} {oi oj : Oper} (hi : ops[i]? = some oi) (hj : ops[j]? = some oj) (hne : i ≠ j)
    (hij : ¬ Anc ops i j) (hji : ¬ Anc ops j i) (hl : ls.contains i = true) (hf : ls.contains (2000 + i) = true) : ls.contains (1000 + j) = false ∧ ((ls.contains j = true ∧ ls.contains (2000 + j) = true) ∨ (ls.contains j = false ∧ (cls oj = 0 ∨ cls oj = 1) ∧ inD ls oj.dst = false)) := by
  unfold cmpL at h
  rw [Bool.and_eq_true] at h
  have li := (Array.getElem?_eq_some_iff.1 hi).1
  have lj := (Array.getElem?_eq_some_iff.1 hj).1
  have := List.all_eq_true.1 (List.all_eq_true.1 h.2 i (List.mem_range.2 li)) j (List.mem_range.2 lj)
  have gj : ops.getD j default = oj := by rw [Array.getD_eq_getD_getElem?, hj]; rfl
  rw [gj] at this
  rw [Bool.or_eq_true, Bool.or_eq_true, Bool.or_eq_true, Bool.or_eq_true, beq_iff_eq] at this
  rcases this with (((h1 | h1) | h1) | h1) | h1
  · exact absurd h1 hne
  · exact absurd (before_spec ops i j h1) hij
  · exact absurd (before_spec ops j i h1) hji
  · rw [hl, hf] at h1; cases h1
  · simp only [Bool.and_eq_true, Bool.or_eq_true, beq_iff_eq, Bool.not_eq_true'] at h1
    exact ⟨h1.1, h1.2.imp id (fun h => ⟨h.1.1, h.1.2, h.2⟩)⟩
theorem aev_put {s : ASt} {d : Option Tmp} {v : AV} {x : Operand} (h : ∀ t, d = some t → x ≠ .tmp t) : aev (s.put d v) x = aev s x := by
  cases d with
  | none => rfl
  | some t =>
    cases x with
    | tmp u =>
      have hne : t ≠ u := fun e => h t rfl (e ▸ rfl)
      simp only [aev, ASt.put]
      rw [List.getElem?_set_ne hne]
    | _ => rfl
theorem looks_mem {ops : Array Oper} {o : Oper} {x : Operand} (hx : x ∈ o.op.operands) {t : Tmp} (e : x = .tmp t) : t ∈ o.looksAt ops := by
  subst e
  unfold Oper.looksAt
  refine List.mem_append.2 (.inl ?_)
  rw [List.mem_filterMap]
  exact ⟨_, by simpa using hx, rfl⟩
theorem awant_put {ops : Array Oper} {o : Oper} {s : ASt} {d : Option Tmp} {v : AV} (h : ∀ t, d = some t → t ∉ o.looksAt ops) : awant ops o (s.put d v) = awant ops o s := by
  unfold awant
  cases hg : o.guard with
  | none => rfl
  | some q =>
    obtain ⟨j, want⟩ := q
    dsimp only
    cases hd : (ops[j]?).bind (·.dst) with
    | none => rfl
    | some g =>
      dsimp only
      cases d with
      | none => rfl
      | some t =>
        have hne : t ≠ g := fun e => h t rfl (by unfold Oper.looksAt; refine List.mem_append.2 (.inr ?_); rw [hg]; dsimp only; rw [hd]; simp [e])
        simp only [ASt.put]
        rw [List.getElem?_set_ne hne]
theorem put_comm {s : ASt} {d e : Option Tmp} {u v : AV} (h : ∀ t, d = some t → e ≠ some t) : (s.put d u).put e v = (s.put e v).put d u := by
  cases d with
  | none => rfl
  | some t =>
    cases e with
    | none => rfl
    | some q =>
      have hne : t ≠ q := fun e => h t rfl (by rw [e])
      simp only [ASt.put]
      rw [List.set_comm _ _ hne]
theorem app_put {s : ASt} {d : Option Tmp} {u : AV} {δ : Option Dl} : (s.put d u).app δ = (s.app δ).put d u := by cases d <;> cases δ <;> rfl
theorem pay_put {s : ASt} {d : Option Tmp} {u : AV} {c : Nat} : (s.put d u).pay c = (s.pay c).put d u := by cases d <;> rfl
theorem app_pay {s : ASt} {δ : Option Dl} {c : Nat} : (s.pay c).app δ = (s.app δ).pay c := by cases δ <;> rfl
theorem pay_comm {s : ASt} {c d : Nat} : (s.pay c).pay d = (s.pay d).pay c := by
  unfold ASt.pay
  cases h : s.rd with
  | none => simp [h]
  | some j => simp only [Option.map_some]; congr 2; omega
theorem app_comm {s : ASt} {δ ε : Option Dl} (h : ∀ d e, δ = some d → ε = some e → d.id ≠ e.id) : (s.app δ).app ε = (s.app ε).app δ := by
  cases δ with
  | none => rfl
  | some d =>
    cases ε with
    | none => rfl
    | some e =>
      have hne := h d e rfl rfl
      simp only [ASt.app]
      congr 1
      · exact upd_comm _ _ _ hne
      · cases d.nw <;> cases e.nw <;> simp
        exact upd_comm _ _ _ hne
section
variable {s : ASt} {T : Tab} {ops : Array Oper} {md : List Nat}
theorem idOf_used (h : Inv s) {x : Operand} {id : Nat} (hid : id ∈ idOf (aev s x)) : s.used id = true := by
  have hr := aev_in h x
  generalize aev s x = c at *
  cases c <;> simp [idOf] at hid
  · subst hid; exact in_own.1 hr
  · subst hid; exact in_ptr.1 hr
theorem foot_cases {o : Oper} {id : Nat} (h : id ∈ foot o s) : (∃ t x, o.op = .load t x ∧ id ∈ idOf (aev s x)) ∨ (∃ t p x, o.op = .store t p x ∧ id ∈ idOf (aev s p)) ∨ (cls o = 2 ∧ o.dst = some id) ∨
    (cls o = 3 ∧ ((∃ x ∈ o.op.operands, id ∈ idOf (aev s x)) ∨ o.dst = some id)) := by
  unfold foot at h
  split at h
  · rename_i t x ho; exact .inl ⟨t, x, ho, h⟩
  · rename_i t p x ho; exact .inr (.inl ⟨t, p, x, ho, h⟩)
  · rename_i t x ho; exact .inr (.inr (.inl ⟨by simp [cls, ho], by simpa using h⟩))
  · rename_i t ho; exact .inr (.inr (.inl ⟨by simp [cls, ho], by simpa using h⟩))
  · rename_i ho; exact .inr (.inr (.inl ⟨by simp [cls, ho], by simpa using h⟩))
  · rename_i x y tys ho
    refine .inr (.inr (.inr ⟨by simp [cls, ho], ?_⟩))
    simp only [List.mem_append, Option.mem_toList] at h
    rcases h with (h | h) | h
    · exact .inl ⟨x, by simp [ho, Op.operands, Call.operands], h⟩
    · exact .inl ⟨y, by simp [ho, Op.operands, Call.operands], h⟩
    · exact .inr h
  · cases h
theorem foot_used (h : Inv s) {o : Oper} {id : Nat} (hf : id ∈ foot o s) : s.used id = true ∨ o.dst = some id := by
  rcases foot_cases hf with ⟨_, x, _, h1⟩ | ⟨_, p, _, _, h1⟩ | ⟨_, h1⟩ | ⟨_, ⟨x, _, h1⟩ | h1⟩
  · exact .inl (idOf_used h h1)
  · exact .inl (idOf_used h h1)
  · exact .inr h1
  · exact .inl (idOf_used h h1)
  · exact .inr h1
theorem foot_congr {o : Oper} {t : ASt} (h : ∀ x ∈ o.op.operands, aev t x = aev s x) : foot o t = foot o s := by
  unfold foot
  split
  · rename_i ty x ho; rw [h x (by simp [ho, Op.operands])]
  · rename_i ty p x ho; rw [h p (by simp [ho, Op.operands])]
  · rfl
  · rfl
  · rfl
  · rename_i x y tys ho; rw [h x (by simp [ho, Op.operands, Call.operands]), h y (by simp [ho, Op.operands, Call.operands])]
  · rfl
theorem new_unused {o : Oper} {c : AV} {s' : ASt} (hc : cls o = 2) (e : ado T true md o s = some (c, s')) {d : Nat} (hd : o.dst = some d) : s.used d = false := by
  unfold ado at e
  unfold cls at hc
  split at hc
  · cases hc
  · rename_i t x ho
    rw [ho] at e
    dsimp only at e
    rw [hd] at e
    dsimp only at e
    unfold abox at e
    split at e
    · split at e
      · rename_i h; exact h.2
      · cases e
    · cases e
  · rename_i t ho
    rw [ho] at e
    dsimp only at e
    rw [hd] at e
    dsimp only at e
    unfold aalloc at e
    split at e
    · split at e
      · rename_i h; exact h.2.2
      · cases e
    · cases e
  · rename_i ho
    rw [ho] at e
    dsimp only at e
    rw [hd] at e
    dsimp only at e
    split at e
    · cases e
    · rename_i h; simpa using h
  · cases hc
  · cases hc
  · cases hc
  · cases hc
theorem load_box {o : Oper} {c : AV} {s' : ASt} {t : TypeId} {x : Operand} (ho : o.op = .load t x) (e : ado T true md o s = some (c, s')) {id : Nat} (hid : id ∈ idOf (aev s x)) : ∃ r, s.rows id = some r ∧ (r.bx = true ∨ md.contains 3000 = true) := by
  unfold ado at e
  rw [ho] at e
  simp only [Option.map_eq_some_iff] at e
  obtain ⟨c', e, _⟩ := e
  replace e := aloadD_some e
  unfold aload at e
  split at e
  · rename_i i cs hi hcs
    unfold ASt.at at hcs
    split at hcs
    · rename_i hq; rw [hq] at hid; simp [idOf] at hid
    · rename_i bx sz n id' i' j' hq
      rw [hq] at hid
      simp [idOf] at hid
      subst hid
      split at hcs
      · cases hcs
      · rename_i hb
        split at hcs
        · rename_i r hr
          split at hcs
          · rename_i hc
            simp only [Bool.and_eq_true, beq_iff_eq] at hc
            refine ⟨r, hr, ?_⟩
            rw [hc.1.1]
            cases hbx : bx
            · right
              cases hq : md.contains 3000
              · rw [hbx, hq] at hb; simp at hb
              · rfl
            · exact .inl rfl
          · cases hcs
        · cases hcs
    · cases hcs
  · cases e
theorem used_app {δ : Option Dl} {id : Nat} (h : s.used id = true) : (s.app δ).used id = true := by
  cases δ with
  | none => exact h
  | some d =>
    simp only [ASt.app]
    split
    · unfold upd; split
      · rfl
      · exact h
    · exact h
theorem compat_no {x y : Oper} (h : compat md x y = true) : ¬ (cls x = 5 ∧ ((md.contains 5000 = false ∧ cls y = 1) ∨ cls y = 3 ∨ cls y = 5)) ∧ ¬ (cls y = 5 ∧ ((md.contains 5000 = false ∧ cls x = 1) ∨ cls x = 3)) ∧ ¬ (cls x = 3 ∧ cls y = 3) ∧ ¬ (md.contains 3000 = true ∧ ((cls x = 1 ∧ cls y = 3) ∨ (cls x = 3 ∧ cls y = 1))) := by
  unfold compat at h
  cases hq : md.contains 3000 <;> cases hr : md.contains 5000 <;> rw [hq, hr] at h <;>
    simp only [Bool.false_and, Bool.true_and, Bool.false_or, Bool.not_true, Bool.not_false, Bool.not_eq_true', Bool.or_eq_false_iff, Bool.and_eq_false_iff, beq_eq_false_iff_ne] at h <;>
    simp only [Bool.false_eq_true, Bool.true_eq_false, false_and, true_and, false_or, not_false_eq_true, and_true, reduceCtorEq] <;> omega
theorem load_apart {o : Oper} {c : AV} {s' : ASt} {t : TypeId} {x : Operand} (ho : o.op = .load t x) (e : ado T true md o s = some (c, s')) (h5 : md.contains 5000 = true) {id : Nat} (hid : id ∈ idOf (aev s x)) : md.contains (6000 + id) = false := by
  unfold ado at e
  rw [ho] at e
  simp only [Option.map_eq_some_iff] at e
  obtain ⟨c', e, _⟩ := e
  unfold aloadD at e
  split at e
  · cases e
  · rename_i hc
    rw [h5] at hc
    cases hq : md.contains (6000 + id)
    · rfl
    · exact absurd (by rw [Bool.true_and, Bool.true_and, List.any_eq_true]; exact ⟨id, hid, hq⟩) hc
theorem store_apart {o : Oper} {c : AV} {s' : ASt} {t : TypeId} {p x : Operand} (ho : o.op = .store t p x) (e : ado T true md o s = some (c, s')) (h5 : md.contains 5000 = true) {id : Nat} (hid : id ∈ idOf (aev s p)) : md.contains (6000 + id) = true := by
  unfold ado at e
  rw [ho] at e
  simp only [Option.map_eq_some_iff] at e
  obtain ⟨c', e, _⟩ := e
  unfold astoreD at e
  split at e
  · cases e
  · rename_i hc
    rw [h5] at hc
    cases hq : (idOf (aev s p)).all (fun id => md.contains (6000 + id))
    · rw [hq] at hc; exact absurd rfl hc
    · exact List.all_eq_true.1 hq id hid
theorem apart_rows (h : Inv s) {oi oj : Oper} {ci cj : AV} {si sj : ASt} {δi δj : Option Dl} (hcp : compat md oi oj = true) (hd : ∀ t, oi.dst = some t → oj.dst ≠ some t) (hop : ∀ x ∈ oj.op.operands, aev ((s.app δi).put oi.dst ci) x = aev s x)
    (ei : ado T true md oi s = some (ci, si)) (hi1 : si = s.app δi) (hi2 : ∀ d, δi = some d → d.id ∈ foot oi s ∧ Kd oi s d)
    (ej : ado T true md oj ((s.app δi).put oi.dst ci) = some (cj, sj)) (hj2 : ∀ d, δj = some d → d.id ∈ foot oj ((s.app δi).put oi.dst ci) ∧ Kd oj ((s.app δi).put oi.dst ci) d) :
    (∀ d, δi = some d → d.id ∉ foot oj ((s.app δi).put oi.dst ci)) ∧ ∀ d, δj = some d → d.id ∉ foot oi s := by
  obtain ⟨n1, n2, n3, n4⟩ := compat_no hcp
  have hfc := foot_congr (o := oj) hop
  have rows1 : ((s.app δi).put oi.dst ci).rows = (s.app δi).rows := by cases oi.dst <;> rfl
  have used1 : ((s.app δi).put oi.dst ci).used = (s.app δi).used := by cases oi.dst <;> rfl
  have back : ∀ id, (s.app δi).used id = false → s.used id = false := fun id hu => by
    cases hs : s.used id with
    | false => rfl
    | true => rw [used_app hs] at hu; cases hu
  refine ⟨fun d hdi hmem => ?_, fun d hdj hmem => ?_⟩
  · obtain ⟨f1, f2⟩ := hi2 d hdi
    have hmem' := hmem
    rw [hfc] at hmem'
    have newCase : oi.dst = some d.id → s.used d.id = false → False := fun e1 e2 => by
      rcases foot_used h hmem' with k | k
      · rw [e2] at k; cases k
      · exact hd _ e1 k
    have usedNew : s.used d.id = true → cls oj = 2 → oj.dst = some d.id → False := fun e1 e2 e3 => by
      have := new_unused e2 ej e3
      rw [used1, used_app e1] at this; cases this
    unfold Kd at f2
    split at f2
    · exact newCase f2.1 f2.2
    · exact newCase f2.1 f2.2
    · exact newCase f2.1 f2.2
    · rename_i t p x ho
      obtain ⟨r, hr⟩ := f2
      have hu := (h.rw d.id r hr).1
      have c5 : cls oi = 5 := by simp [cls, ho]
      rcases foot_cases hmem with ⟨_, _, ho2, hx2⟩ | ⟨_, _, _, ho2, _⟩ | ⟨k1, k2⟩ | ⟨k1, _⟩
      · cases h5 : md.contains 5000
        · exact n1 ⟨c5, .inl ⟨h5, by simp [cls, ho2]⟩⟩
        · have q1 := store_apart ho ei h5 (id := d.id) (by simpa [foot, ho] using f1)
          have q2 := load_apart ho2 ej h5 hx2
          rw [q1] at q2; cases q2
      · exact n1 ⟨c5, .inr (.inr (by simp [cls, ho2]))⟩
      · exact usedNew hu k1 k2
      · exact n1 ⟨c5, .inr (.inl k1)⟩
    · rename_i cc ho
      rcases f2 with f2 | ⟨⟨r, hr, hrb⟩, hv⟩
      · exact newCase f2.1 f2.2
      · have hu := (h.rw d.id r hr).1
        have c3 : cls oi = 3 := by
          rcases foot_cases f1 with ⟨_, _, ho2, _⟩ | ⟨_, _, _, ho2, _⟩ | ⟨k1, _⟩ | ⟨k1, _⟩
          · rw [ho] at ho2; cases ho2
          · rw [ho] at ho2; cases ho2
          · unfold cls at k1; rw [ho] at k1; split at k1 <;> simp_all
          · exact k1
        rcases foot_cases hmem with ⟨_, x, ho2, hx⟩ | ⟨_, _, _, ho2, _⟩ | ⟨k1, k2⟩ | ⟨k1, _⟩
        · obtain ⟨r2, hr2, hb2⟩ := load_box ho2 ej hx
          rw [rows1, hdi] at hr2
          simp only [ASt.app, upd_same] at hr2
          have := hv r2 hr2
          rcases hb2 with hb2 | hmd
          · rw [hb2] at this; cases this
          · exact n4 ⟨hmd, .inr ⟨c3, by simp [cls, ho2]⟩⟩
        · exact n2 ⟨by simp [cls, ho2], .inr c3⟩
        · exact usedNew hu k1 k2
        · exact n3 ⟨c3, k1⟩
    · exact f2
  · obtain ⟨f1, f2⟩ := hj2 d hdj
    have f1' := f1
    rw [hfc] at f1'
    have usedNew : s.used d.id = true → cls oi = 2 → oi.dst = some d.id → False := fun e1 e2 e3 => by
      have := new_unused e2 ei e3
      rw [e1] at this; cases this
    have newCase : oj.dst = some d.id → ((s.app δi).put oi.dst ci).used d.id = false → False := fun e1 e2 => by
      rw [used1] at e2
      rcases foot_used h hmem with k | k
      · rw [back _ e2] at k; cases k
      · exact hd _ k e1
    have inj : s.used d.id = true ∨ oj.dst = some d.id := foot_used h f1'
    unfold Kd at f2
    split at f2
    · exact newCase f2.1 f2.2
    · exact newCase f2.1 f2.2
    · exact newCase f2.1 f2.2
    · rename_i t p x ho
      have c5 : cls oj = 5 := by simp [cls, ho]
      have hu : s.used d.id = true := by
        rcases foot_cases f1' with ⟨_, _, ho2, _⟩ | ⟨_, _, _, ho2, hx⟩ | ⟨k1, _⟩ | ⟨k1, _⟩
        · rw [ho] at ho2; cases ho2
        · exact idOf_used h hx
        · omega
        · omega
      rcases foot_cases hmem with ⟨_, _, ho2, hx2⟩ | ⟨_, _, _, ho2, _⟩ | ⟨k1, k2⟩ | ⟨k1, _⟩
      · cases h5 : md.contains 5000
        · exact n2 ⟨c5, .inl ⟨h5, by simp [cls, ho2]⟩⟩
        · have q1 := store_apart ho ej h5 (id := d.id) (by simpa [foot, ho] using f1)
          have q2 := load_apart ho2 ei h5 hx2
          rw [q1] at q2; cases q2
      · exact n1 ⟨by simp [cls, ho2], .inr (.inr c5)⟩
      · exact usedNew hu k1 k2
      · exact n2 ⟨c5, .inr k1⟩
    · rename_i cc ho
      rcases f2 with f2 | ⟨⟨r, hr, hrb⟩, hv⟩
      · exact newCase f2.1 f2.2
      · have c3 : cls oj = 3 := by
          rcases foot_cases f1 with ⟨_, _, ho2, _⟩ | ⟨_, _, _, ho2, _⟩ | ⟨k1, _⟩ | ⟨k1, _⟩
          · rw [ho] at ho2; cases ho2
          · rw [ho] at ho2; cases ho2
          · unfold cls at k1; rw [ho] at k1; split at k1 <;> simp_all
          · exact k1
        rcases foot_cases hmem with ⟨_, x, ho2, hx⟩ | ⟨_, _, _, ho2, _⟩ | ⟨k1, k2⟩ | ⟨k1, _⟩
        · obtain ⟨r2, hr2, hb2⟩ := load_box ho2 ei hx
          have hdn : δi = none := by
            cases hq : δi with
            | none => rfl
            | some q => have := (hi2 q hq).2; unfold Kd at this; rw [ho2] at this; exact this.elim
          rw [rows1, hdn] at hr
          simp only [ASt.app] at hr
          rw [hr] at hr2; cases hr2
          rcases hb2 with hb2 | hmd
          · rw [hrb] at hb2; cases hb2
          · exact n4 ⟨hmd, .inl ⟨by simp [cls, ho2], c3⟩⟩
        · exact n1 ⟨by simp [cls, ho2], .inr (.inl c3)⟩
        · rcases inj with k | k
          · exact usedNew k k1 k2
          · exact hd _ k2 k
        · exact n3 ⟨k1, c3⟩
    · exact f2
end
end Go.Proofs.Ytgfnmhfdmmnaoaa.Eng
namespace Go.Proofs.Ytgfnmhfdmmnaoaa.Eng
open Go Go.RowKit
section
variable {s : ASt} {T : Tab} {U : Nat → Bool}
theorem cellsTo_in {i : TI} {cs : List AV} {c : AV} (h : ∀ c ∈ cs, AV.In U c) (e : cellsTo i cs = some c) : AV.In U c := by
  unfold cellsTo at e
  split at e
  · split at e
    · cases e; exact in_agg.2 (fun c hc => h c (List.mem_of_mem_take hc))
    · cases e
  · exact h c (List.mem_of_head? e)
theorem at_in (h : Inv s) {dr : Bool} {x : AV} {cs : List AV} (hx : AV.In s.used x) (e : s.at dr x = some cs) : ∀ c ∈ cs, AV.In s.used c := by
  unfold ASt.at at e
  split at e
  · cases e; exact in_eptr.1 hx
  · split at e
    · cases e
    · split at e
      · rename_i r hr
        split at e
        · split at e
          · rename_i el hel
            cases e
            exact fun c hc => (h.rw _ r hr).2 el (List.mem_of_getElem? hel) c (List.mem_of_mem_drop hc)
          · cases e
        · cases e
      · cases e
  · cases e
theorem cells_in {x : AV} {xs : List AV} (hx : AV.In U x) (e : avCells x = some xs) : ∀ c ∈ xs, AV.In U c := by
  unfold avCells at e
  split at e
  · cases e
  · cases e
  · cases e
  · cases e; exact in_agg.1 hx
  · cases e; intro c hc; simp at hc; subst hc; exact hx
theorem over_in {cs xs : List AV} {o : Nat} (h : ∀ c ∈ cs, AV.In U c) (k : ∀ c ∈ xs, AV.In U c) : ∀ c ∈ over cs o xs, AV.In U c := by
  intro c hc
  unfold over at hc
  rcases List.mem_append.1 hc with hc | hc
  · rcases List.mem_append.1 hc with hc | hc
    · exact h c (List.mem_of_mem_take hc)
    · exact k c hc
  · exact h c (List.mem_of_mem_drop hc)
theorem zk_in (z : ZK) : AV.In U z.av := by
  cases z
  · exact in_int
  · exact in_bool
  · exact in_str
  · exact in_view.2 (fun e he => by cases he)
  · exact in_any
theorem afill_in {place : Nat → Option (Nat × Nat)} : ∀ {ps : List (Nat × AV)} {cs cs' : List AV}, (∀ p ∈ ps, AV.In U p.2) → (∀ c ∈ cs, AV.In U c) → afill place ps cs = some cs' → ∀ c ∈ cs', AV.In U c
  | [], cs, cs', _, h, e => by unfold afill at e; cases e; exact h
  | (i, x) :: ps, cs, cs', hp, h, e => by
    unfold afill at e
    split at e
    · rename_i o sz xs _ hxs
      split at e
      · exact afill_in (fun p hq => hp p (by simp [hq])) (over_in h (cells_in (hp (i, x) (by simp)) hxs)) e
      · cases e
    · cases e
theorem asCells_in {sz : Nat} : ∀ {ps : List (Nat × AV)} {k : Nat} {es : List (List AV)}, (∀ p ∈ ps, AV.In U p.2) → asCells sz ps k = some es → ∀ e ∈ es, ∀ c ∈ e, AV.In U c
  | [], k, es, _, e => by unfold asCells at e; cases e; exact fun e he => by cases he
  | (i, x) :: ps, k, es, hp, e => by
    unfold asCells at e
    split at e
    · split at e
      · rename_i xs es' hxs hes
        split at e
        · cases e
          intro e he
          rcases List.mem_cons.1 he with rfl | he
          · exact cells_in (hp (i, x) (by simp)) hxs
          · exact asCells_in (fun p hq => hp p (by simp [hq])) hes e he
        · cases e
      · cases e
    · cases e
theorem aps_in (h : Inv s) (ps : Array (Nat × Operand)) : ∀ p ∈ aps s ps, AV.In s.used p.2 := by
  intro p hp
  unfold aps at hp
  rw [List.mem_map] at hp
  obtain ⟨q, _, rfl⟩ := hp
  exact aev_in h q.2
theorem Inv.add (h : Inv s) {id : Nat} {r : Row} (hr : ∀ e ∈ r.es, ∀ c ∈ e, AV.In s.used c) : Inv (s.add id r) := by
  have hm : ∀ k, s.used k = true → (s.add id r).used k = true := fun k hk => by
    simp only [ASt.add]; unfold upd; split
    · rfl
    · exact hk
  refine ⟨fun c hc => (h.tm c hc).mono hm, fun k r' hk => ?_⟩
  simp only [ASt.add] at hk
  by_cases e : k = id
  · subst e
    rw [upd_same] at hk; cases hk
    exact ⟨by simp [ASt.add, upd_same], fun e he c hc => (hr e he c hc).mono hm⟩
  · rw [upd_ne _ _ e] at hk
    exact ⟨hm k (h.rw k r' hk).1, fun e he c hc => ((h.rw k r' hk).2 e he c hc).mono hm⟩
theorem Inv.turn (h : Inv s) {id : Nat} {r : Row} (hu : s.used id = true) (hr : ∀ e ∈ r.es, ∀ c ∈ e, AV.In s.used c) : Inv (s.turn id r) := by
  refine ⟨h.tm, fun k r' hk => ?_⟩
  simp only [ASt.turn] at hk
  by_cases e : k = id
  · subst e
    rw [upd_same] at hk; cases hk
    exact ⟨hu, hr⟩
  · rw [upd_ne _ _ e] at hk; exact h.rw k r' hk
theorem Inv.kill (h : Inv s) {id : Nat} : Inv (s.kill id) := by
  refine ⟨h.tm, fun k r' hk => ?_⟩
  simp only [ASt.kill] at hk
  by_cases e : k = id
  · subst e; rw [upd_same] at hk; cases hk
  · rw [upd_ne _ _ e] at hk; exact h.rw k r' hk
theorem Inv.put (h : Inv s) {d : Option Tmp} {c : AV} (hc : AV.In s.used c) : Inv (s.put d c) := by
  cases d with
  | none => exact h
  | some t =>
    refine ⟨fun c' hc' => ?_, h.rw⟩
    rcases List.mem_or_eq_of_mem_set hc' with hc' | rfl
    · exact h.tm c' hc'
    · exact hc
theorem asrc_in (h : Inv s) {i : TI} {y : AV} {ys : List (List AV)} (hy : AV.In s.used y) (e : asrc s i y = some ys) : ∀ e ∈ ys, ∀ c ∈ e, AV.In s.used c := by
  unfold asrc at e
  split at e
  · split at e
    · cases e; exact in_view.1 hy
    · cases e
  · split at e
    · rename_i r hr
      split at e
      · cases e; exact (h.rw _ r hr).2
      · cases e
    · cases e
  · cases e
theorem ado_in (h : Inv s) {dr : Bool} {md : List Nat} {o : Oper} {c : AV} {s' : ASt} (e : ado T dr md o s = some (c, s')) : AV.In s'.used c ∧ Inv s' := by
  have ev := fun x => aev_in h x
  obtain ⟨dst, op, type, pos, after, guard⟩ := o
  unfold ado at e
  split at e
  all_goals (rename_i heq; dsimp only at heq)
  · cases e; exact ⟨ev _, h⟩
  · cases e; exact ⟨ev _, h⟩
  · simp only [Option.map_eq_some_iff] at e
    obtain ⟨c', e, he⟩ := e; cases he
    unfold apick at e
    split at e
    · cases e; exact ⟨ev _, h⟩
    · cases e; exact ⟨ev _, h⟩
    · cases e
  · simp only [Option.map_eq_some_iff] at e
    obtain ⟨c', e, he⟩ := e; cases he
    refine ⟨?_, h⟩
    replace e := aloadD_some e
    unfold aload at e
    split at e
    · rename_i i cs hi hcs; exact cellsTo_in (at_in h (ev _) hcs) e
    · cases e
  · simp only [Option.map_eq_some_iff] at e
    obtain ⟨c', e, he⟩ := e; cases he
    refine ⟨?_, h⟩
    unfold abin at e
    split at e
    · split at e
      · unfold aint at e
        split at e
        all_goals first | (cases e; done) | (cases e; exact in_int) | (split at e <;> first | (cases e; done) | (cases e; exact in_int)) | (unfold acmp at e; split at e <;> first | (cases e; done) | (cases e; exact in_bool))
      · cases e
    · unfold astr at e
      split at e
      all_goals first | (cases e; done) | (cases e; exact in_bool) | (split at e <;> first | (cases e; done) | (cases e; exact in_str))
    · split at e
      · split at e <;> first | (cases e; done) | (cases e; exact in_bool)
      · cases e
    · cases e
  · simp only [Option.map_eq_some_iff] at e
    obtain ⟨c', e, he⟩ := e; cases he
    refine ⟨?_, h⟩
    unfold aun at e
    split at e
    · cases e; exact in_bool
    · cases e; exact in_int
    · cases e
  · simp only [Option.map_eq_some_iff] at e
    obtain ⟨c', e, he⟩ := e; cases he
    refine ⟨?_, h⟩
    unfold aconv at e
    split at e
    · cases e; exact in_int
    · cases e; exact in_str
    · split at e
      · unfold strV at e
        split at e
        · cases e; exact in_str
        · cases e
      · cases e
    · cases e
  · rename_i ty x f
    simp only [Option.map_eq_some_iff] at e
    obtain ⟨c', e, he⟩ := e; cases he
    refine ⟨?_, h⟩
    have hx := ev x
    unfold afieldAddr at e
    split at e
    · split at e
      · split at e
        · split at e
          · cases e
          · split at e
            · rename_i hq; rw [hq] at hx; cases e
              exact in_eptr.2 (fun c hc => in_eptr.1 hx c (List.mem_of_mem_drop hc))
            · rename_i hq; rw [hq] at hx; cases e; exact in_ptr.2 (in_ptr.1 hx)
            · cases e
        · cases e
      · cases e
    · cases e
  · rename_i ty x f
    simp only [Option.map_eq_some_iff] at e
    obtain ⟨c', e, he⟩ := e; cases he
    refine ⟨?_, h⟩
    have hx := ev x
    unfold afield at e
    split at e
    · rename_i hq
      rw [hq] at hx
      split at e
      · split at e
        · split at e
          · split at e
            · cases e; exact in_agg.2 (fun c hc => in_agg.1 hx c (List.mem_of_mem_drop (List.mem_of_mem_take hc)))
            · cases e
          · exact in_agg.1 hx _ (List.mem_of_getElem? e)
        · cases e
      · cases e
    · cases e
  · rename_i ty x i
    simp only [Option.map_eq_some_iff] at e
    obtain ⟨c', e, he⟩ := e; cases he
    refine ⟨?_, h⟩
    have hx := ev x
    unfold aindexAddr at e
    split at e
    · split at e
      · split at e
        · rename_i hq; rw [hq] at hx
          split at e
          · split at e
            · rename_i el hel; cases e
              exact in_eptr.2 (in_view.1 hx el (List.mem_of_getElem? hel))
            · cases e
          · cases e
        · rename_i hq; rw [hq] at hx
          split at e
          · cases e; exact in_ptr.2 (in_own.1 hx)
          · cases e
        · cases e
      · cases e
    · cases e
  · simp only [Option.map_eq_some_iff] at e
    obtain ⟨c', e, he⟩ := e; cases he
    refine ⟨?_, h⟩
    unfold aindex at e
    split at e
    · split at e
      · split at e
        · cases e; exact in_int
        · cases e
      · cases e
    · cases e
  · rename_i x i
    simp only [Option.map_eq_some_iff] at e
    obtain ⟨c', e, he⟩ := e; cases he
    refine ⟨?_, h⟩
    have hx := ev x
    unfold aextract at e
    split at e
    · rename_i hq; rw [hq] at hx; exact in_tup.1 hx _ (List.mem_of_getElem? e)
    · cases e
  · rename_i x
    simp only [Option.map_eq_some_iff] at e
    obtain ⟨c', e, he⟩ := e; cases he
    refine ⟨?_, h⟩
    have hx := ev x
    unfold anil at e
    split at e
    · rename_i hq; rw [hq] at hx; cases e; exact hx
    · rename_i hq; rw [hq] at hx; cases e; exact hx
    · cases e; exact in_rdr
    · cases e
  · rename_i ty x lo hi
    simp only [Option.map_eq_some_iff] at e
    obtain ⟨c', e, he⟩ := e; cases he
    refine ⟨?_, h⟩
    have hx := ev x
    unfold aslice at e
    split at e
    · split at e
      · split at e
        · cases e; exact in_str
        · cases e
      · cases e
    · rename_i hq; rw [hq] at hx
      split at e
      · split at e
        · split at e
          · cases e; exact in_view.2 (fun el hel => in_view.1 hx el (List.mem_of_mem_take (List.mem_of_mem_drop hel)))
          · cases e
        · cases e
      · cases e
    · cases e
  · rename_i ty ps
    simp only [Option.map_eq_some_iff] at e
    obtain ⟨c', e, he⟩ := e; cases he
    refine ⟨?_, h⟩
    unfold abuild at e
    split at e
    · split at e
      · split at e
        · rename_i cs hcs; cases e
          exact in_agg.2 (afill_in (aps_in h ps) (fun c hc => by rw [List.mem_map] at hc; obtain ⟨z, _, rfl⟩ := hc; exact zk_in z) hcs)
        · cases e
      · cases e
    · cases e
  · rename_i ty n ps
    have hin : ∀ sz es, abuildSlice T ty n (aps s ps) = some (.view .tight sz es) → ∀ e ∈ es, ∀ c ∈ e, AV.In s.used c := fun sz es e => by
      unfold abuildSlice at e
      split at e
      · split at e
        · split at e
          · split at e
            · rename_i es' hes; cases e
              exact asCells_in (aps_in h ps) hes
            · cases e
          · cases e
        · cases e
      · cases e
    split at e
    rotate_left
    · cases e
    rename_i d hd
    split at e
    · cases e
    split at e
    · unfold abuildOwn at e
      split at e
      · split at e
        · rename_i sz es hb
          cases e
          exact ⟨in_own.2 (by simp [ASt.add, upd_same]), h.add (hin _ _ hb)⟩
        · cases e
      · cases e
    simp only [Option.map_eq_some_iff] at e
    obtain ⟨c', e, he⟩ := e; cases he
    refine ⟨?_, h⟩
    unfold abuildSlice at e
    split at e
    · split at e
      · split at e
        · split at e
          · rename_i es hes; cases e
            exact in_view.2 (asCells_in (aps_in h ps) hes)
          · cases e
        · cases e
      · cases e
    · cases e
  · rename_i ty x
    split at e
    · unfold abox at e
      split at e
      · rename_i i cs hi hcs
        split at e
        · cases e
          exact ⟨in_ptr.2 (by simp [ASt.add, upd_same]), h.add (fun e he c hc => by simp at he; subst he; exact cells_in (ev x) hcs c hc)⟩
        · cases e
      · cases e
    · cases e
  · split at e
    · unfold aalloc at e
      split at e
      · split at e
        · cases e
          exact ⟨in_ptr.2 (by simp [ASt.add, upd_same]), h.add (fun e he c hc => by
            simp at he; subst he
            rw [List.mem_map] at hc; obtain ⟨z, _, rfl⟩ := hc; exact zk_in z)⟩
        · cases e
      · cases e
    · cases e
  · rename_i ty p x
    simp only [Option.map_eq_some_iff] at e
    obtain ⟨s1, e, he⟩ := e; cases he
    refine ⟨in_any, ?_⟩
    replace e := astoreD_some e
    unfold astore at e
    split at e
    · rename_i hxs
      split at e
      · rename_i r hr
        split at e
        · split at e
          · rename_i el hel
            cases e
            refine h.turn (h.rw _ r hr).1 (fun e he c hc => ?_)
            rcases List.mem_or_eq_of_mem_set he with he | rfl
            · exact (h.rw _ r hr).2 e he c hc
            · exact over_in ((h.rw _ r hr).2 el (List.mem_of_getElem? hel)) (cells_in (ev x) hxs) c hc
          · cases e
        · cases e
      · cases e
    · cases e
  · simp only [Option.map_eq_some_iff] at e
    obtain ⟨c', e, he⟩ := e; cases he
    refine ⟨?_, h⟩
    unfold alen at e
    split at e <;> first | (cases e; done) | (cases e; exact in_int)
  · rename_i x y ty ty'
    split at e
    · split at e
      · rename_i d hd
        split at e
        · rename_i id r s1 hap
          have key : (∀ e ∈ r.es, ∀ c ∈ e, AV.In s1.used c) ∧ Inv s1 ∧ s1.used id = true := by
            unfold aappend at hap
            split at hap
            · split at hap
              · split at hap
                · rename_i ys hys
                  have hy := asrc_in h (ev y) hys
                  split at hap
                  · split at hap
                    · rename_i r0 hr0
                      split at hap
                      · cases hap
                        have hin : ∀ e ∈ r0.es ++ ys, ∀ c ∈ e, AV.In s.used c := fun e he c hc => (List.mem_append.1 he).elim (fun he => (h.rw _ r0 hr0).2 e he c hc) (fun he => hy e he c hc)
                        exact ⟨hin, h.turn (h.rw _ r0 hr0).1 hin, (h.rw _ r0 hr0).1⟩
                      · cases hap
                    · cases hap
                  · split at hap
                    · cases hap
                      have hA : ∀ r : Row, r.es = ys → (∀ e ∈ r.es, ∀ c ∈ e, AV.In (s.add d r).used c) ∧ Inv (s.add d r) ∧ (s.add d r).used d = true := fun r hr => by
                        have q := h.add (id := d) (r := r) (by rw [hr]; exact hy)
                        exact ⟨(q.rw d r (upd_same _ _ _)).2, q, upd_same _ _ _⟩
                      exact hA _ rfl
                    · cases hap
                  · cases hap
                · cases hap
              · cases hap
            · cases hap
          obtain ⟨k1, k2, k3⟩ := key
          split at e
          · cases e; exact ⟨in_view.2 k1, k2.kill⟩
          · cases e; exact ⟨in_own.2 k3, k2⟩
        · cases e
      · cases e
    · cases e
  · simp only [Option.map_eq_some_iff] at e
    obtain ⟨c', e, he⟩ := e; cases he
    refine ⟨?_, h⟩
    unfold amax at e
    split at e
    · split at e
      · cases e; exact in_int
      · cases e
    · cases e
  · simp only [Option.map_eq_some_iff] at e
    obtain ⟨c', e, he⟩ := e; cases he
    refine ⟨?_, h⟩
    unfold amin at e
    split at e
    · split at e
      · cases e; exact in_int
      · cases e
    · cases e
  · cases e
    refine ⟨in_fn.2 (fun c hc => ?_), h⟩
    obtain ⟨x, _, rfl⟩ := List.mem_map.1 hc
    exact aev_in h x
  · cases e
end
end Go.Proofs.Ytgfnmhfdmmnaoaa.Eng
